/-
  The reference's May and whole of numbers.
-/
import Derived.Test.YtbkjbpefbdoenaaMayWalk
namespace Go.Proofs.Ytbkjbpefbdoenaa
open Go.RowKit

theorem whole_mid (a : Nat) (n : Int) (t z s : Bool)
    (hc : ∀ W : World, (convert 22 2 (.float .f64 a)).run Try.prog W = .ok (.int .i64 n) W)
    (e1 : (FloatKind.f64.format.order a 14069245235905429503 == some .gt || FloatKind.f64.format.order a 14069245235905429503 == some .eq) = true)
    (e2 : (FloatKind.f64.format.order a 4845873199050653695 == some .lt || FloatKind.f64.format.order a 4845873199050653695 == some .eq) = true)
    (e3 : (FloatKind.f64.format.order (floatOfInt .f64 n) a == some .eq) = t) (e4 : (FloatKind.f64.format.order a 0 == some .eq) = z)
    (e5 : z = true → ∀ W : World, (binOp .quo 22 (.float .f64 4607182418800017408) (.float .f64 a)).run Try.prog W = .ok (.float .f64 (Ieee.double.word (Fl.sg a) Fl.top)) W)
    (e6 : (FloatKind.f64.format.order (Ieee.double.word (Fl.sg a) Fl.top) 0 == some .lt) = s) (w : World) :
    Calls Try.prog 75 #[.float .f64 a] w fun e w' => e = .returned (.tuple #[.int .i64 (if t && (!z || !s) then n else 0), .bool (t && (!z || !s))]) ∧ w = w' := by
  have e7 : (FloatKind.f64.format.order (floatOfInt .f64 n) a != some .eq) = !t := by rw [bne, e3]
  clear e3
  cases t <;> cases z
  all_goals simp only [forall_const, Bool.false_eq_true, false_implies] at e5
  all_goals cases s
  all_goals
    simp only [Bool.not_true, Bool.not_false, Bool.true_and, Bool.false_and, Bool.false_or, Bool.true_or, Bool.false_eq_true, if_true, if_false] at e7 ⊢
    go_enter Try.func75, Try.ntmps75
    go_wp2
    go_ret2
    exact ⟨rfl, rfl⟩

theorem whole_any (a : Nat) (w : World) :
    Calls Try.prog 75 #[.float .f64 a] w fun e w' => e = .returned (.tuple #[.int .i64 (Fl.wv a), .bool (Fl.isW a)]) ∧ w = w' := by
  rcases Fl.kinds a with hf | hi | hn
  · have hn := Fl.fin_not_nan hf
    have q1 : (FloatKind.f64.format.order a 14069245235905429503 == some .gt || FloatKind.f64.format.order a 14069245235905429503 == some .eq) = decide (-Fl.safe * (Fl.K : Int) ≤ Fl.sc a) := by
      rw [Fl.gt_fin hf Fl.is_unsafe.1, Fl.eq_fin hf Fl.is_unsafe.1, Fl.is_unsafe.2.1, Bool.eq_iff_iff]
      simp only [Bool.or_eq_true, decide_eq_true_eq]; omega
    have q2 : (FloatKind.f64.format.order a 4845873199050653695 == some .lt || FloatKind.f64.format.order a 4845873199050653695 == some .eq) = decide (Fl.sc a ≤ Fl.safe * (Fl.K : Int)) := by
      rw [Fl.lt_fin hf Fl.is_safe.1, Fl.eq_fin hf Fl.is_safe.1, Fl.is_safe.2.1, Bool.eq_iff_iff]
      simp only [Bool.or_eq_true, decide_eq_true_eq]; omega
    have hw := Fl.isW_fin_eq hf
    by_cases c1 : -Fl.safe * (Fl.K : Int) ≤ Fl.sc a
    · by_cases c2 : Fl.sc a ≤ Fl.safe * (Fl.K : Int)
      · obtain ⟨b1, b2⟩ := Fl.tr_bounds c1 c2
        have hi := Fl.is_nearest (Fl.tr a) (by unfold Fl.safe at b1; omega) (by unfold Fl.safe at b2; omega)
        have hc := fun W : World => run_convert_float_int (P := Try.prog) W 22 2 .f64 .i64 a (Fl.tr a) (by rw [Try.underlying22]; rfl) Try.underlying2 (Fl.toI64 hf b1 b2)
        have q3 : (FloatKind.f64.format.order (floatOfInt .f64 (Fl.tr a)) a == some .eq) = decide (Fl.tr a * (Fl.K : Int) = Fl.sc a) := by
          have e := Fl.eq_fin hi.1 hf
          rw [hi.2.1] at e; exact e
        have hm : (decide ((Fl.mg (Fl.rg a) : Int) ≤ Fl.safe * (Fl.K : Int))) = true := by
          rw [decide_eq_true_eq, Fl.mg_abs]
          rw [Int.neg_mul] at c1
          split <;> omega
        have h := whole_mid a (Fl.tr a) _ _ _ hc (by rw [q1, decide_eq_true_eq]; exact c1) (by rw [q2, decide_eq_true_eq]; exact c2) q3 (Fl.order_0 a hn) (fun hz W => run_div_1_0 a hz 22 W) (lt_inf a) w
        rw [hm, Bool.and_true] at hw
        rw [← hw] at h
        have hv : Fl.wv a = if Fl.isW a then Fl.tr a else 0 := by
          by_cases hb : Fl.isW a = true
          · rw [Fl.wv_eq hb, if_pos hb]
          · unfold Fl.wv; rw [if_neg hb, if_neg hb]
        rw [hv]; exact h
      · have hm : (decide ((Fl.mg (Fl.rg a) : Int) ≤ Fl.safe * (Fl.K : Int))) = false := by
          rw [decide_eq_false_iff_not, Fl.mg_abs]
          rw [Int.neg_mul] at c1
          have : 0 ≤ Fl.safe * (Fl.K : Int) := Int.mul_nonneg (by decide) (by omega)
          split <;> omega
        rw [hm] at hw
        simp only [Bool.and_false, Bool.false_and] at hw
        have hv : Fl.wv a = 0 := by unfold Fl.wv; rw [hw]; rfl
        rw [decide_eq_true c1] at q1
        rw [decide_eq_false c2] at q2
        rw [hw, hv]
        clear hn hw hv hf hm c1 c2
        go_enter Try.func75, Try.ntmps75
        go_wp2
        go_ret2
        exact ⟨rfl, rfl⟩
    · have hm : (decide ((Fl.mg (Fl.rg a) : Int) ≤ Fl.safe * (Fl.K : Int))) = false := by
        rw [decide_eq_false_iff_not, Fl.mg_abs]
        rw [Int.neg_mul] at c1
        have : 0 ≤ Fl.safe * (Fl.K : Int) := Int.mul_nonneg (by decide) (by omega)
        split <;> omega
      rw [hm] at hw
      simp only [Bool.and_false, Bool.false_and] at hw
      have hv : Fl.wv a = 0 := by unfold Fl.wv; rw [hw]; rfl
      rw [decide_eq_false c1] at q1
      rw [hw, hv]
      clear hn hw hv hf hm c1 q2
      go_enter Try.func75, Try.ntmps75
      go_wp2
      go_ret2
      exact ⟨rfl, rfl⟩
  · have hn : Fl.isNaN a = false := by simp [Fl.isNaN, hi]
    have hw := Fl.not_isW_inf (b := a) (by simp [Fl.fin, hi])
    have hv : Fl.wv a = 0 := by unfold Fl.wv; rw [hw]; rfl
    have q1 := Fl.order_inf_fin hi Fl.is_unsafe.1
    have q2 := Fl.order_inf_fin hi Fl.is_safe.1
    rw [hw, hv]
    clear hn hw hv hi
    cases hs : Fl.sg a
    all_goals
      rw [hs] at q1 q2
      simp only [Bool.false_eq_true, if_true, if_false] at q1 q2
      clear hs
      go_enter Try.func75, Try.ntmps75
      go_wp2
      go_ret2
      exact ⟨rfl, rfl⟩
  · have hw := Fl.not_isW_inf (nan_fin hn)
    have hv : Fl.wv a = 0 := by unfold Fl.wv; rw [hw]; rfl
    have ha := ordN hn
    rw [hw, hv]
    clear hn hw hv
    go_enter Try.func75, Try.ntmps75
    go_wp2
    go_ret2
    exact ⟨rfl, rfl⟩

theorem refMay_any (a : Nat) (w : World) :
    Calls Try.prog 53 #[.float .f64 a] w fun e w' => e = .returned (.bool (Fl.may a)) ∧ w = w' := by
  have h : ∀ i n : Bool, Fl.isW a = i → Fl.isNaN a = n → Calls Try.prog 53 #[.float .f64 a] w fun e w' => e = .returned (.bool (n || i)) ∧ w = w' := by
    intro i n hi hn
    have ha : (FloatKind.f64.format.order a a != some .eq) = n := by
      cases n
      · rw [ordE hn]; rfl
      · rw [ordN hn]; rfl
    clear hn
    have Hi := hid hi
    clear hi
    cases i <;> cases n
    all_goals
      go_enter Try.func53, Try.ntmps53
      go_wp2_with fail
      refine (whole_any a _).mono ?_; rintro e w' ⟨rfl, rfl⟩
      rw [Hi.out]
      go_wp2_with fail
      go_ret
      exact ⟨rfl, rfl⟩
  exact h _ _ rfl rfl

end Go.Proofs.Ytbkjbpefbdoenaa
