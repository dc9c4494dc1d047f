/-
  The walk of math.Trunc: a word cut towards zero, as a word.
  The walks of num.May and of the reference's whole: what each answers, by which whole number a word is.
-/
import Derived.Test.YtkomjmgmancinaaDoorLxB
import Derived.Test.YtkomjmgmancinaaDoorWhole
namespace Go.Proofs.YtkomjmgmancinaaDoor
open Go.RowKit

/-- A word cut towards zero, as a word. -/
def truncW (a : Nat) : Nat := if Fl.fin a then Ieee.double.nearest (Fl.sg a) (Fl.mg (Fl.rg a) / Fl.K) 0 else Ieee.double.word (Fl.sg a) Fl.top

theorem integral_num {x : Nat} {s : Bool} {m : Nat} {p : Int} (h : FloatKind.f64.decode x = .number s m p) (P : Program) (w : World) :
    (Extern.MathFloor.toIntegral "math.archTrunc" .zero #[.float .f64 x]).run P w = .ok (.float .f64 (FloatKind.f64.encode ((Ieee.Datum.number s m p).integral .zero))) w := by
  conv in (Extern.MathFloor.toIntegral _ _ _) => whnf
  rw [h]; rfl

theorem integral_inf {x : Nat} {s : Bool} (h : FloatKind.f64.decode x = .infinity s) (P : Program) (w : World) :
    (Extern.MathFloor.toIntegral "math.archTrunc" .zero #[.float .f64 x]).run P w = .ok (.float .f64 (FloatKind.f64.encode ((Ieee.Datum.infinity s).integral .zero))) w := by
  conv in (Extern.MathFloor.toIntegral _ _ _) => whnf
  rw [h]; rfl

theorem run_archTrunc (a : Nat) (h : Fl.isNaN a = false) (w : World) : (callFunc 87 #[.float .f64 a]).run Tryd.prog w = .ok (.value (.float .f64 (truncW a))) w := by
  rw [run_callFunc_extern (P := Tryd.prog) (f := 87) (fn := Tryd.f87) (e := Extern.MathFloor.toIntegral "math.archTrunc" .zero) (by kernel_rfl) (by kernel_rfl) (by kernel_rfl) (by kernel_rfl) (by kernel_rfl)]
  unfold truncW
  rcases Fl.kinds a with hf | hi | hn
  · have h1 : FloatKind.f64.decode a = .number (Fl.sg a) (Fl.dg (Fl.rg a)) (-1074 + (Fl.pl (Fl.rg a) : Nat)) := Fl.read_fin hf
    have h2 := Fl.integral_fin hf
    rw [h1] at h2
    rw [integral_num h1, h2, if_pos hf]
    rfl
  · have h1 : FloatKind.f64.decode a = .infinity (Fl.sg a) := Fl.read_inf hi
    have hf : ¬ (Fl.fin a = true) := by simp [Fl.fin, hi]
    have e : FloatKind.f64.encode ((Ieee.Datum.infinity (Fl.sg a)).integral .zero) = Ieee.double.word (Fl.sg a) Fl.top := by
      show Ieee.double.word (Fl.sg a) Ieee.double.infRung = _
      rw [Fl.infRung_double]
    rw [integral_inf h1, e, if_neg hf]; rfl
  · rw [hn] at h; cases h

theorem trunc_any (a : Nat) (h : Fl.isNaN a = false) (w : World) :
    Calls Tryd.prog 66 #[.float .f64 a] w fun e w' => e = .returned (.float .f64 (truncW a)) ∧ w = w' := by
  have h1 := run_archTrunc a h
  clear h
  go_enter Tryd.func66, Tryd.ntmps66
  go_wp2
  go_ret
  exact ⟨rfl, rfl⟩

end Go.Proofs.YtkomjmgmancinaaDoor

namespace Go.Proofs.YtkomjmgmancinaaDoor
open Go.RowKit

/-! ### the library's functions -/

theorem run_bits (a : Nat) (w : World) : (callFunc 90 #[.float .f64 a]).run Tryd.prog w = .ok (.value (.int .u64 a)) w := by kernel_rfl

theorem run_frombits (a : Int) (w : World) : (callFunc 89 #[.int .u64 a]).run Tryd.prog w = .ok (.value (.float .f64 a.toNat)) w := by kernel_rfl

theorem andNot_sign (a : Nat) : (bits BinOp.andNot IntKind.u64 (a : Int) 9223372036854775808).toNat = Fl.rg a := by
  have e1 : bits .andNot .u64 (a : Int) 9223372036854775808 = ((a % 2 ^ 64 &&& (2 ^ 63 - 1) : Nat) : Int) := by
    have hx : a % 2 ^ 64 &&& (2 ^ 63 - 1) < 2 ^ 64 := Nat.and_lt_two_pow _ (by omega)
    show IntKind.u64.wrap ((BitVec.ofInt 64 (a : Int) &&& ~~~BitVec.ofInt 64 (9223372036854775808 : Int)).toNat : Int) = _
    rw [BitVec.toNat_and, BitVec.ofInt_natCast, BitVec.toNat_ofNat, show (~~~BitVec.ofInt 64 (9223372036854775808 : Int)).toNat = 2 ^ 63 - 1 by decide, IntKind.wrap_u64]
    omega
  rw [e1, Int.toNat_natCast, Nat.and_two_pow_sub_one_eq_mod]
  unfold Fl.rg
  omega

theorem abs_any (a : Nat) (w : World) :
    Calls Tryd.prog 67 #[.float .f64 a] w fun e w' => e = .returned (.float .f64 (Fl.rg a)) ∧ w = w' := by
  have h1 := run_bits
  have h2 := run_frombits
  go_enter Tryd.func67, Tryd.ntmps67
  go_wp2
  go_ret
  exact ⟨congrArg (fun n => Ending.returned (.float .f64 n)) (andNot_sign a), rfl⟩

theorem wrap_sign (a : Nat) : decide (wrap64 (a : Int) < 0) = Fl.sg a := by
  unfold Fl.sg wrap64
  rw [Bool.eq_iff_iff, decide_eq_true_eq, beq_iff_eq]
  omega

theorem signbit_any (a : Nat) (w : World) :
    Calls Tryd.prog 68 #[.float .f64 a] w fun e w' => e = .returned (.bool (Fl.sg a)) ∧ w = w' := by
  have h1 := run_bits
  go_enter Tryd.func68, Tryd.ntmps68
  go_wp2
  go_ret
  exact ⟨congrArg (fun n => Ending.returned (.bool n)) (wrap_sign a), rfl⟩

/-! ### num.May -/

theorem rg_rg (a : Nat) : Fl.rg (Fl.rg a) = Fl.rg a := by unfold Fl.rg; omega
theorem sg_rg (a : Nat) : Fl.sg (Fl.rg a) = false := by unfold Fl.sg Fl.rg; rw [beq_eq_false_iff_ne]; omega
theorem fin_rg (a : Nat) : Fl.fin (Fl.rg a) = Fl.fin a := by unfold Fl.fin; rw [rg_rg]
theorem sc_rg (a : Nat) : Fl.sc (Fl.rg a) = Fl.mg (Fl.rg a) := by unfold Fl.sc; rw [sg_rg, rg_rg]; rfl

theorem eq_trunc {a : Nat} (hf : Fl.fin a = true) : (FloatKind.f64.format.order (truncW a) a == some .eq) = decide (Fl.tr a * (Fl.K : Int) = Fl.sc a) := by
  unfold truncW
  rw [if_pos hf]
  obtain ⟨h1, h2, h3⟩ := Fl.trunc_fin hf
  rw [Fl.eq_fin h1 hf, h3]

theorem leq_safe {a : Nat} (hf : Fl.fin a = true) :
    (FloatKind.f64.format.order (Fl.rg a) 4845873199050653695 == some .lt || FloatKind.f64.format.order (Fl.rg a) 4845873199050653695 == some .eq) = decide ((Fl.mg (Fl.rg a) : Int) ≤ Fl.safe * (Fl.K : Int)) := by
  have hr : Fl.fin (Fl.rg a) = true := by rw [fin_rg]; exact hf
  rw [Fl.lt_fin hr Fl.is_safe.1, Fl.eq_fin hr Fl.is_safe.1, Fl.is_safe.2.1, sc_rg, Bool.eq_iff_iff]
  simp only [Bool.or_eq_true, decide_eq_true_eq]
  omega

theorem may_fin (a : Nat) (t u z : Bool) (hn : Fl.isNaN a = false) (e1 : (FloatKind.f64.format.order (truncW a) a == some .eq) = t)
    (e2 : (FloatKind.f64.format.order (Fl.rg a) 4845873199050653695 == some .lt || FloatKind.f64.format.order (Fl.rg a) 4845873199050653695 == some .eq) = u)
    (e3 : (FloatKind.f64.format.order a 0 == some .eq) = z) (w : World) :
    Calls Tryd.prog 42 #[.float .f64 a] w fun e w' => e = .returned (.bool (t && u && (!z || !Fl.sg a))) ∧ w = w' := by
  have ha := ordE hn
  have e4 : (FloatKind.f64.format.order a 0 != some .eq) = !z := by rw [bne, e3]
  clear e3
  have Hn := hid hn
  clear hn
  cases t <;> cases u <;> cases z
  all_goals
    simp only [Bool.not_true, Bool.not_false, Bool.true_and, Bool.false_and, Bool.and_false, Bool.true_or, Bool.false_or] at e4 ⊢
    go_enter Tryd.func42, Tryd.ntmps42
    go_wp2_with (first | (go_at_call 66; refine (trunc_any a Hn.out _).mono ?_; rintro e w' ⟨rfl, rfl⟩) | (go_at_call 67; refine (abs_any a _).mono ?_; rintro e w' ⟨rfl, rfl⟩) | (go_at_call 68; refine (signbit_any a _).mono ?_; rintro e w' ⟨rfl, rfl⟩))
    go_ret
    exact ⟨rfl, rfl⟩

theorem may_any (a : Nat) (w : World) :
    Calls Tryd.prog 42 #[.float .f64 a] w fun e w' => e = .returned (.bool (Fl.may a)) ∧ w = w' := by
  rcases Fl.kinds a with hf | hi | hn
  · have hn := Fl.fin_not_nan hf
    have h := may_fin a _ _ _ hn (eq_trunc hf) (leq_safe hf) (Fl.order_0 a hn) w
    rw [← Fl.isW_fin_eq hf] at h
    have hm : Fl.may a = Fl.isW a := by simp [Fl.may, hn]
    rw [hm]; exact h
  · have hn : Fl.isNaN a = false := by simp [Fl.isNaN, hi]
    have hf : Fl.fin a = false := by simp [Fl.fin, hi]
    have e2 : (FloatKind.f64.format.order (Fl.rg a) 4845873199050653695 == some .lt || FloatKind.f64.format.order (Fl.rg a) 4845873199050653695 == some .eq) = false := by
      rw [Fl.order_inf_fin (by rw [rg_rg]; exact hi) Fl.is_safe.1, sg_rg]; rfl
    have h := may_fin a _ _ _ hn rfl e2 (Fl.order_0 a hn) w
    have hm : Fl.may a = false := by simp [Fl.may, hn, Fl.not_isW_inf hf]
    rw [hm]
    simpa using h
  · have ha := ordN hn
    have hm : Fl.may a = true := by simp [Fl.may, hn]
    rw [hm]
    clear hn hm
    go_enter Tryd.func42, Tryd.ntmps42
    go_wp2_with fail
    go_ret
    exact ⟨rfl, rfl⟩

/-! ### the reference's whole -/

theorem nan_fin {a : Nat} (hn : Fl.isNaN a = true) : Fl.fin a = false := by
  rw [← Bool.not_eq_true]; intro h; rw [Fl.fin_not_nan h] at hn; cases hn

theorem lt_inf (a : Nat) : (FloatKind.f64.format.order (Ieee.double.word (Fl.sg a) Fl.top) 0 == some .lt) = Fl.sg a := by
  rw [Fl.order_inf_fin (by cases Fl.sg a <;> decide) Fl.fin_0]
  have : Fl.sg (Ieee.double.word (Fl.sg a) Fl.top) = Fl.sg a := by cases Fl.sg a <;> decide
  rw [this]; cases Fl.sg a <;> rfl

theorem whole_mid (a : Nat) (n : Int) (t z s : Bool)
    (hc : ∀ W : World, (convert 23 2 (.float .f64 a)).run Tryd.prog W = .ok (.int .i64 n) W)
    (e1 : (FloatKind.f64.format.order a 14069245235905429503 == some .gt || FloatKind.f64.format.order a 14069245235905429503 == some .eq) = true)
    (e2 : (FloatKind.f64.format.order a 4845873199050653695 == some .lt || FloatKind.f64.format.order a 4845873199050653695 == some .eq) = true)
    (e3 : (FloatKind.f64.format.order (floatOfInt .f64 n) a == some .eq) = t) (e4 : (FloatKind.f64.format.order a 0 == some .eq) = z)
    (e5 : z = true → ∀ W : World, (binOp .quo 23 (.float .f64 4607182418800017408) (.float .f64 a)).run Tryd.prog W = .ok (.float .f64 (Ieee.double.word (Fl.sg a) Fl.top)) W)
    (e6 : (FloatKind.f64.format.order (Ieee.double.word (Fl.sg a) Fl.top) 0 == some .lt) = s) (w : World) :
    Calls Tryd.prog 49 #[.float .f64 a] w fun e w' => e = .returned (.tuple #[.int .i64 (if t && (!z || !s) then n else 0), .bool (t && (!z || !s))]) ∧ w = w' := by
  have e7 : (FloatKind.f64.format.order (floatOfInt .f64 n) a != some .eq) = !t := by rw [bne, e3]
  clear e3
  cases t <;> cases z
  all_goals simp only [forall_const, Bool.false_eq_true, false_implies] at e5
  all_goals cases s
  all_goals
    simp only [Bool.not_true, Bool.not_false, Bool.true_and, Bool.false_and, Bool.false_or, Bool.true_or, Bool.false_eq_true, if_true, if_false] at e7 ⊢
    go_enter Tryd.func49, Tryd.ntmps49
    go_wp2
    go_ret2
    exact ⟨rfl, rfl⟩

theorem whole_any (a : Nat) (w : World) :
    Calls Tryd.prog 49 #[.float .f64 a] w fun e w' => e = .returned (.tuple #[.int .i64 (Fl.wv a), .bool (Fl.isW a)]) ∧ w = w' := by
  rcases Fl.kinds a with hf | hi | hn
  · have hn := Fl.fin_not_nan hf
    have q1 : (FloatKind.f64.format.order a 14069245235905429503 == some .gt || FloatKind.f64.format.order a 14069245235905429503 == some .eq) = decide (-Fl.safe * (Fl.K : Int) ≤ Fl.sc a) := by
      rw [Fl.gt_fin hf Fl.is_unsafe.1, Fl.eq_fin hf Fl.is_unsafe.1, Fl.is_unsafe.2.1, Bool.eq_iff_iff]
      simp only [Bool.or_eq_true, decide_eq_true_eq]; omega
    have q2 : (FloatKind.f64.format.order a 4845873199050653695 == some .lt || FloatKind.f64.format.order a 4845873199050653695 == some .eq) = decide (Fl.sc a ≤ Fl.safe * (Fl.K : Int)) := by
      rw [Fl.lt_fin hf Fl.is_safe.1, Fl.eq_fin hf Fl.is_safe.1, Fl.is_safe.2.1, Bool.eq_iff_iff]
      simp only [Bool.or_eq_true, decide_eq_true_eq]; omega
    have hw := Fl.isW_fin_eq hf
    by_cases c1 : -Fl.safe * (Fl.K : Int) ≤ Fl.sc a
    · by_cases c2 : Fl.sc a ≤ Fl.safe * (Fl.K : Int)
      · obtain ⟨b1, b2⟩ := Fl.tr_bounds c1 c2
        have hi := Fl.is_nearest (Fl.tr a) (by unfold Fl.safe at b1; omega) (by unfold Fl.safe at b2; omega)
        have hc := fun W : World => run_convert_float_int (P := Tryd.prog) W 23 2 .f64 .i64 a (Fl.tr a) (by rw [Tryd.underlying23]; rfl) Tryd.underlying2 (Fl.toI64 hf b1 b2)
        have q3 : (FloatKind.f64.format.order (floatOfInt .f64 (Fl.tr a)) a == some .eq) = decide (Fl.tr a * (Fl.K : Int) = Fl.sc a) := by
          have e := Fl.eq_fin hi.1 hf
          rw [hi.2.1] at e; exact e
        have hm : (decide ((Fl.mg (Fl.rg a) : Int) ≤ Fl.safe * (Fl.K : Int))) = true := by
          rw [decide_eq_true_eq, Fl.mg_abs]
          rw [Int.neg_mul] at c1
          split <;> omega
        have h := whole_mid a (Fl.tr a) _ _ _ hc (by rw [q1, decide_eq_true_eq]; exact c1) (by rw [q2, decide_eq_true_eq]; exact c2) q3 (Fl.order_0 a hn) (fun hz W => run_div_1_0 a hz 23 W) (lt_inf a) w
        rw [hm, Bool.and_true] at hw
        rw [← hw] at h
        have hv : Fl.wv a = if Fl.isW a then Fl.tr a else 0 := by
          by_cases hb : Fl.isW a = true
          · rw [Fl.wv_eq hb, if_pos hb]
          · unfold Fl.wv; rw [if_neg hb, if_neg hb]
        rw [hv]; exact h
      · have hm : (decide ((Fl.mg (Fl.rg a) : Int) ≤ Fl.safe * (Fl.K : Int))) = false := by
          rw [decide_eq_false_iff_not, Fl.mg_abs]
          rw [Int.neg_mul] at c1
          have : 0 ≤ Fl.safe * (Fl.K : Int) := Int.mul_nonneg (by decide) (by omega)
          split <;> omega
        rw [hm] at hw
        simp only [Bool.and_false, Bool.false_and] at hw
        have hv : Fl.wv a = 0 := by unfold Fl.wv; rw [hw]; rfl
        rw [decide_eq_true c1] at q1
        rw [decide_eq_false c2] at q2
        rw [hw, hv]
        clear hn hw hv hf hm c1 c2
        go_enter Tryd.func49, Tryd.ntmps49
        go_wp2
        go_ret2
        exact ⟨rfl, rfl⟩
    · have hm : (decide ((Fl.mg (Fl.rg a) : Int) ≤ Fl.safe * (Fl.K : Int))) = false := by
        rw [decide_eq_false_iff_not, Fl.mg_abs]
        rw [Int.neg_mul] at c1
        have : 0 ≤ Fl.safe * (Fl.K : Int) := Int.mul_nonneg (by decide) (by omega)
        split <;> omega
      rw [hm] at hw
      simp only [Bool.and_false, Bool.false_and] at hw
      have hv : Fl.wv a = 0 := by unfold Fl.wv; rw [hw]; rfl
      rw [decide_eq_false c1] at q1
      rw [hw, hv]
      clear hn hw hv hf hm c1 q2
      go_enter Tryd.func49, Tryd.ntmps49
      go_wp2
      go_ret2
      exact ⟨rfl, rfl⟩
  · have hn : Fl.isNaN a = false := by simp [Fl.isNaN, hi]
    have hw := Fl.not_isW_inf (b := a) (by simp [Fl.fin, hi])
    have hv : Fl.wv a = 0 := by unfold Fl.wv; rw [hw]; rfl
    have q1 := Fl.order_inf_fin hi Fl.is_unsafe.1
    have q2 := Fl.order_inf_fin hi Fl.is_safe.1
    rw [hw, hv]
    clear hn hw hv hi
    cases hs : Fl.sg a
    all_goals
      rw [hs] at q1 q2
      simp only [Bool.false_eq_true, if_true, if_false] at q1 q2
      clear hs
      go_enter Tryd.func49, Tryd.ntmps49
      go_wp2
      go_ret2
      exact ⟨rfl, rfl⟩
  · have hw := Fl.not_isW_inf (nan_fin hn)
    have hv : Fl.wv a = 0 := by unfold Fl.wv; rw [hw]; rfl
    have ha := ordN hn
    rw [hw, hv]
    clear hn hw hv
    go_enter Tryd.func49, Tryd.ntmps49
    go_wp2
    go_ret2
    exact ⟨rfl, rfl⟩

end Go.Proofs.YtkomjmgmancinaaDoor
