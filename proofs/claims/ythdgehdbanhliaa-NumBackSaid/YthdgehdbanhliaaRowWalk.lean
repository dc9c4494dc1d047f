/-
  The walks of num.May, Int, Index, Less and of the reference's whole, May, Int, Index, Less: what each answers, by which whole number a word is.
-/
import Derived.Test.YthdgehdbanhliaaKit
import Derived.Test.YthdgehdbanhliaaWhole
namespace Go.Proofs.Ythdgehdbanhliaa
open Go.RowKit

/-! ### the library's functions -/

/-- A word cut towards zero, as a word. -/
def truncW (a : Nat) : Nat := if Fl.fin a then Ieee.double.nearest (Fl.sg a) (Fl.mg (Fl.rg a) / Fl.K) 0 else Ieee.double.word (Fl.sg a) Fl.top

theorem integral_num {x : Nat} {s : Bool} {m : Nat} {p : Int} (h : FloatKind.f64.decode x = .number s m p) (P : Program) (w : World) :
    (Extern.MathFloor.toIntegral "math.archTrunc" .zero #[.float .f64 x]).run P w = .ok (.float .f64 (FloatKind.f64.encode ((Ieee.Datum.number s m p).integral .zero))) w := by
  conv in (Extern.MathFloor.toIntegral _ _ _) => whnf
  rw [h]; rfl

theorem integral_inf {x : Nat} {s : Bool} (h : FloatKind.f64.decode x = .infinity s) (P : Program) (w : World) :
    (Extern.MathFloor.toIntegral "math.archTrunc" .zero #[.float .f64 x]).run P w = .ok (.float .f64 (FloatKind.f64.encode ((Ieee.Datum.infinity s).integral .zero))) w := by
  conv in (Extern.MathFloor.toIntegral _ _ _) => whnf
  rw [h]; rfl

theorem run_archTrunc (a : Nat) (h : Fl.isNaN a = false) (w : World) : (callFunc 45 #[.float .f64 a]).run Try.prog w = .ok (.value (.float .f64 (truncW a))) w := by
  rw [run_callFunc_extern (P := Try.prog) (f := 45) (fn := Try.f45) (e := Extern.MathFloor.toIntegral "math.archTrunc" .zero) (by kernel_rfl) (by kernel_rfl) (by kernel_rfl) (by kernel_rfl) (by kernel_rfl)]
  unfold truncW
  rcases Fl.kinds a with hf | hi | hn
  · have h1 : FloatKind.f64.decode a = .number (Fl.sg a) (Fl.dg (Fl.rg a)) (-1074 + (Fl.pl (Fl.rg a) : Nat)) := Fl.read_fin hf
    have h2 := Fl.integral_fin hf
    rw [h1] at h2
    rw [integral_num h1, h2, if_pos hf]
    rfl
  · have h1 : FloatKind.f64.decode a = .infinity (Fl.sg a) := Fl.read_inf hi
    have hf : ¬ (Fl.fin a = true) := by simp [Fl.fin, hi]
    have e : FloatKind.f64.encode ((Ieee.Datum.infinity (Fl.sg a)).integral .zero) = Ieee.double.word (Fl.sg a) Fl.top := by
      show Ieee.double.word (Fl.sg a) Ieee.double.infRung = _
      rw [Fl.infRung_double]
    rw [integral_inf h1, e, if_neg hf]; rfl
  · rw [hn] at h; cases h

theorem run_bits (a : Nat) (w : World) : (callFunc 48 #[.float .f64 a]).run Try.prog w = .ok (.value (.int .u64 a)) w := by kernel_rfl

theorem run_frombits (a : Int) (w : World) : (callFunc 47 #[.int .u64 a]).run Try.prog w = .ok (.value (.float .f64 a.toNat)) w := by kernel_rfl

theorem trunc_any (a : Nat) (h : Fl.isNaN a = false) (w : World) :
    Calls Try.prog 35 #[.float .f64 a] w fun e w' => e = .returned (.float .f64 (truncW a)) ∧ w = w' := by
  have h1 := run_archTrunc a h
  clear h
  go_enter Try.func35, Try.ntmps35
  go_wp2
  go_ret
  exact ⟨rfl, rfl⟩

theorem andNot_sign (a : Nat) : (bits BinOp.andNot IntKind.u64 (a : Int) 9223372036854775808).toNat = Fl.rg a := by
  have e1 : bits .andNot .u64 (a : Int) 9223372036854775808 = ((a % 2 ^ 64 &&& (2 ^ 63 - 1) : Nat) : Int) := by
    have hx : a % 2 ^ 64 &&& (2 ^ 63 - 1) < 2 ^ 64 := Nat.and_lt_two_pow _ (by omega)
    show IntKind.u64.wrap ((BitVec.ofInt 64 (a : Int) &&& ~~~BitVec.ofInt 64 (9223372036854775808 : Int)).toNat : Int) = _
    rw [BitVec.toNat_and, BitVec.ofInt_natCast, BitVec.toNat_ofNat, show (~~~BitVec.ofInt 64 (9223372036854775808 : Int)).toNat = 2 ^ 63 - 1 by decide, IntKind.wrap_u64]
    omega
  rw [e1, Int.toNat_natCast, Nat.and_two_pow_sub_one_eq_mod]
  unfold Fl.rg
  omega

theorem abs_any (a : Nat) (w : World) :
    Calls Try.prog 36 #[.float .f64 a] w fun e w' => e = .returned (.float .f64 (Fl.rg a)) ∧ w = w' := by
  have h1 := run_bits
  have h2 := run_frombits
  go_enter Try.func36, Try.ntmps36
  go_wp2
  go_ret
  exact ⟨congrArg (fun n => Ending.returned (.float .f64 n)) (andNot_sign a), rfl⟩

theorem wrap_sign (a : Nat) : decide (wrap64 (a : Int) < 0) = Fl.sg a := by
  unfold Fl.sg wrap64
  rw [Bool.eq_iff_iff, decide_eq_true_eq, beq_iff_eq]
  omega

theorem signbit_any (a : Nat) (w : World) :
    Calls Try.prog 37 #[.float .f64 a] w fun e w' => e = .returned (.bool (Fl.sg a)) ∧ w = w' := by
  have h1 := run_bits
  go_enter Try.func37, Try.ntmps37
  go_wp2
  go_ret
  exact ⟨congrArg (fun n => Ending.returned (.bool n)) (wrap_sign a), rfl⟩

/-! ### num.May -/

theorem rg_rg (a : Nat) : Fl.rg (Fl.rg a) = Fl.rg a := by unfold Fl.rg; omega
theorem sg_rg (a : Nat) : Fl.sg (Fl.rg a) = false := by unfold Fl.sg Fl.rg; rw [beq_eq_false_iff_ne]; omega
theorem fin_rg (a : Nat) : Fl.fin (Fl.rg a) = Fl.fin a := by unfold Fl.fin; rw [rg_rg]
theorem sc_rg (a : Nat) : Fl.sc (Fl.rg a) = Fl.mg (Fl.rg a) := by unfold Fl.sc; rw [sg_rg, rg_rg]; rfl

theorem eq_trunc {a : Nat} (hf : Fl.fin a = true) : (FloatKind.f64.format.order (truncW a) a == some .eq) = decide (Fl.tr a * (Fl.K : Int) = Fl.sc a) := by
  unfold truncW
  rw [if_pos hf]
  obtain ⟨h1, h2, h3⟩ := Fl.trunc_fin hf
  rw [Fl.eq_fin h1 hf, h3]

theorem leq_safe {a : Nat} (hf : Fl.fin a = true) :
    (FloatKind.f64.format.order (Fl.rg a) 4845873199050653695 == some .lt || FloatKind.f64.format.order (Fl.rg a) 4845873199050653695 == some .eq) = decide ((Fl.mg (Fl.rg a) : Int) ≤ Fl.safe * (Fl.K : Int)) := by
  have hr : Fl.fin (Fl.rg a) = true := by rw [fin_rg]; exact hf
  rw [Fl.lt_fin hr Fl.is_safe.1, Fl.eq_fin hr Fl.is_safe.1, Fl.is_safe.2.1, sc_rg, Bool.eq_iff_iff]
  simp only [Bool.or_eq_true, decide_eq_true_eq]
  omega

theorem may_fin (a : Nat) (t u z : Bool) (hn : Fl.isNaN a = false) (e1 : (FloatKind.f64.format.order (truncW a) a == some .eq) = t)
    (e2 : (FloatKind.f64.format.order (Fl.rg a) 4845873199050653695 == some .lt || FloatKind.f64.format.order (Fl.rg a) 4845873199050653695 == some .eq) = u)
    (e3 : (FloatKind.f64.format.order a 0 == some .eq) = z) (w : World) :
    Calls Try.prog 17 #[.float .f64 a] w fun e w' => e = .returned (.bool (t && u && (!z || !Fl.sg a))) ∧ w = w' := by
  have ha := ordE hn
  have e4 : (FloatKind.f64.format.order a 0 != some .eq) = !z := by rw [bne, e3]
  clear e3
  have Hn := hid hn
  clear hn
  cases t <;> cases u <;> cases z
  all_goals
    simp only [Bool.not_true, Bool.not_false, Bool.true_and, Bool.false_and, Bool.and_false, Bool.true_or, Bool.false_or] at e4 ⊢
    go_enter Try.func17, Try.ntmps17
    go_wp2_with (first | (go_at_call 35; refine (trunc_any a Hn.out _).mono ?_; rintro e w' ⟨rfl, rfl⟩) | (go_at_call 36; refine (abs_any a _).mono ?_; rintro e w' ⟨rfl, rfl⟩) | (go_at_call 37; refine (signbit_any a _).mono ?_; rintro e w' ⟨rfl, rfl⟩))
    go_ret
    exact ⟨rfl, rfl⟩

theorem may_any (a : Nat) (w : World) :
    Calls Try.prog 17 #[.float .f64 a] w fun e w' => e = .returned (.bool (Fl.may a)) ∧ w = w' := by
  rcases Fl.kinds a with hf | hi | hn
  · have hn := Fl.fin_not_nan hf
    have h := may_fin a _ _ _ hn (eq_trunc hf) (leq_safe hf) (Fl.order_0 a hn) w
    rw [← Fl.isW_fin_eq hf] at h
    have hm : Fl.may a = Fl.isW a := by simp [Fl.may, hn]
    rw [hm]; exact h
  · have hn : Fl.isNaN a = false := by simp [Fl.isNaN, hi]
    have hf : Fl.fin a = false := by simp [Fl.fin, hi]
    have e2 : (FloatKind.f64.format.order (Fl.rg a) 4845873199050653695 == some .lt || FloatKind.f64.format.order (Fl.rg a) 4845873199050653695 == some .eq) = false := by
      rw [Fl.order_inf_fin (by rw [rg_rg]; exact hi) Fl.is_safe.1, sg_rg]; rfl
    have h := may_fin a _ _ _ hn rfl e2 (Fl.order_0 a hn) w
    have hm : Fl.may a = false := by simp [Fl.may, hn, Fl.not_isW_inf hf]
    rw [hm]
    simpa using h
  · have ha := ordN hn
    have hm : Fl.may a = true := by simp [Fl.may, hn]
    rw [hm]
    clear hn hm
    go_enter Try.func17, Try.ntmps17
    go_wp2_with fail
    go_ret
    exact ⟨rfl, rfl⟩

/-! ### the reference's whole -/

theorem nan_fin {a : Nat} (hn : Fl.isNaN a = true) : Fl.fin a = false := by
  rw [← Bool.not_eq_true]; intro h; rw [Fl.fin_not_nan h] at hn; cases hn

theorem lt_inf (a : Nat) : (FloatKind.f64.format.order (Ieee.double.word (Fl.sg a) Fl.top) 0 == some .lt) = Fl.sg a := by
  rw [Fl.order_inf_fin (by cases Fl.sg a <;> decide) Fl.fin_0]
  have : Fl.sg (Ieee.double.word (Fl.sg a) Fl.top) = Fl.sg a := by cases Fl.sg a <;> decide
  rw [this]; cases Fl.sg a <;> rfl

theorem whole_mid (a : Nat) (n : Int) (t z s : Bool)
    (hc : ∀ W : World, (convert 22 2 (.float .f64 a)).run Try.prog W = .ok (.int .i64 n) W)
    (e1 : (FloatKind.f64.format.order a 14069245235905429503 == some .gt || FloatKind.f64.format.order a 14069245235905429503 == some .eq) = true)
    (e2 : (FloatKind.f64.format.order a 4845873199050653695 == some .lt || FloatKind.f64.format.order a 4845873199050653695 == some .eq) = true)
    (e3 : (FloatKind.f64.format.order (floatOfInt .f64 n) a == some .eq) = t) (e4 : (FloatKind.f64.format.order a 0 == some .eq) = z)
    (e5 : z = true → ∀ W : World, (binOp .quo 22 (.float .f64 4607182418800017408) (.float .f64 a)).run Try.prog W = .ok (.float .f64 (Ieee.double.word (Fl.sg a) Fl.top)) W)
    (e6 : (FloatKind.f64.format.order (Ieee.double.word (Fl.sg a) Fl.top) 0 == some .lt) = s) (w : World) :
    Calls Try.prog 33 #[.float .f64 a] w fun e w' => e = .returned (.tuple #[.int .i64 (if t && (!z || !s) then n else 0), .bool (t && (!z || !s))]) ∧ w = w' := by
  have e7 : (FloatKind.f64.format.order (floatOfInt .f64 n) a != some .eq) = !t := by rw [bne, e3]
  clear e3
  cases t <;> cases z
  all_goals simp only [forall_const, Bool.false_eq_true, false_implies] at e5
  all_goals cases s
  all_goals
    simp only [Bool.not_true, Bool.not_false, Bool.true_and, Bool.false_and, Bool.false_or, Bool.true_or, Bool.false_eq_true, if_true, if_false] at e7 ⊢
    go_enter Try.func33, Try.ntmps33
    go_wp2
    go_ret2
    exact ⟨rfl, rfl⟩

theorem whole_any (a : Nat) (w : World) :
    Calls Try.prog 33 #[.float .f64 a] w fun e w' => e = .returned (.tuple #[.int .i64 (Fl.wv a), .bool (Fl.isW a)]) ∧ w = w' := by
  rcases Fl.kinds a with hf | hi | hn
  · have hn := Fl.fin_not_nan hf
    have q1 : (FloatKind.f64.format.order a 14069245235905429503 == some .gt || FloatKind.f64.format.order a 14069245235905429503 == some .eq) = decide (-Fl.safe * (Fl.K : Int) ≤ Fl.sc a) := by
      rw [Fl.gt_fin hf Fl.is_unsafe.1, Fl.eq_fin hf Fl.is_unsafe.1, Fl.is_unsafe.2.1, Bool.eq_iff_iff]
      simp only [Bool.or_eq_true, decide_eq_true_eq]; omega
    have q2 : (FloatKind.f64.format.order a 4845873199050653695 == some .lt || FloatKind.f64.format.order a 4845873199050653695 == some .eq) = decide (Fl.sc a ≤ Fl.safe * (Fl.K : Int)) := by
      rw [Fl.lt_fin hf Fl.is_safe.1, Fl.eq_fin hf Fl.is_safe.1, Fl.is_safe.2.1, Bool.eq_iff_iff]
      simp only [Bool.or_eq_true, decide_eq_true_eq]; omega
    have hw := Fl.isW_fin_eq hf
    by_cases c1 : -Fl.safe * (Fl.K : Int) ≤ Fl.sc a
    · by_cases c2 : Fl.sc a ≤ Fl.safe * (Fl.K : Int)
      · obtain ⟨b1, b2⟩ := Fl.tr_bounds c1 c2
        have hi := Fl.is_nearest (Fl.tr a) (by unfold Fl.safe at b1; omega) (by unfold Fl.safe at b2; omega)
        have hc := fun W : World => run_convert_float_int (P := Try.prog) W 22 2 .f64 .i64 a (Fl.tr a) (by rw [Try.underlying22]; rfl) Try.underlying2 (Fl.toI64 hf b1 b2)
        have q3 : (FloatKind.f64.format.order (floatOfInt .f64 (Fl.tr a)) a == some .eq) = decide (Fl.tr a * (Fl.K : Int) = Fl.sc a) := by
          have e := Fl.eq_fin hi.1 hf
          rw [hi.2.1] at e; exact e
        have hm : (decide ((Fl.mg (Fl.rg a) : Int) ≤ Fl.safe * (Fl.K : Int))) = true := by
          rw [decide_eq_true_eq, Fl.mg_abs]
          rw [Int.neg_mul] at c1
          split <;> omega
        have h := whole_mid a (Fl.tr a) _ _ _ hc (by rw [q1, decide_eq_true_eq]; exact c1) (by rw [q2, decide_eq_true_eq]; exact c2) q3 (Fl.order_0 a hn) (fun hz W => run_div_1_0 a hz 22 W) (lt_inf a) w
        rw [hm, Bool.and_true] at hw
        rw [← hw] at h
        have hv : Fl.wv a = if Fl.isW a then Fl.tr a else 0 := by
          by_cases hb : Fl.isW a = true
          · rw [Fl.wv_eq hb, if_pos hb]
          · unfold Fl.wv; rw [if_neg hb, if_neg hb]
        rw [hv]; exact h
      · have hm : (decide ((Fl.mg (Fl.rg a) : Int) ≤ Fl.safe * (Fl.K : Int))) = false := by
          rw [decide_eq_false_iff_not, Fl.mg_abs]
          rw [Int.neg_mul] at c1
          have : 0 ≤ Fl.safe * (Fl.K : Int) := Int.mul_nonneg (by decide) (by omega)
          split <;> omega
        rw [hm] at hw
        simp only [Bool.and_false, Bool.false_and] at hw
        have hv : Fl.wv a = 0 := by unfold Fl.wv; rw [hw]; rfl
        rw [decide_eq_true c1] at q1
        rw [decide_eq_false c2] at q2
        rw [hw, hv]
        clear hn hw hv hf hm c1 c2
        go_enter Try.func33, Try.ntmps33
        go_wp2
        go_ret2
        exact ⟨rfl, rfl⟩
    · have hm : (decide ((Fl.mg (Fl.rg a) : Int) ≤ Fl.safe * (Fl.K : Int))) = false := by
        rw [decide_eq_false_iff_not, Fl.mg_abs]
        rw [Int.neg_mul] at c1
        have : 0 ≤ Fl.safe * (Fl.K : Int) := Int.mul_nonneg (by decide) (by omega)
        split <;> omega
      rw [hm] at hw
      simp only [Bool.and_false, Bool.false_and] at hw
      have hv : Fl.wv a = 0 := by unfold Fl.wv; rw [hw]; rfl
      rw [decide_eq_false c1] at q1
      rw [hw, hv]
      clear hn hw hv hf hm c1 q2
      go_enter Try.func33, Try.ntmps33
      go_wp2
      go_ret2
      exact ⟨rfl, rfl⟩
  · have hn : Fl.isNaN a = false := by simp [Fl.isNaN, hi]
    have hw := Fl.not_isW_inf (b := a) (by simp [Fl.fin, hi])
    have hv : Fl.wv a = 0 := by unfold Fl.wv; rw [hw]; rfl
    have q1 := Fl.order_inf_fin hi Fl.is_unsafe.1
    have q2 := Fl.order_inf_fin hi Fl.is_safe.1
    rw [hw, hv]
    clear hn hw hv hi
    cases hs : Fl.sg a
    all_goals
      rw [hs] at q1 q2
      simp only [Bool.false_eq_true, if_true, if_false] at q1 q2
      clear hs
      go_enter Try.func33, Try.ntmps33
      go_wp2
      go_ret2
      exact ⟨rfl, rfl⟩
  · have hw := Fl.not_isW_inf (nan_fin hn)
    have hv : Fl.wv a = 0 := by unfold Fl.wv; rw [hw]; rfl
    have ha := ordN hn
    rw [hw, hv]
    clear hn hw hv
    go_enter Try.func33, Try.ntmps33
    go_wp2
    go_ret2
    exact ⟨rfl, rfl⟩

/-! ### the reference's May, the two Index, the two Less -/

theorem refMay_any (a : Nat) (w : World) :
    Calls Try.prog 32 #[.float .f64 a] w fun e w' => e = .returned (.bool (Fl.may a)) ∧ w = w' := by
  have h : ∀ i n : Bool, Fl.isW a = i → Fl.isNaN a = n → Calls Try.prog 32 #[.float .f64 a] w fun e w' => e = .returned (.bool (n || i)) ∧ w = w' := by
    intro i n hi hn
    have ha : (FloatKind.f64.format.order a a != some .eq) = n := by
      cases n
      · rw [ordE hn]; rfl
      · rw [ordN hn]; rfl
    clear hn
    have Hi := hid hi
    clear hi
    cases i <;> cases n
    all_goals
      go_enter Try.func32, Try.ntmps32
      go_wp2_with fail
      refine (whole_any a _).mono ?_; rintro e w' ⟨rfl, rfl⟩
      rw [Hi.out]
      go_wp2_with fail
      go_ret
      exact ⟨rfl, rfl⟩
  exact h _ _ rfl rfl

/-- Is a word an index? -/
def isX (a : Nat) : Bool := Fl.isW a && decide (0 ≤ Fl.wv a) && decide (Fl.wv a < 1024)
/-- Which. -/
def xv (a : Nat) : Int := if isX a then Fl.wv a else 0

theorem refIndex_any (a : Nat) (w : World) :
    Calls Try.prog 8 #[.float .f64 a] w fun e w' => e = .returned (.tuple #[.int .i64 (xv a), .bool (isX a)]) ∧ w = w' := by
  have h : ∀ (i : Bool) (n : Int), Fl.isW a = i → Fl.wv a = n → Calls Try.prog 8 #[.float .f64 a] w fun e w' => e = .returned (.tuple #[.int .i64 (if i && decide (0 ≤ n) && decide (n < 1024) then n else 0), .bool (i && decide (0 ≤ n) && decide (n < 1024))]) ∧ w = w' := by
    intro i n hi hn
    have Hi := hid hi
    have Hn := hid hn
    clear hi hn
    cases i
    · go_enter Try.func8, Try.ntmps8
      go_wp2_with fail
      refine (whole_any a _).mono ?_; rintro e w' ⟨rfl, rfl⟩
      rw [Hi.out]
      go_wp2_with fail
      go_ret2
      exact ⟨rfl, rfl⟩
    · by_cases h1 : 0 ≤ n
      · by_cases h2 : n < 1024
        · have hf : (true && decide (0 ≤ n) && decide (n < 1024)) = true := by simp [h1, h2]
          rw [hf]
          clear hf
          go_enter Try.func8, Try.ntmps8
          go_wp2_with fail
          refine (whole_any a _).mono ?_; rintro e w' ⟨rfl, rfl⟩
          rw [Hi.out, Hn.out]
          go_wp2_with fail
          go_ret2
          exact ⟨rfl, rfl⟩
        · have hf : (true && decide (0 ≤ n) && decide (n < 1024)) = false := by simp [h2]
          rw [hf]
          clear hf
          go_enter Try.func8, Try.ntmps8
          go_wp2_with fail
          refine (whole_any a _).mono ?_; rintro e w' ⟨rfl, rfl⟩
          rw [Hi.out, Hn.out]
          go_wp2_with fail
          go_ret2
          exact ⟨rfl, rfl⟩
      · have hf : (true && decide (0 ≤ n) && decide (n < 1024)) = false := by simp [h1]
        rw [hf]
        clear hf
        go_enter Try.func8, Try.ntmps8
        go_wp2_with fail
        refine (whole_any a _).mono ?_; rintro e w' ⟨rfl, rfl⟩
        rw [Hi.out, Hn.out]
        go_wp2_with fail
        go_ret2
        exact ⟨rfl, rfl⟩
  exact h _ _ rfl rfl

theorem index_any (a : Nat) (w : World) :
    Calls Try.prog 7 #[.float .f64 a] w fun e w' => e = .returned (.tuple #[.int .i64 (xv a), .bool (isX a)]) ∧ w = w' := by
  by_cases hn : Fl.isNaN a = true
  · have hx : isX a = false := by unfold isX; rw [Fl.not_isW_inf (nan_fin hn)]; rfl
    have hv : xv a = 0 := by unfold xv; rw [hx]; rfl
    have ha := ordN hn
    rw [hx, hv]
    clear hn hx hv
    go_enter Try.func7, Try.ntmps7
    go_wp2_with fail
    go_ret2
    exact ⟨rfl, rfl⟩
  · rw [Bool.not_eq_true] at hn
    have ha := ordE hn
    by_cases hi : Fl.isW a = true
    · obtain ⟨h1, h2, h3⟩ := (Fl.isW_iff a).1 hi
      have hw := Fl.wv_eq hi
      have ht := Fl.tr_of_is h1
      have q1 : (FloatKind.f64.format.order a 0 == some .lt) = decide (Fl.wv a < 0) := by
        rw [Fl.order_is h1 Fl.is_0, hw, ht]; exact Fl.compare_lt_iff _ _
      have q2 : (FloatKind.f64.format.order a 4652218415073722368 == some .gt || FloatKind.f64.format.order a 4652218415073722368 == some .eq) = decide (1024 ≤ Fl.wv a) := by
        have e1 := Fl.compare_gt_iff (Fl.toW a) 1024
        have e2 := Fl.compare_eq_iff (Fl.toW a) 1024
        have e3 : (some (compare (Fl.toW a) 1024) == some Ordering.gt) = (compare (Fl.toW a) 1024 == .gt) := rfl
        have e4 : (some (compare (Fl.toW a) 1024) == some Ordering.eq) = (compare (Fl.toW a) 1024 == .eq) := rfl
        rw [Fl.order_is h1 Fl.is_1024, hw, ht, e3, e4, e1, e2, Bool.eq_iff_iff]
        simp only [Bool.or_eq_true, decide_eq_true_eq]; omega
      have hm : Fl.may a = true := by simp [Fl.may, hi]
      have hc := fun W : World => run_convert_float_int (P := Try.prog) W 22 3 .f64 .i64 a (Fl.wv a) (by rw [Try.underlying22]; rfl) Try.underlying3 (by rw [hw]; exact Fl.toI64 h1.1 (by rw [ht]; exact h2) (by rw [ht]; exact h3))
      have Hm := hid hm
      have Hi := hid hi
      clear hm hi hw ht h1 h2 h3 hn
      generalize hg : Fl.wv a = n at *
      have Hg := hid hg
      clear hg
      by_cases c1 : 0 ≤ n
      · by_cases c2 : n < 1024
        · have hx : isX a = true := by unfold isX; rw [Hi.out, Hg.out]; simp [c1, c2]
          have hv : xv a = n := by unfold xv; rw [hx, Hg.out]; rfl
          rw [hx, hv]
          rw [decide_eq_false (by omega)] at q1 q2
          clear hx hv
          go_enter Try.func7, Try.ntmps7
          go_wp2_with fail
          refine (may_any a _).mono ?_; rintro e w' ⟨rfl, rfl⟩
          rw [Hm.out]
          go_wp2_with fail
          go_ret2
          exact ⟨rfl, rfl⟩
        · have hx : isX a = false := by unfold isX; rw [Hi.out, Hg.out]; simp [c2]
          have hv : xv a = 0 := by unfold xv; rw [hx]; rfl
          rw [hx, hv]
          rw [decide_eq_false (by omega)] at q1
          rw [decide_eq_true (by omega)] at q2
          clear hx hv
          go_enter Try.func7, Try.ntmps7
          go_wp2_with fail
          refine (may_any a _).mono ?_; rintro e w' ⟨rfl, rfl⟩
          rw [Hm.out]
          go_wp2_with fail
          go_ret2
          exact ⟨rfl, rfl⟩
      · have hx : isX a = false := by unfold isX; rw [Hi.out, Hg.out]; simp [c1]
        have hv : xv a = 0 := by unfold xv; rw [hx]; rfl
        rw [hx, hv]
        rw [decide_eq_true (by omega)] at q1
        clear hx hv q2
        go_enter Try.func7, Try.ntmps7
        go_wp2_with fail
        refine (may_any a _).mono ?_; rintro e w' ⟨rfl, rfl⟩
        rw [Hm.out]
        go_wp2_with fail
        go_ret2
        exact ⟨rfl, rfl⟩
    · rw [Bool.not_eq_true] at hi
      have hx : isX a = false := by unfold isX; rw [hi]; rfl
      have hv : xv a = 0 := by unfold xv; rw [hx]; rfl
      have hm : Fl.may a = false := by simp [Fl.may, hn, hi]
      have Hm := hid hm
      rw [hx, hv]
      clear hm hi hx hv hn
      go_enter Try.func7, Try.ntmps7
      go_wp2_with fail
      refine (may_any a _).mono ?_; rintro e w' ⟨rfl, rfl⟩
      rw [Hm.out]
      go_wp2_with fail
      go_ret2
      exact ⟨rfl, rfl⟩

/-- How two words stand. -/
def less (a b : Nat) : Int := if Fl.isNaN a || Fl.isNaN b then -1 else if FloatKind.f64.format.order a b == some .lt then 1 else 0

theorem less_any (a b : Nat) (w : World) :
    Calls Try.prog 9 #[.float .f64 a, .float .f64 b] w fun e w' => e = .returned (.int .i64 (less a b)) ∧ w = w' := by
  by_cases h1 : Fl.isNaN a = true
  · have hl : less a b = -1 := by simp [less, h1]
    have ha := ordN h1
    rw [hl]
    clear h1 hl
    go_enter Try.func9, Try.ntmps9
    go_wp2
    go_ret
    exact ⟨rfl, rfl⟩
  · rw [Bool.not_eq_true] at h1
    have ha := ordE h1
    by_cases h2 : Fl.isNaN b = true
    · have hl : less a b = -1 := by simp [less, h2]
      have hb := ordN h2
      rw [hl]
      clear h1 h2 hl
      go_enter Try.func9, Try.ntmps9
      go_wp2
      go_ret
      exact ⟨rfl, rfl⟩
    · rw [Bool.not_eq_true] at h2
      have hb := ordE h2
      by_cases h3 : (FloatKind.f64.format.order a b == some .lt) = true
      · have hl : less a b = 1 := by unfold less; rw [h1, h2, h3]; rfl
        rw [hl]
        clear h1 h2 hl
        go_enter Try.func9, Try.ntmps9
        go_wp2
        go_ret
        exact ⟨rfl, rfl⟩
      · rw [Bool.not_eq_true] at h3
        have hl : less a b = 0 := by unfold less; rw [h1, h2, h3]; rfl
        rw [hl]
        clear h1 h2 hl
        go_enter Try.func9, Try.ntmps9
        go_wp2
        go_ret
        exact ⟨rfl, rfl⟩

theorem refLess_any (a b : Nat) (w : World) :
    Calls Try.prog 10 #[.float .f64 a, .float .f64 b] w fun e w' => e = .returned (.int .i64 (less a b)) ∧ w = w' := by
  by_cases h1 : Fl.isNaN a = true
  · have hl : less a b = -1 := by simp [less, h1]
    have ha := ordN h1
    rw [hl]
    clear h1 hl
    go_enter Try.func10, Try.ntmps10
    go_wp2
    go_ret
    exact ⟨rfl, rfl⟩
  · rw [Bool.not_eq_true] at h1
    have ha := ordE h1
    by_cases h2 : Fl.isNaN b = true
    · have hl : less a b = -1 := by simp [less, h2]
      have hb := ordN h2
      rw [hl]
      clear h1 h2 hl
      go_enter Try.func10, Try.ntmps10
      go_wp2
      go_ret
      exact ⟨rfl, rfl⟩
    · rw [Bool.not_eq_true] at h2
      have hb := ordE h2
      by_cases h3 : (FloatKind.f64.format.order a b == some .lt) = true
      · have hl : less a b = 1 := by unfold less; rw [h1, h2, h3]; rfl
        rw [hl]
        clear h1 h2 hl
        go_enter Try.func10, Try.ntmps10
        go_wp2
        go_ret
        exact ⟨rfl, rfl⟩
      · rw [Bool.not_eq_true] at h3
        have hl : less a b = 0 := by unfold less; rw [h1, h2, h3]; rfl
        rw [hl]
        clear h1 h2 hl
        go_enter Try.func10, Try.ntmps10
        go_wp2
        go_ret
        exact ⟨rfl, rfl⟩

/-! ### the law -/

theorem law_row (x y : Nat) (w : World) :
    Calls Try.prog 3 #[.float .f64 x, .float .f64 y] w fun e w' => e = .returned (.bool true) ∧ Below w.heap.size w w' := by
  go_enter Try.func3, Try.ntmps3
  go_wp2_with fail
  refine (index_any x _).mono ?_; rintro e w' ⟨rfl, rfl⟩
  go_wp2_with fail
  refine (refIndex_any x _).mono ?_; rintro e w' ⟨rfl, rfl⟩
  go_wp2_with fail
  refine (less_any x y _).mono ?_; rintro e w' ⟨rfl, rfl⟩
  go_wp2_with fail
  refine (refLess_any x y _).mono ?_; rintro e w' ⟨rfl, rfl⟩
  go_wp2_with fail
  go_ret
  exact ⟨rfl, Below.refl _ _⟩

end Go.Proofs.Ythdgehdbanhliaa
