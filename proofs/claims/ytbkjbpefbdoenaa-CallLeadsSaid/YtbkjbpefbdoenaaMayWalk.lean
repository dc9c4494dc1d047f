/-
  The walks of num.May and of the reference's whole: what each answers, by which whole number a word is.
-/
import Derived.Test.YtbkjbpefbdoenaaTrunc
namespace Go.Proofs.Ytbkjbpefbdoenaa
open Go.RowKit

/-! ### the library's functions -/

theorem run_bits (a : Nat) (w : World) : (callFunc 90 #[.float .f64 a]).run Try.prog w = .ok (.value (.int .u64 a)) w := by kernel_rfl

theorem run_frombits (a : Int) (w : World) : (callFunc 89 #[.int .u64 a]).run Try.prog w = .ok (.value (.float .f64 a.toNat)) w := by kernel_rfl

theorem andNot_sign (a : Nat) : (bits BinOp.andNot IntKind.u64 (a : Int) 9223372036854775808).toNat = Fl.rg a := by
  have e1 : bits .andNot .u64 (a : Int) 9223372036854775808 = ((a % 2 ^ 64 &&& (2 ^ 63 - 1) : Nat) : Int) := by
    have hx : a % 2 ^ 64 &&& (2 ^ 63 - 1) < 2 ^ 64 := Nat.and_lt_two_pow _ (by omega)
    show IntKind.u64.wrap ((BitVec.ofInt 64 (a : Int) &&& ~~~BitVec.ofInt 64 (9223372036854775808 : Int)).toNat : Int) = _
    rw [BitVec.toNat_and, BitVec.ofInt_natCast, BitVec.toNat_ofNat, show (~~~BitVec.ofInt 64 (9223372036854775808 : Int)).toNat = 2 ^ 63 - 1 by decide, IntKind.wrap_u64]
    omega
  rw [e1, Int.toNat_natCast, Nat.and_two_pow_sub_one_eq_mod]
  unfold Fl.rg
  omega

theorem abs_any (a : Nat) (w : World) :
    Calls Try.prog 69 #[.float .f64 a] w fun e w' => e = .returned (.float .f64 (Fl.rg a)) ∧ w = w' := by
  have h1 := run_bits
  have h2 := run_frombits
  go_enter Try.func69, Try.ntmps69
  go_wp2
  go_ret
  exact ⟨congrArg (fun n => Ending.returned (.float .f64 n)) (andNot_sign a), rfl⟩

theorem wrap_sign (a : Nat) : decide (wrap64 (a : Int) < 0) = Fl.sg a := by
  unfold Fl.sg wrap64
  rw [Bool.eq_iff_iff, decide_eq_true_eq, beq_iff_eq]
  omega

theorem signbit_any (a : Nat) (w : World) :
    Calls Try.prog 70 #[.float .f64 a] w fun e w' => e = .returned (.bool (Fl.sg a)) ∧ w = w' := by
  have h1 := run_bits
  go_enter Try.func70, Try.ntmps70
  go_wp2
  go_ret
  exact ⟨congrArg (fun n => Ending.returned (.bool n)) (wrap_sign a), rfl⟩

/-! ### num.May -/

theorem rg_rg (a : Nat) : Fl.rg (Fl.rg a) = Fl.rg a := by unfold Fl.rg; omega
theorem sg_rg (a : Nat) : Fl.sg (Fl.rg a) = false := by unfold Fl.sg Fl.rg; rw [beq_eq_false_iff_ne]; omega
theorem fin_rg (a : Nat) : Fl.fin (Fl.rg a) = Fl.fin a := by unfold Fl.fin; rw [rg_rg]
theorem sc_rg (a : Nat) : Fl.sc (Fl.rg a) = Fl.mg (Fl.rg a) := by unfold Fl.sc; rw [sg_rg, rg_rg]; rfl

theorem eq_trunc {a : Nat} (hf : Fl.fin a = true) : (FloatKind.f64.format.order (truncW a) a == some .eq) = decide (Fl.tr a * (Fl.K : Int) = Fl.sc a) := by
  unfold truncW
  rw [if_pos hf]
  obtain ⟨h1, h2, h3⟩ := Fl.trunc_fin hf
  rw [Fl.eq_fin h1 hf, h3]

theorem leq_safe {a : Nat} (hf : Fl.fin a = true) :
    (FloatKind.f64.format.order (Fl.rg a) 4845873199050653695 == some .lt || FloatKind.f64.format.order (Fl.rg a) 4845873199050653695 == some .eq) = decide ((Fl.mg (Fl.rg a) : Int) ≤ Fl.safe * (Fl.K : Int)) := by
  have hr : Fl.fin (Fl.rg a) = true := by rw [fin_rg]; exact hf
  rw [Fl.lt_fin hr Fl.is_safe.1, Fl.eq_fin hr Fl.is_safe.1, Fl.is_safe.2.1, sc_rg, Bool.eq_iff_iff]
  simp only [Bool.or_eq_true, decide_eq_true_eq]
  omega

theorem may_fin (a : Nat) (t u z : Bool) (hn : Fl.isNaN a = false) (e1 : (FloatKind.f64.format.order (truncW a) a == some .eq) = t)
    (e2 : (FloatKind.f64.format.order (Fl.rg a) 4845873199050653695 == some .lt || FloatKind.f64.format.order (Fl.rg a) 4845873199050653695 == some .eq) = u)
    (e3 : (FloatKind.f64.format.order a 0 == some .eq) = z) (w : World) :
    Calls Try.prog 42 #[.float .f64 a] w fun e w' => e = .returned (.bool (t && u && (!z || !Fl.sg a))) ∧ w = w' := by
  have ha := ordE hn
  have e4 : (FloatKind.f64.format.order a 0 != some .eq) = !z := by rw [bne, e3]
  clear e3
  have Hn := hid hn
  clear hn
  cases t <;> cases u <;> cases z
  all_goals
    simp only [Bool.not_true, Bool.not_false, Bool.true_and, Bool.false_and, Bool.and_false, Bool.true_or, Bool.false_or] at e4 ⊢
    go_enter Try.func42, Try.ntmps42
    go_wp2_with (first | (go_at_call 68; refine (trunc_any a Hn.out _).mono ?_; rintro e w' ⟨rfl, rfl⟩) | (go_at_call 69; refine (abs_any a _).mono ?_; rintro e w' ⟨rfl, rfl⟩) | (go_at_call 70; refine (signbit_any a _).mono ?_; rintro e w' ⟨rfl, rfl⟩))
    go_ret
    exact ⟨rfl, rfl⟩

theorem may_any (a : Nat) (w : World) :
    Calls Try.prog 42 #[.float .f64 a] w fun e w' => e = .returned (.bool (Fl.may a)) ∧ w = w' := by
  rcases Fl.kinds a with hf | hi | hn
  · have hn := Fl.fin_not_nan hf
    have h := may_fin a _ _ _ hn (eq_trunc hf) (leq_safe hf) (Fl.order_0 a hn) w
    rw [← Fl.isW_fin_eq hf] at h
    have hm : Fl.may a = Fl.isW a := by simp [Fl.may, hn]
    rw [hm]; exact h
  · have hn : Fl.isNaN a = false := by simp [Fl.isNaN, hi]
    have hf : Fl.fin a = false := by simp [Fl.fin, hi]
    have e2 : (FloatKind.f64.format.order (Fl.rg a) 4845873199050653695 == some .lt || FloatKind.f64.format.order (Fl.rg a) 4845873199050653695 == some .eq) = false := by
      rw [Fl.order_inf_fin (by rw [rg_rg]; exact hi) Fl.is_safe.1, sg_rg]; rfl
    have h := may_fin a _ _ _ hn rfl e2 (Fl.order_0 a hn) w
    have hm : Fl.may a = false := by simp [Fl.may, hn, Fl.not_isW_inf hf]
    rw [hm]
    simpa using h
  · have ha := ordN hn
    have hm : Fl.may a = true := by simp [Fl.may, hn]
    rw [hm]
    clear hn hm
    go_enter Try.func42, Try.ntmps42
    go_wp2_with fail
    go_ret
    exact ⟨rfl, rfl⟩

/-! ### the reference's whole -/

theorem nan_fin {a : Nat} (hn : Fl.isNaN a = true) : Fl.fin a = false := by
  rw [← Bool.not_eq_true]; intro h; rw [Fl.fin_not_nan h] at hn; cases hn

theorem lt_inf (a : Nat) : (FloatKind.f64.format.order (Ieee.double.word (Fl.sg a) Fl.top) 0 == some .lt) = Fl.sg a := by
  rw [Fl.order_inf_fin (by cases Fl.sg a <;> decide) Fl.fin_0]
  have : Fl.sg (Ieee.double.word (Fl.sg a) Fl.top) = Fl.sg a := by cases Fl.sg a <;> decide
  rw [this]; cases Fl.sg a <;> rfl

end Go.Proofs.Ytbkjbpefbdoenaa
