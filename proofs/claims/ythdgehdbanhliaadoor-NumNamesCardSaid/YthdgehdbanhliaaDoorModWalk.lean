/-
  The walk of math.Mod at whole words.
-/
import Derived.Test.YthdgehdbanhliaaDoorSumsPlain
import Derived.Test.YthdgehdbanhliaaDoorMayWalk
import Derived.IntWalk
namespace Go.Proofs.YthdgehdbanhliaaDoor
open Go.RowKit

namespace Fl
theorem is_pos {r : Nat} {n : Int} (h : Is r n) (h0 : 0 < n) (hb : n < 2 ^ 53) : sg r = false ∧ r % 2 ^ 64 = rg r ∧ 1023 ≤ rg r / 2 ^ 52 ∧ rg r / 2 ^ 52 ≤ 1075 ∧ (2 ^ 52 + rg r % 2 ^ 52) * 2 ^ (rg r / 2 ^ 52 - 1) = n.natAbs * K := by
  have h1 := sg_is h
  rw [show decide (n < 0) = false by rw [decide_eq_false_iff_not]; omega] at h1
  obtain ⟨u, hu, hpu, hdu, hlo, hhi⟩ := laid_is h (by omega) (by omega)
  have hm := mg_is h
  rw [mg_eq] at hm
  have hU : U = 1074 := rfl
  have hr : ¬ rg r < 2 ^ 52 := by
    intro hc
    have e1 : pl (rg r) = 0 := by unfold pl; rw [if_pos hc]
    omega
  have e1 : pl (rg r) = rg r / 2 ^ 52 - 1 := by unfold pl; rw [if_neg hr]
  have e2 : dg (rg r) = 2 ^ 52 + rg r % 2 ^ 52 := by unfold dg; rw [if_neg hr]
  rw [e1, e2] at hm
  refine ⟨h1, ?_, by omega, by omega, hm⟩
  unfold sg at h1
  rw [beq_eq_false_iff_ne] at h1
  unfold rg
  omega

theorem shift_is {y : Nat} {n : Int} {k : Nat} (h : Is y n) (h0 : 0 < n) (hb : n < 2 ^ 53) (hy : rg y = y) (hk : k < 53) : Is ((y / 2 ^ 52 + k) * 2 ^ 52 + y % 2 ^ 52) (n * 2 ^ k) := by
  obtain ⟨_, _, h3, h4, h5⟩ := is_pos h h0 hb
  rw [hy] at h3 h4 h5
  obtain ⟨z, hz⟩ : ∃ z, z = (y / 2 ^ 52 + k) * 2 ^ 52 + y % 2 ^ 52 := ⟨_, rfl⟩
  rw [← hz]
  have z1 : z / 2 ^ 52 = y / 2 ^ 52 + k := by clear h5; omega
  have z2 : z % 2 ^ 52 = y % 2 ^ 52 := by clear h5; omega
  have z3 : rg z = z := by clear h5; unfold rg; omega
  have z4 : sg z = false := by clear h5; unfold sg; rw [beq_eq_false_iff_ne]; omega
  have z5 : ¬ z < 2 ^ 52 := by clear h5; omega
  have z6 : fin z = true := by
    clear h5
    have ht : top = 2047 * 2 ^ 52 := rfl
    unfold fin; rw [decide_eq_true_eq, z3]; omega
  have hm : mg (rg z) = n.natAbs * 2 ^ k * K := by
    rw [z3]
    unfold mg
    rw [if_neg z5, z1, z2]
    have e : y / 2 ^ 52 + k - 1 = (y / 2 ^ 52 - 1) + k := by clear h5; omega
    rw [e, Nat.pow_add, ← Nat.mul_assoc, h5]
    rw [Nat.mul_assoc, Nat.mul_comm K, ← Nat.mul_assoc]
  clear h5
  refine ⟨z6, ?_, fun _ => z4⟩
  rw [sc_of z false _ z4 hm]
  simp only [Bool.false_eq_true, if_false]
  rw [Int.natCast_mul, Int.natCast_mul, Int.natCast_pow]
  have e : (n.natAbs : Int) = n := by omega
  rw [e]; rfl

end Fl

theorem and2047 (n : Nat) : bits .and .u64 (n : Int) 2047 = ((n % 2048 : Nat) : Int) := by
  show IntKind.u64.wrap ((BitVec.ofInt 64 (n : Int) &&& BitVec.ofInt 64 (2047 : Int)).toNat : Int) = _
  rw [BitVec.toNat_and, BitVec.ofInt_natCast, BitVec.toNat_ofNat, show (BitVec.ofInt 64 (2047 : Int)).toNat = 2 ^ 11 - 1 by decide, Nat.and_two_pow_sub_one_eq_mod, IntKind.wrap_u64]
  omega

theorem andNotExp (a : Nat) (h : a % 2 ^ 64 = Fl.rg a) : bits .andNot .u64 (a : Int) 9218868437227405312 = ((Fl.rg a % 2 ^ 52 : Nat) : Int) := by
  have hlt : Fl.rg a < 2 ^ 63 := by unfold Fl.rg; omega
  show IntKind.u64.wrap ((BitVec.ofInt 64 (a : Int) &&& ~~~BitVec.ofInt 64 (9218868437227405312 : Int)).toNat : Int) = _
  have e : BitVec.ofInt 64 (a : Int) &&& ~~~BitVec.ofInt 64 (9218868437227405312 : Int) = BitVec.ofNat 64 (Fl.rg a % 2 ^ 52) := by
    have e1 : BitVec.ofInt 64 (a : Int) = BitVec.ofNat 64 (Fl.rg a) := by
      rw [BitVec.ofInt_natCast]; apply BitVec.eq_of_toNat_eq; rw [BitVec.toNat_ofNat, BitVec.toNat_ofNat, h]; omega
    rw [e1]
    apply BitVec.eq_of_toNat_eq
    rw [BitVec.toNat_and, BitVec.toNat_ofNat, BitVec.toNat_ofNat, show (~~~BitVec.ofInt 64 (9218868437227405312 : Int)).toNat = 9227875636482146303 by decide]
    generalize Fl.rg a = r at *
    have e2 : r % 2 ^ 64 = r := by omega
    have e3 : r % 2 ^ 52 % 2 ^ 64 = r % 2 ^ 52 := by omega
    rw [e2, e3]
    apply Nat.eq_of_testBit_eq
    intro i
    rw [Nat.testBit_and, Nat.testBit_mod_two_pow, show (9227875636482146303 : Nat) = 2 ^ 63 + (2 ^ 52 - 1) by decide]
    by_cases hi : i < 52
    · rw [Nat.testBit_two_pow_add_gt (by omega), Nat.testBit_two_pow_sub_one]; simp [hi]
    · by_cases hi2 : i < 63
      · rw [Nat.testBit_two_pow_add_gt (by omega), Nat.testBit_two_pow_sub_one]; simp [hi]
      · rw [Nat.testBit_lt_two_pow (x := r) (i := i) (Nat.lt_of_lt_of_le hlt (Nat.pow_le_pow_right (by decide) (by omega)))]; simp [hi]
  rw [e, BitVec.toNat_ofNat, IntKind.wrap_u64]
  omega

theorem orExp (e f : Nat) (he : e < 2048) (hf : f < 2 ^ 52) : bits .or .u64 (f : Int) ((e * 2 ^ 52 : Nat) : Int) = ((e * 2 ^ 52 + f : Nat) : Int) := by
  show IntKind.u64.wrap ((BitVec.ofInt 64 (f : Int) ||| BitVec.ofInt 64 ((e * 2 ^ 52 : Nat) : Int)).toNat : Int) = _
  rw [BitVec.toNat_or, BitVec.ofInt_natCast, BitVec.ofInt_natCast, BitVec.toNat_ofNat, BitVec.toNat_ofNat]
  have e1 : f % 2 ^ 64 = f := by omega
  have e2 : e * 2 ^ 52 % 2 ^ 64 = e * 2 ^ 52 := by omega
  rw [e1, e2, Nat.or_comm, Nat.mul_comm, ← Nat.two_pow_add_eq_or_of_lt hf, IntKind.wrap_u64]
  omega

theorem isNaN_any (a : Nat) (w : World) : Calls Tryd.prog 59 #[.float .f64 a] w fun e w' => e = .returned (.bool (Fl.isNaN a)) ∧ w = w' := by
  cases hn : Fl.isNaN a
  · have h1 := ordE hn
    go_enter Tryd.func59, Tryd.ntmps59
    go_wp2_with fail
    go_ret
    exact ⟨rfl, rfl⟩
  · have h1 := ordN hn a
    go_enter Tryd.func59, Tryd.ntmps59
    go_wp2_with fail
    go_ret
    exact ⟨rfl, rfl⟩


theorem max_great : 2 ^ 53 * Fl.K ≤ Fl.mg (Fl.rg 9218868437227405311) := by decide +kernel
theorem max_sg : Fl.sg 9218868437227405311 = false := by decide
theorem max_fin : Fl.fin 9218868437227405311 = true := by decide
theorem least_mg : Fl.mg (Fl.rg 4503599627370496) ≤ Fl.K := by decide +kernel
theorem least_sg : Fl.sg 4503599627370496 = false := by decide
theorem least_fin : Fl.fin 4503599627370496 = true := by decide

theorem is_rg {a : Nat} {n : Int} (h : Fl.Is a n) : Fl.Is (Fl.rg a) n.natAbs := by
  refine ⟨by rw [fin_rg]; exact h.1, ?_, fun _ => sg_rg a⟩
  rw [sc_rg, Fl.mg_is h, Int.natCast_mul]

theorem not_inf {a : Nat} {n : Int} (h : Fl.Is a n) (hb : n.natAbs < 2 ^ 53) : (FloatKind.f64.format.order (Fl.rg a) 9218868437227405311 == some .gt) = false := by
  have h1 := is_rg h
  rw [Fl.gt_fin h1.1 max_fin, decide_eq_false_iff_not, h1.2.1]
  have h2 : Fl.sc 9218868437227405311 = (Fl.mg (Fl.rg 9218868437227405311) : Int) := by unfold Fl.sc; rw [max_sg]; rfl
  rw [h2]
  have h3 := max_great
  have h4 : n.natAbs * Fl.K ≤ 2 ^ 53 * Fl.K := Nat.mul_le_mul_right _ (by omega)
  rw [← Int.natCast_mul]
  omega

theorem not_least {a : Nat} {n : Int} (h : Fl.Is a n) (hb : n ≠ 0) : (FloatKind.f64.format.order (Fl.rg a) 4503599627370496 == some .lt) = false := by
  have h1 := is_rg h
  rw [Fl.lt_fin h1.1 least_fin, decide_eq_false_iff_not, h1.2.1]
  have h2 : Fl.sc 4503599627370496 = (Fl.mg (Fl.rg 4503599627370496) : Int) := by unfold Fl.sc; rw [least_sg]; rfl
  rw [h2]
  have h3 := least_mg
  have h4 : 1 * Fl.K ≤ n.natAbs * Fl.K := Nat.mul_le_mul_right _ (by omega)
  rw [← Int.natCast_mul]
  omega

theorem isInf_of (a : Nat) (h : (FloatKind.f64.format.order (Fl.rg a) 9218868437227405311 == some .gt) = false) (w : World) : Calls Tryd.prog 58 #[.float .f64 a, .int .i64 0] w fun e w' => e = .returned (.bool false) ∧ w = w' := by
  go_enter Tryd.func58, Tryd.ntmps58
  go_wp2_with (go_at_call 30; refine (abs_any a _).mono ?_; rintro e w' ⟨rfl, rfl⟩)
  go_ret
  exact ⟨rfl, rfl⟩

theorem nan_gt {a : Nat} (h : Fl.isNaN a = true) : (FloatKind.f64.format.order (Fl.rg a) 9218868437227405311 == some .gt) = false := by
  have : Fl.isNaN (Fl.rg a) = true := by unfold Fl.isNaN at *; rw [rg_rg]; exact h
  rw [ordN this]; rfl

theorem normalize_is (a : Nat) (n : Int) (h : Fl.Is a n) (h0 : n ≠ 0) (w : World) : Calls Tryd.prog 80 #[.float .f64 a] w fun e w' => e = .returned (.tuple #[.float .f64 a, .int .i64 0]) ∧ w = w' := by
  have h1 := not_least h h0
  go_enter Tryd.func80, Tryd.ntmps80
  go_wp2_with (go_at_call 30; refine (abs_any a _).mono ?_; rintro e w' ⟨rfl, rfl⟩)
  go_ret2
  exact ⟨rfl, rfl⟩

theorem and2047s (n : Nat) (_ : n < 2 ^ 62) : bits .and .i64 (n : Int) 2047 = ((n % 2048 : Nat) : Int) := by
  show IntKind.i64.wrap ((BitVec.ofInt 64 (n : Int) &&& BitVec.ofInt 64 (2047 : Int)).toNat : Int) = _
  rw [BitVec.toNat_and, BitVec.ofInt_natCast, BitVec.toNat_ofNat, show (BitVec.ofInt 64 (2047 : Int)).toNat = 2 ^ 11 - 1 by decide, Nat.and_two_pow_sub_one_eq_mod]
  rw [IntWalk.i64_in _ (by omega)]
  omega

theorem ret_two {a b : Nat} {x y : Int} (h : a = b) (k : x = y) : Ending.returned (.tuple #[.float .f64 a, .int .i64 x]) = .returned (.tuple #[.float .f64 b, .int .i64 y]) := by rw [h, k]

theorem frexpLow_is (r : Nat) (n : Int) (h : Fl.Is r n) (h0 : 0 < n) (hb : n < 2 ^ 53) (w : World) :
    Calls Tryd.prog 71 #[.float .f64 r] w fun e w' => e = .returned (.tuple #[.float .f64 (4602678819172646912 + Fl.rg r % 2 ^ 52), .int .i64 ((Fl.rg r / 2 ^ 52 : Nat) - 1022)]) ∧ w = w' := by
  obtain ⟨h1, h2, h3, h4, -⟩ := Fl.is_pos h h0 hb
  have z0 : (FloatKind.f64.format.order r 0 == some .eq) = false := by
    rw [Fl.eq_fin h.1 Fl.fin_0, decide_eq_false_iff_not, h.2.1, Fl.sc_0]
    intro hc
    rcases Int.mul_eq_zero.1 hc with hc | hc
    · omega
    · have := Fl.K_pos; omega
  have hI := hid (fun W => isInf_of r (not_inf h (by omega)) W)
  have hN : Hid (∀ W, Calls Tryd.prog 59 #[.float .f64 r] W fun e w' => e = .returned (.bool false) ∧ W = w') := hid (fun W => by have := isNaN_any r W; rw [Fl.fin_not_nan h.1] at this; exact this)
  have hM := hid (fun W => normalize_is r n h (by omega) W)
  have b1 := run_bits r
  have b2 := fun z => run_frombits z
  go_enter Tryd.func71, Tryd.ntmps71
  go_wp2_with (first | (go_at_call 58; refine (hI.out _).mono ?_; rintro e w' ⟨rfl, rfl⟩) | (go_at_call 59; refine (hN.out _).mono ?_; rintro e w' ⟨rfl, rfl⟩) | (go_at_call 80; refine (hM.out _).mono ?_; rintro e w' ⟨rfl, rfl⟩))
  go_ret2
  have e1 : bits .and .u64 ((r : Int) / 4503599627370496) 2047 = ((Fl.rg r / 2 ^ 52 : Nat) : Int) := by
    have e : (r : Int) / 4503599627370496 = ((r / 4503599627370496 : Nat) : Int) := by omega
    rw [e, and2047]; omega
  have e2 := andNotExp r h2
  have e3 := orExp 1022 (Fl.rg r % 2 ^ 52) (by decide) (Nat.mod_lt _ (by decide))
  rw [show (1022 * 2 ^ 52 : Nat) = 4602678819172646912 by decide] at e3
  rw [← e2] at e3
  have e4 : (bits .or .u64 (bits .andNot .u64 (r : Int) 9218868437227405312) 4602678819172646912).toNat = 4602678819172646912 + Fl.rg r % 2 ^ 52 := by
    rw [show (4602678819172646912 : Int) = ((4602678819172646912 : Nat) : Int) from rfl, e3, Int.toNat_natCast]
  have e5 : wrap64 (wrap64 (wrap64 (wrap64 (bits .and .u64 ((r : Int) / 4503599627370496) 2047) - 1023) + 1)) = ((Fl.rg r / 2 ^ 52 : Nat) : Int) - 1022 := by
    rw [e1]
    clear e1 e2 e3 e4
    generalize Fl.rg r / 2 ^ 52 = z at *
    unfold wrap64
    omega
  exact ⟨ret_two e4 e5, rfl⟩

theorem frexp_is (r : Nat) (n : Int) (h : Fl.Is r n) (h0 : 0 < n) (hb : n < 2 ^ 53) (w : World) :
    Calls Tryd.prog 60 #[.float .f64 r] w fun e w' => e = .returned (.tuple #[.float .f64 (4602678819172646912 + Fl.rg r % 2 ^ 52), .int .i64 ((Fl.rg r / 2 ^ 52 : Nat) - 1022)]) ∧ w = w' := by
  have hM := hid (fun W => frexpLow_is r n h h0 hb W)
  clear h
  go_enter Tryd.func60, Tryd.ntmps60
  go_wp2_with fail
  refine (hM.out _).mono ?_; rintro e w' ⟨rfl, rfl⟩
  go_wp2_with fail
  go_ret2
  exact ⟨rfl, rfl⟩

theorem ldexpLow_is (y : Nat) (n : Int) (k : Nat) (h : Fl.Is y n) (h0 : 0 < n) (hb : n < 2 ^ 53) (hk : n * 2 ^ k < 2 ^ 53) (hy : Fl.rg y = y) (w : World) :
    Calls Tryd.prog 73 #[.float .f64 y, .int .i64 k] w fun e w' => (∃ z, e = .returned (.float .f64 z) ∧ Fl.Is z (n * 2 ^ k)) ∧ w = w' := by
  obtain ⟨h1, h2, h3, h4, -⟩ := Fl.is_pos h h0 hb
  have z0 : (FloatKind.f64.format.order y 0 == some .eq) = false := by
    rw [Fl.eq_fin h.1 Fl.fin_0, decide_eq_false_iff_not, h.2.1, Fl.sc_0]
    intro hc
    rcases Int.mul_eq_zero.1 hc with hc | hc
    · omega
    · have := Fl.K_pos; omega
  have hI := hid (fun W => isInf_of y (not_inf h (by omega)) W)
  have hN : Hid (∀ W, Calls Tryd.prog 59 #[.float .f64 y] W fun e w' => e = .returned (.bool false) ∧ W = w') := hid (fun W => by have := isNaN_any y W; rw [Fl.fin_not_nan h.1] at this; exact this)
  have hM := hid (fun W => normalize_is y n h (by omega) W)
  have hk53 : k < 53 := by
    rcases Nat.lt_or_ge k 53 with hc | hc
    · exact hc
    · exfalso
      have h6 : (2 : Int) ^ 53 ≤ 2 ^ k := by exact_mod_cast Nat.pow_le_pow_right (by decide : 0 < 2) hc
      have h7 : 1 * (2 : Int) ^ k ≤ n * 2 ^ k := Int.mul_le_mul_of_nonneg_right (by omega) (by omega)
      omega
  have b1 := run_bits y
  have b2 := fun z => run_frombits z
  have g1 : bits .and .i64 (wrap64 ((y : Int) / 4503599627370496)) 2047 = ((y / 4503599627370496 : Nat) : Int) := by
    have hlt : y < 2 ^ 63 := by rw [← hy]; unfold Fl.rg; omega
    have e : wrap64 ((y : Int) / 4503599627370496) = ((y / 4503599627370496 : Nat) : Int) := by unfold wrap64; omega
    rw [e, and2047s _ (by omega)]
    rw [hy] at h4
    omega
  rw [hy] at h3 h4
  generalize hE : y / 4503599627370496 = E at g1
  have hE' : y / 2 ^ 52 = E := hE
  rw [hE'] at h3 h4
  have g2 : wrap64 ((E : Int) - 1023) = (E : Int) - 1023 := by unfold wrap64; omega
  have g3 : wrap64 ((k : Int) + ((E : Int) - 1023)) = (k : Int) + ((E : Int) - 1023) := by unfold wrap64; omega
  have t1 : decide ((k : Int) + ((E : Int) - 1023) < -1075) = false := by rw [decide_eq_false_iff_not]; omega
  have t2 : decide (1023 < (k : Int) + ((E : Int) - 1023)) = false := by rw [decide_eq_false_iff_not]; omega
  have t3 : decide ((k : Int) + ((E : Int) - 1023) < -1022) = false := by rw [decide_eq_false_iff_not]; omega
  have hS := Fl.shift_is h h0 hb hy hk53
  have e4 := orExp (E + k) (Fl.rg y % 2 ^ 52) (by omega) (Nat.mod_lt _ (by decide))
  rw [← andNotExp y h2, hy] at e4
  rw [hE'] at hS
  obtain ⟨Z, hZ⟩ : ∃ Z, Z = (E + k) * 2 ^ 52 + y % 2 ^ 52 := ⟨_, rfl⟩
  rw [← hZ] at hS e4
  have g4 : bits .or .u64 (bits .andNot .u64 (y : Int) 9218868437227405312) (((k : Int) + ((E : Int) - 1023) + 1023) * 4503599627370496) = (Z : Int) := by
    rw [← e4]
    congr 1
    omega
  clear e4 hZ
  have hn : 0 ≤ n * 2 ^ k := Int.mul_nonneg (by omega) (Int.pow_nonneg (by decide))
  obtain ⟨R, hR, hf, hN1, hN2⟩ := Fl.mul_near Fl.is_1 hS (by decide) (by omega)
  have hnz : n * 2 ^ k ≠ 0 := Int.mul_ne_zero (by omega) (by have : (0 : Int) < 2 ^ k := Int.pow_pos (by decide); omega)
  have hIs := (hN1 ⟨by decide, hnz⟩).2.1 (by rw [Int.one_mul]; omega)
  rw [Int.one_mul] at hIs
  have hmul := fun W t => run_float_arith (P := Tryd.prog) W .mul t .f64 4607182418800017408 Z R hR
  have HIs := hid hIs
  clear hR hIs hf hN1 hN2 hS hn hnz h2 hE hE' hy hk hb h h1
  go_enter Tryd.func73, Tryd.ntmps73
  go_wp2_with (first | (go_at_call 58; refine (hI.out _).mono ?_; rintro e w' ⟨rfl, rfl⟩) | (go_at_call 59; refine (hN.out _).mono ?_; rintro e w' ⟨rfl, rfl⟩) | (go_at_call 80; refine (hM.out _).mono ?_; rintro e w' ⟨rfl, rfl⟩))
  go_ret
  exact ⟨⟨R, rfl, HIs.out⟩, rfl⟩

theorem ldexp_is (y : Nat) (n : Int) (k : Nat) (h : Fl.Is y n) (h0 : 0 < n) (hb : n < 2 ^ 53) (hk : n * 2 ^ k < 2 ^ 53) (hy : Fl.rg y = y) (w : World) :
    Calls Tryd.prog 61 #[.float .f64 y, .int .i64 k] w fun e w' => (∃ z, e = .returned (.float .f64 z) ∧ Fl.Is z (n * 2 ^ k)) ∧ w = w' := by
  have hM := hid (fun W => ldexpLow_is y n k h h0 hb hk hy W)
  clear h hy hk hb
  go_enter Tryd.func61, Tryd.ntmps61
  go_wp2_with fail
  refine (hM.out _).mono ?_; rintro e w' ⟨⟨z, rfl, hz⟩, rfl⟩
  have Hz := hid hz
  clear hz
  go_wp2_with fail
  go_ret
  exact ⟨⟨z, rfl, Hz.out⟩, rfl⟩

end Go.Proofs.YthdgehdbanhliaaDoor
