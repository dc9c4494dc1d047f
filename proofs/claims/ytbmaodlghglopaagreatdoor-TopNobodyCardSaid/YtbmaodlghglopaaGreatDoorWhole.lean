/-
  Plain facts on 64-bit floats, third part: which words are the chapter's numbers, and which whole number each is.
-/
import Derived.Test.YtbmaodlghglopaaGreatDoorMxA
namespace Go.Proofs.YtbmaodlghglopaaGreatDoor
namespace Fl

/-- One, in smallest units. -/
def U : Nat := 1074
def K : Nat := 2 ^ U
theorem K_pos : 0 < K := pow_pos2 U
theorem U_le : U ≤ 2045 := by unfold U; decide
theorem U_eq : ((0 : Int) + 1074).toNat = U := rfl
/-- The greatest of the chapter's numbers. -/
def safe : Int := 9007199254740991

/-- Is a word one of the chapter's numbers, and no NaN? -/
def isW (b : Nat) : Bool := fin b && decide (sc b % (K : Int) = 0) && decide (-safe ≤ sc b / (K : Int)) && decide (sc b / (K : Int) ≤ safe) && !(isZ b && sg b)
/-- Which whole number. -/
def toW (b : Nat) : Int := sc b / (K : Int)
/-- Is a word one of the chapter's numbers? -/
def may (b : Nat) : Bool := isNaN b || isW b
/-- The word 'b' is the number 'n'. -/
def Is (b : Nat) (n : Int) : Prop := fin b = true ∧ sc b = n * (K : Int) ∧ (n = 0 → sg b = false)

theorem isW_iff (b : Nat) : isW b = true ↔ Is b (toW b) ∧ -safe ≤ toW b ∧ toW b ≤ safe := by
  unfold isW Is toW
  simp only [Bool.and_eq_true, decide_eq_true_eq, Bool.not_eq_true', Bool.and_eq_false_iff]
  have hk := K_pos
  constructor
  · rintro ⟨⟨⟨⟨h1, h2⟩, h3⟩, h4⟩, h5⟩
    have e : sc b = sc b / (K : Int) * (K : Int) := by
      have := Int.mul_ediv_add_emod (sc b) (K : Int)
      rw [h2, Int.add_zero, Int.mul_comm] at this
      exact this.symm
    refine ⟨⟨h1, e, fun h => ?_⟩, h3, h4⟩
    rw [h, Int.zero_mul] at e
    rcases h5 with h5 | h5
    · rw [(sc_zero_iff b).1 e] at h5; cases h5
    · exact h5
  · rintro ⟨⟨h1, h2, h3⟩, h4, h5⟩
    refine ⟨⟨⟨⟨h1, ?_⟩, h4⟩, h5⟩, ?_⟩
    · rw [h2]; exact Int.mul_emod_left _ _
    · by_cases h : isZ b = true
      · right
        apply h3
        rw [(sc_zero_iff b).2 h]; simp
      · left; simpa using h

theorem toW_of_is {b : Nat} {n : Int} (h : Is b n) : toW b = n := by
  unfold toW
  rw [h.2.1]
  have hk := K_pos
  exact Int.mul_ediv_cancel _ (by omega)

theorem isW_of_is {b : Nat} {n : Int} (h : Is b n) (h1 : -safe ≤ n) (h2 : n ≤ safe) : isW b = true := by
  rw [isW_iff, toW_of_is h]; exact ⟨h, h1, h2⟩

theorem mulK_lt (a b : Int) : a * (K : Int) < b * (K : Int) ↔ a < b := Int.mul_lt_mul_right (by have := K_pos; omega)
/-! ### a whole number written as a float -/

theorem sc_of (b : Nat) (s : Bool) (M : Nat) (h1 : sg b = s) (h2 : mg (rg b) = M) : sc b = if s then -(M : Int) else (M : Int) := by
  unfold sc; rw [h1, h2]

theorem is_nearest (n : Int) (h1 : -9007199254740992 ≤ n) (h2 : n ≤ 9007199254740992) : Is (FloatKind.f64.nearest n) n := by
  have hv : FloatKind.f64.nearest n = Ieee.double.nearest (decide (n < 0)) n.natAbs 0 := rfl
  rw [hv]
  have key : ∃ q k, n.natAbs * 2 ^ ((0 : Int) + 1074).toNat = q * 2 ^ k ∧ q < 2 ^ 53 ∧ k ≤ 2045 := by
    rw [U_eq]
    by_cases h : n.natAbs < 2 ^ 53
    · exact ⟨n.natAbs, U, rfl, h, U_le⟩
    · refine ⟨1, 53 + U, ?_, by decide, by unfold U; omega⟩
      have e : n.natAbs = 2 ^ 53 := by omega
      rw [e, Nat.one_mul, Nat.pow_add]
  obtain ⟨q, k, hM, hq, hk⟩ := key
  obtain ⟨hf, hs, hm⟩ := nearest_ok (decide (n < 0)) n.natAbs 0 q k (by omega) hM hq hk
  refine ⟨hf, ?_, ?_⟩
  · rw [sc_of _ _ _ hs hm, ← hM, U_eq]
    have e : ((n.natAbs * 2 ^ U : Nat) : Int) = (n.natAbs : Int) * (K : Int) := by
      rw [Int.natCast_mul]; rfl
    rw [e, ← Int.neg_mul]
    by_cases hc : n < 0
    · have e2 : -(n.natAbs : Int) = n := by omega
      rw [if_pos (by simpa using hc), e2]
    · have e2 : (n.natAbs : Int) = n := by omega
      rw [if_neg (by simpa using hc), e2]
  · intro h; rw [hs, h]; decide

/-! ### towards zero -/

theorem cut_zero (s : Bool) (n drop : Nat) : Ieee.Toward.zero.cut s n drop = n / 2 ^ drop := by
  unfold Ieee.Toward.cut
  simp only [Bool.toNat_false, Nat.add_zero]
  rw [Nat.shiftLeft_eq, Nat.one_mul]
  by_cases h : drop ≤ n.log2 + 2
  · rw [Nat.min_eq_left h]
  · have h1 := Nat.lt_log2_self (n := n)
    rw [Nat.min_eq_right (by omega), Nat.div_eq_of_lt (Nat.lt_of_lt_of_le h1 (Nat.pow_le_pow_right (by decide) (by omega))),
      Nat.div_eq_of_lt (Nat.lt_of_lt_of_le h1 (Nat.pow_le_pow_right (by decide) (by omega)))]

/-- A finite word, cut towards zero. -/
def tr (b : Nat) : Int := if sg b then -((mg (rg b) / K : Nat) : Int) else ((mg (rg b) / K : Nat) : Int)

theorem cut_fin (s : Bool) (r : Nat) : Ieee.Toward.zero.cut s (dg r <<< (-1074 + (pl r : Int)).toNat) (-(-1074 + (pl r : Int))).toNat = mg r / K := by
  rw [cut_zero, mg_eq, Nat.shiftLeft_eq]
  generalize pl r = p
  by_cases h : U ≤ p
  · have e1 : (-1074 + (p : Int)).toNat = p - U := by unfold U at h ⊢; omega
    have e2 : (-(-1074 + (p : Int))).toNat = 0 := by unfold U at h; omega
    have e3 : 2 ^ p = 2 ^ (p - U) * K := by unfold K; rw [← Nat.pow_add]; congr 1; omega
    rw [e1, e2, Nat.pow_zero, Nat.div_one, e3, ← Nat.mul_assoc, Nat.mul_div_cancel _ K_pos]
  · have e1 : (-1074 + (p : Int)).toNat = 0 := by unfold U at h; omega
    have e2 : (-(-1074 + (p : Int))).toNat = U - p := by unfold U at h ⊢; omega
    have e3 : K = 2 ^ (U - p) * 2 ^ p := by unfold K; rw [← Nat.pow_add]; congr 1; omega
    rw [e1, e2, Nat.pow_zero, Nat.mul_one, e3, Nat.mul_div_mul_right _ _ (pow_pos2 p)]

theorem integral_fin {b : Nat} (h : fin b = true) : (FloatKind.f64.decode b).integral .zero = .number (sg b) (mg (rg b) / K) 0 := by
  show (Ieee.double.read b).integral .zero = _
  rw [read_fin h]
  simp only [Ieee.Datum.integral]
  rw [cut_fin]

theorem toInt_fin {b : Nat} (h : fin b = true) : (FloatKind.f64.decode b).toInt .zero = some (tr b) := by
  unfold Ieee.Datum.toInt
  rw [integral_fin h]
  simp only [signed_eq, Nat.pow_zero, Nat.mul_one]
  unfold tr
  split <;> rfl

theorem tr_of_is {b : Nat} {n : Int} (h : Is b n) : tr b = n := by
  have hk := K_pos
  have e : (mg (rg b) : Int) = n.natAbs * K ∧ (sg b = true → n ≤ 0) ∧ (sg b = false → 0 ≤ n) := by
    have h2 := h.2.1
    unfold sc at h2
    cases hs : sg b
    · rw [hs] at h2; simp only [Bool.false_eq_true, if_false] at h2
      have h0 : 0 ≤ n := by
        have := mulK_lt n 0
        omega
      have e2 : ((n.natAbs : Nat) : Int) = n := by omega
      rw [h2, e2]; exact ⟨rfl, by simp, fun _ => h0⟩
    · rw [hs] at h2; simp only [if_true] at h2
      have h0 : n ≤ 0 := by
        have := mulK_lt 0 n
        omega
      have e2 : ((n.natAbs : Nat) : Int) = -n := by omega
      refine ⟨?_, fun _ => h0, by simp⟩
      rw [e2, Int.neg_mul]; omega
  obtain ⟨e1, e2, e3⟩ := e
  have e4 : mg (rg b) / K = n.natAbs := by
    have : mg (rg b) = n.natAbs * K := by
      have := e1; rw [← Int.natCast_mul] at this; exact Int.ofNat.inj this
    rw [this, Nat.mul_div_cancel _ hk]
  unfold tr
  rw [e4]
  cases hs : sg b
  · have := e3 hs; simp; omega
  · have := e2 hs; simp; omega

theorem is_of_tr {b : Nat} (hf : fin b = true) (h : tr b * (K : Int) = sc b) (hz : (isZ b && sg b) = false) : Is b (tr b) := by
  refine ⟨hf, h.symm, fun h0 => ?_⟩
  rw [h0, Int.zero_mul] at h
  have := (sc_zero_iff b).1 h.symm
  rw [this] at hz
  simpa using hz

theorem dg_lt (r : Nat) : dg r < 2 ^ 53 := by unfold dg; split <;> omega
theorem pl_le {r : Nat} (h : r < top) : pl r ≤ 2045 := by
  have ht : top = 2047 * 2 ^ 52 := rfl
  unfold pl; split <;> omega

/-- A finite word cut towards zero, as a word. -/
theorem trunc_fin {b : Nat} (h : fin b = true) : fin (Ieee.double.nearest (sg b) (mg (rg b) / K) 0) = true ∧ sg (Ieee.double.nearest (sg b) (mg (rg b) / K) 0) = sg b ∧
    sc (Ieee.double.nearest (sg b) (mg (rg b) / K) 0) = tr b * (K : Int) := by
  have h' : rg b < top := by simpa [fin] using h
  have hd := dg_lt (rg b)
  have hp := pl_le h'
  have key : ∃ q k, mg (rg b) / K * 2 ^ ((0 : Int) + 1074).toNat = q * 2 ^ k ∧ q < 2 ^ 53 ∧ k ≤ 2045 := by
    rw [U_eq]
    by_cases hc : U ≤ pl (rg b)
    · refine ⟨dg (rg b), pl (rg b), ?_, hd, hp⟩
      rw [mg_eq]
      refine Nat.div_mul_cancel ?_
      exact Nat.dvd_trans (Nat.pow_dvd_pow 2 hc) (Nat.dvd_mul_left _ _)
    · refine ⟨mg (rg b) / K, U, rfl, ?_, U_le⟩
      rw [Nat.div_lt_iff_lt_mul K_pos, mg_eq]
      unfold K
      exact Nat.mul_lt_mul_of_lt_of_le hd (Nat.pow_le_pow_right (by decide) (by omega)) (pow_pos2 _)
  obtain ⟨q, k, hM, hq, hk⟩ := key
  obtain ⟨hf, hs, hm⟩ := nearest_ok (sg b) (mg (rg b) / K) 0 q k (by omega) hM hq hk
  refine ⟨hf, hs, ?_⟩
  rw [sc_of _ _ _ hs hm, ← hM, U_eq]
  unfold tr
  split
  · rw [Int.neg_mul, Int.natCast_mul]; rfl
  · rw [Int.natCast_mul]; rfl

/-! ### the tests of the two texts -/

theorem mg_abs (b : Nat) : (mg (rg b) : Int) = if 0 ≤ sc b then sc b else -sc b := by
  unfold sc
  cases sg b <;> simp <;> omega

theorem isW_fin_eq {b : Nat} (hf : fin b = true) : isW b = (decide (tr b * (K : Int) = sc b) && decide ((mg (rg b) : Int) ≤ safe * (K : Int)) && (!isZ b || !sg b)) := by
  rw [Bool.eq_iff_iff, isW_iff]
  simp only [Bool.and_eq_true, decide_eq_true_eq, Bool.or_eq_true, Bool.not_eq_true']
  constructor
  · rintro ⟨h, h1, h2⟩
    have e := tr_of_is h
    refine ⟨⟨by rw [e]; exact h.2.1.symm, ?_⟩, ?_⟩
    · rw [mg_abs, h.2.1]
      have a1 := (mulK_lt safe (toW b))
      have a2 := (mulK_lt (toW b) (-safe))
      rw [Int.neg_mul] at a2
      split <;> omega
    · by_cases hz : isZ b = true
      · right
        apply h.2.2
        have h0 := (sc_zero_iff b).2 hz
        rw [h.2.1] at h0
        have hk := K_pos
        rcases Int.mul_eq_zero.1 h0 with h0 | h0
        · exact h0
        · omega
      · left; simpa using hz
  · rintro ⟨⟨h1, h2⟩, h3⟩
    have hi : Is b (tr b) := is_of_tr hf h1 (by rcases h3 with h3 | h3 <;> simp [h3])
    rw [toW_of_is hi]
    rw [mg_abs, ← h1] at h2
    have a1 := (mulK_lt safe (tr b))
    have a2 := (mulK_lt (tr b) (-safe))
    have a3 := (mulK_lt (tr b) 0)
    rw [Int.neg_mul] at a2
    refine ⟨hi, ?_, ?_⟩
    · split at h2 <;> omega
    · split at h2 <;> omega

theorem not_isW_inf {b : Nat} (h : fin b = false) : isW b = false := by
  unfold isW; rw [h]; rfl

/-- The words of the greatest and the least of the numbers. -/
theorem is_safe : Is 4845873199050653695 safe := by
  have h := is_nearest safe (by decide) (by decide)
  have e : FloatKind.f64.nearest safe = 4845873199050653695 := by decide +kernel
  rw [e] at h; exact h
theorem is_1024 : Is 4652218415073722368 1024 := by
  have h := is_nearest 1024 (by decide) (by decide)
  have e : FloatKind.f64.nearest 1024 = 4652218415073722368 := by decide +kernel
  rw [e] at h; exact h
theorem compare_lt_iff (x y : Int) : (compare x y == .lt) = decide (x < y) := by
  simp only [compare, compareOfLessAndEq]
  split
  · rename_i h; simp [h]
  · rename_i h; split <;> simp [h]
theorem compare_gt_iff (x y : Int) : (compare x y == .gt) = decide (y < x) := by
  simp only [compare, compareOfLessAndEq]
  split
  · rename_i h; rw [Bool.eq_iff_iff]; simp; omega
  · split <;> rw [Bool.eq_iff_iff] <;> simp <;> omega

theorem eq_fin {a b : Nat} (ha : fin a = true) (hb : fin b = true) : (FloatKind.f64.format.order a b == some .eq) = decide (sc a = sc b) := by
  have h : FloatKind.f64.format.order a b = some (compare (sc a) (sc b)) := order_fin ha hb
  rw [h, ← compare_eq_iff]; rfl
theorem lt_fin {a b : Nat} (ha : fin a = true) (hb : fin b = true) : (FloatKind.f64.format.order a b == some .lt) = decide (sc a < sc b) := by
  have h : FloatKind.f64.format.order a b = some (compare (sc a) (sc b)) := order_fin ha hb
  rw [h, ← compare_lt_iff]; rfl
theorem gt_fin {a b : Nat} (ha : fin a = true) (hb : fin b = true) : (FloatKind.f64.format.order a b == some .gt) = decide (sc b < sc a) := by
  have h : FloatKind.f64.format.order a b = some (compare (sc a) (sc b)) := order_fin ha hb
  rw [h, ← compare_gt_iff]; rfl

theorem order_inf_fin {a b : Nat} (ha : rg a = top) (hb : fin b = true) : FloatKind.f64.format.order a b = some (if sg a then .lt else .gt) := by
  show Ieee.double.order a b = _
  unfold Ieee.Format.order
  rw [read_inf ha, read_fin hb]; rfl

/-- The whole number of a word that is one; else nought. -/
def wv (b : Nat) : Int := if isW b then toW b else 0

theorem tr_bounds {b : Nat} (h1 : -safe * (K : Int) ≤ sc b) (h2 : sc b ≤ safe * (K : Int)) : -safe ≤ tr b ∧ tr b ≤ safe := by
  have hk := K_pos
  have ha := mg_abs b
  have h3 : (mg (rg b) : Int) ≤ safe * (K : Int) := by
    rw [Int.neg_mul] at h1
    split at ha <;> omega
  have h4 : mg (rg b) ≤ safe.toNat * K := by
    have e : ((safe.toNat * K : Nat) : Int) = safe * (K : Int) := by rw [Int.natCast_mul]; rfl
    omega
  have h5 : mg (rg b) / K ≤ safe.toNat := by
    rw [Nat.div_le_iff_le_mul_add_pred hk]
    have : K * safe.toNat = safe.toNat * K := Nat.mul_comm _ _
    omega
  have e : (safe.toNat : Int) = safe := by decide
  unfold tr
  generalize mg (rg b) / K = q at h5 ⊢
  split <;> omega

theorem toI64 {b : Nat} (hf : fin b = true) (h1 : -safe ≤ tr b) (h2 : tr b ≤ safe) : floatToIntVal .f64 b .i64 = some (tr b) := by
  unfold floatToIntVal
  rw [toInt_fin hf]
  have e1 : IntKind.i64.min = -9223372036854775808 := by decide
  have e2 : IntKind.i64.max = 9223372036854775807 := by decide
  have e3 : safe = 9007199254740991 := rfl
  rw [e3] at h1 h2
  simp only [e1, e2]
  rw [if_pos ⟨by omega, by omega⟩]

end Fl
end Go.Proofs.YtbmaodlghglopaaGreatDoor
