/-
  Plain facts on 64-bit floats: what a word stands for as a whole number of smallest units, how two words compare, and that rounding a whole number of units gives it back where it fits.
-/
import GoSem.Core.Float
import Derived.Laws.FloatBits
import Derived.Laws.FloatArith
namespace Go.Proofs.Ytbkjbpefbdoenaa
namespace Fl

/-- The sign bit. -/
def sg (b : Nat) : Bool := b / 2 ^ 63 % 2 == 1
/-- The rung. -/
def rg (b : Nat) : Nat := b % 2 ^ 63
/-- A rung's magnitude in smallest units. -/
def mg (r : Nat) : Nat := if r < 2 ^ 52 then r else (2 ^ 52 + r % 2 ^ 52) * 2 ^ (r / 2 ^ 52 - 1)
/-- The rung of infinity. -/
def top : Nat := 2047 * 2 ^ 52
/-- Is a word finite? -/
def fin (b : Nat) : Bool := decide (rg b < top)
/-- Is a word no number? -/
def isNaN (b : Nat) : Bool := decide (top < rg b)
/-- A finite word's worth in smallest units. -/
def sc (b : Nat) : Int := if sg b then -(mg (rg b) : Int) else (mg (rg b) : Int)

theorem infRung_double : Ieee.double.infRung = top := by decide
theorem binade_double : Ieee.double.binade = 2 ^ 52 := by decide
theorem signWeight_double : Ieee.double.signWeight = 2 ^ 63 := by decide
theorem least_double : Ieee.double.leastPlace = -1074 := by decide

/-- The digits and the place of a finite rung. -/
def dg (r : Nat) : Nat := if r < 2 ^ 52 then r else 2 ^ 52 + r % 2 ^ 52
def pl (r : Nat) : Nat := if r < 2 ^ 52 then 0 else r / 2 ^ 52 - 1
theorem mg_eq (r : Nat) : mg r = dg r * 2 ^ pl r := by
  unfold mg dg pl; split <;> simp

theorem read_fin {b : Nat} (h : fin b = true) : Ieee.double.read b = .number (sg b) (dg (rg b)) (-1074 + (pl (rg b) : Nat)) := by
  have h' : rg b < top := by simpa [fin] using h
  unfold Ieee.Format.read
  rw [signWeight_double, binade_double, infRung_double, least_double]
  show (if rg b < 2 ^ 52 then _ else if rg b < top then _ else _) = _
  by_cases h1 : rg b < 2 ^ 52
  · rw [if_pos h1]
    have e1 : dg (rg b) = rg b := by unfold dg; rw [if_pos h1]
    have e2 : pl (rg b) = 0 := by unfold pl; rw [if_pos h1]
    rw [e1, e2]; rfl
  · rw [if_neg h1, if_pos h']
    have e1 : dg (rg b) = 2 ^ 52 + rg b % 2 ^ 52 := by unfold dg; rw [if_neg h1]
    have e2 : pl (rg b) = rg b / 2 ^ 52 - 1 := by unfold pl; rw [if_neg h1]
    rw [e1, e2]; rfl

theorem read_nan {b : Nat} (h : isNaN b = true) : ∃ s t, Ieee.double.read b = .nan s t := by
  have h' : top < rg b := by simpa [isNaN] using h
  unfold Ieee.Format.read
  rw [signWeight_double, binade_double, infRung_double, least_double]
  have ht : top = 2047 * 2 ^ 52 := rfl
  show ∃ s t, (if rg b < 2 ^ 52 then _ else if rg b < top then _ else if rg b = top then _ else _) = _
  rw [if_neg (by omega), if_neg (by omega), if_neg (by omega)]
  exact ⟨_, _, rfl⟩

theorem read_inf {b : Nat} (h : rg b = top) : Ieee.double.read b = .infinity (sg b) := by
  unfold Ieee.Format.read
  rw [signWeight_double, binade_double, infRung_double, least_double]
  have ht : top = 2047 * 2 ^ 52 := rfl
  show (if rg b < 2 ^ 52 then _ else if rg b < top then _ else if rg b = top then _ else _) = _
  rw [if_neg (by omega), if_neg (by omega), if_pos h]
  simp [sg]

theorem kinds (b : Nat) : fin b = true ∨ rg b = top ∨ isNaN b = true := by
  simp only [fin, isNaN, decide_eq_true_eq]; omega

theorem signed_eq (s : Bool) (m k : Nat) : Ieee.signed s m k = if s then -((m * 2 ^ k : Nat) : Int) else ((m * 2 ^ k : Nat) : Int) := by
  unfold Ieee.signed; rw [Nat.shiftLeft_eq]

theorem order_nan_left {a b : Nat} (h : isNaN a = true) : Ieee.double.order a b = none := by
  obtain ⟨s, t, e⟩ := read_nan h
  simp [Ieee.Format.order, e, Ieee.Datum.order]

theorem order_nan_right {a b : Nat} (h : isNaN b = true) : Ieee.double.order a b = none := by
  obtain ⟨s, t, e⟩ := read_nan h
  unfold Ieee.Format.order; rw [e]
  cases Ieee.double.read a <;> rfl

theorem pow_pos2 (k : Nat) : 0 < 2 ^ k := Nat.pow_pos (by decide)

theorem sc_signed (b : Nat) (k : Nat) (h : k ≤ pl (rg b)) :
    sc b = Ieee.signed (sg b) (dg (rg b)) (pl (rg b) - k) * (2 ^ k : Nat) := by
  have : mg (rg b) = dg (rg b) * 2 ^ (pl (rg b) - k) * 2 ^ k := by
    rw [mg_eq, Nat.mul_assoc, ← Nat.pow_add]; congr 2; omega
  rw [signed_eq]; unfold sc; rw [this]
  split <;> simp [Int.neg_mul]

theorem compare_mul (x y : Int) (k : Nat) (h : 0 < k) : compare (x * k) (y * k) = compare x y := by
  have h' : (0 : Int) < k := by omega
  simp only [compare, compareOfLessAndEq]
  have e1 : (x * k < y * k) ↔ x < y := Int.mul_lt_mul_right h'
  have e2 : (x * k = y * k) ↔ x = y := Int.mul_eq_mul_right_iff (by omega)
  simp only [e1, e2]

theorem order_fin {a b : Nat} (ha : fin a = true) (hb : fin b = true) : Ieee.double.order a b = some (compare (sc a) (sc b)) := by
  unfold Ieee.Format.order
  rw [read_fin ha, read_fin hb]
  simp only [Ieee.Datum.order, Option.some.injEq]
  generalize hp : pl (rg a) = p
  generalize hq : pl (rg b) = q
  have hk : ∃ k : Nat, min (-1074 + (p : Int)) (-1074 + (q : Int)) = -1074 + (k : Int) ∧ k ≤ p ∧ k ≤ q := by
    by_cases h : p ≤ q
    · exact ⟨p, by omega, by omega, by omega⟩
    · exact ⟨q, by omega, by omega, by omega⟩
  obtain ⟨k, e, h1, h2⟩ := hk
  rw [e]
  have e1 : (-1074 + (p : Int) - (-1074 + (k : Int))).toNat = p - k := by omega
  have e2 : (-1074 + (q : Int) - (-1074 + (k : Int))).toNat = q - k := by omega
  rw [e1, e2, sc_signed a k (by omega), sc_signed b k (by omega), hp, hq, compare_mul _ _ _ (pow_pos2 k)]

theorem fin_not_nan {b : Nat} (h : fin b = true) : isNaN b = false := by
  simp only [fin, isNaN, decide_eq_true_eq, decide_eq_false_iff_not] at *; omega

theorem order_self (a : Nat) : Ieee.double.order a a = if isNaN a then none else some .eq := by
  rcases kinds a with h | h | h
  · rw [order_fin h h, fin_not_nan h]; simp [compare, compareOfLessAndEq]
  · have : isNaN a = false := by simp [isNaN, h]
    rw [this]; unfold Ieee.Format.order; rw [read_inf h]; simp [Ieee.Datum.order]
  · rw [order_nan_left h, h]; rfl

/-- Is a word a nought? -/
def isZ (b : Nat) : Bool := decide (rg b = 0)

theorem fin_of_isZ {b : Nat} (h : isZ b = true) : fin b = true := by
  simp only [isZ, fin, decide_eq_true_eq] at *
  have ht : top = 2047 * 2 ^ 52 := rfl
  omega

theorem mg_zero_iff (r : Nat) : mg r = 0 ↔ r = 0 := by
  unfold mg
  split
  · exact Iff.rfl
  · rename_i h
    have := pow_pos2 (r / 2 ^ 52 - 1)
    constructor
    · intro e
      rcases Nat.mul_eq_zero.1 e with e | e <;> omega
    · intro e; omega

theorem sc_zero_iff (b : Nat) : sc b = 0 ↔ isZ b = true := by
  have := mg_zero_iff (rg b)
  unfold sc isZ
  rw [decide_eq_true_eq]
  split <;> omega

theorem sc_0 : sc 0 = 0 := by decide

theorem fin_0 : fin 0 = true := by decide

theorem fin_1 : fin 4607182418800017408 = true := by decide

theorem order_0 (a : Nat) (h : isNaN a = false) : (Ieee.double.order a 0 == some .eq) = isZ a := by
  rcases kinds a with h1 | h1 | h1
  · rw [order_fin h1 fin_0, sc_0]
    rw [Bool.eq_iff_iff, ← sc_zero_iff]
    simp [compare, compareOfLessAndEq]
    split
    · simp; omega
    · split <;> simp <;> omega
  · have h2 : isZ a = false := by
      have ht : top = 2047 * 2 ^ 52 := rfl
      simp only [isZ, decide_eq_false_iff_not]; omega
    rw [h2]
    unfold Ieee.Format.order
    rw [read_inf h1, read_fin fin_0]
    simp only [Ieee.Datum.order]
    cases sg a <;> rfl
  · rw [h1] at h; cases h

/-- One over a nought is the infinity of its sign. -/
theorem div_1_0 (b : Nat) (h : isZ b = true) : Ieee.double.div 4607182418800017408 b = some (Ieee.double.word (sg b) top) := by
  unfold Ieee.Format.div
  rw [read_fin fin_1, read_fin (fin_of_isZ h)]
  have h0 : rg b = 0 := by simpa [isZ] using h
  have e1 : dg (rg b) = 0 := by rw [h0]; rfl
  have e2 : dg (rg 4607182418800017408) = 2 ^ 52 := by decide
  have e3 : sg 4607182418800017408 = false := by decide
  rw [e1, e2, e3]
  simp only [Ieee.Datum.quotient, if_true]
  rw [if_neg (by decide)]
  simp [Ieee.Format.write, infRung_double]

theorem read_word_inf (s : Bool) : Ieee.double.read (Ieee.double.word s top) = .infinity s := by
  cases s <;> decide

theorem order_inf (s t : Bool) : (Ieee.double.order (Ieee.double.word s top) (Ieee.double.word t top) == some .eq) = (s == t) := by
  unfold Ieee.Format.order
  rw [read_word_inf, read_word_inf]
  cases s <;> cases t <;> decide

theorem compare_eq_iff (x y : Int) : (compare x y == .eq) = decide (x = y) := by
  simp only [compare, compareOfLessAndEq]
  split
  · rw [Bool.eq_iff_iff]; simp; omega
  · split <;> rw [Bool.eq_iff_iff] <;> simp <;> omega

theorem zero_of_eq {a b : Nat} (h : Ieee.double.order a b = some .eq) (hz : isZ a = true) : isZ b = true := by
  rcases kinds b with h1 | h1 | h1
  · rw [order_fin (fin_of_isZ hz) h1] at h
    have e := compare_eq_iff (sc a) (sc b)
    simp at h
    rw [h] at e
    rw [← sc_zero_iff] at hz ⊢
    simp at e; omega
  · unfold Ieee.Format.order at h
    rw [read_inf h1, read_fin (fin_of_isZ hz)] at h
    simp only [Ieee.Datum.order] at h
    cases hs : sg b <;> rw [hs] at h <;> simp at h
  · rw [order_nan_right h1] at h; cases h

/-- Two words: both no number, or equal, noughts by their signs. -/
def same (a b : Nat) : Bool :=
  if isNaN a || isNaN b then isNaN a && isNaN b
  else (Ieee.double.order a b == some .eq) && (!isZ a || (sg a == sg b))

theorem same_self (a : Nat) : same a a = true := by
  unfold same
  rw [order_self]
  cases isNaN a <;> simp

theorem same_of_nan {a b : Nat} (ha : isNaN a = true) (hb : isNaN b = true) : same a b = true := by
  simp [same, ha, hb]

end Fl
end Go.Proofs.Ytbkjbpefbdoenaa
