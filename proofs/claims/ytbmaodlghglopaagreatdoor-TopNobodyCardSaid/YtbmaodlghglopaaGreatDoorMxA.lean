/-
  An element of an array that is typed out.
  Plain facts on 64-bit floats: what a word stands for as a whole number of smallest units, how two words compare, and that rounding a whole number of units gives it back where it fits.
  Small laws that the walks of this seat want beside the kit's: storing a float; comparing floats that are no numbers; one over a nought.
  Plain facts on 64-bit floats, second part: rounding; whole numbers as floats; sums, products and quotients of whole numbers.
-/
import Derived.Test.YtbmaodlghglopaaGreatDoorProg
import GoSem.Core.Float
import Derived.Laws.FloatBits
import Derived.Laws.FloatArith
import Derived.Test.YtbmaodlghglopaaGreatDoorRows
import Derived.WalkKit
import Derived.WalkSpells
import Derived.WalkLawsBesides
import Derived.Deep.QuietTactic
import Derived.BigQuiet
import Derived.Deep.RegionHeld3
namespace Go.Proofs.YtbmaodlghglopaaGreatDoor
theorem gE {α : Type _} {l : List α} {i : Nat} {a : Option α} (h : l[i]? = a) : l.toArray[i]? = a := by rw [List.getElem?_toArray]; exact h

end Go.Proofs.YtbmaodlghglopaaGreatDoor

namespace Go.Proofs.YtbmaodlghglopaaGreatDoor
namespace Fl

/-- The sign bit. -/
def sg (b : Nat) : Bool := b / 2 ^ 63 % 2 == 1
/-- The rung. -/
def rg (b : Nat) : Nat := b % 2 ^ 63
/-- A rung's magnitude in smallest units. -/
def mg (r : Nat) : Nat := if r < 2 ^ 52 then r else (2 ^ 52 + r % 2 ^ 52) * 2 ^ (r / 2 ^ 52 - 1)
/-- The rung of infinity. -/
def top : Nat := 2047 * 2 ^ 52
/-- Is a word finite? -/
def fin (b : Nat) : Bool := decide (rg b < top)
/-- Is a word no number? -/
def isNaN (b : Nat) : Bool := decide (top < rg b)
/-- A finite word's worth in smallest units. -/
def sc (b : Nat) : Int := if sg b then -(mg (rg b) : Int) else (mg (rg b) : Int)

theorem infRung_double : Ieee.double.infRung = top := by decide
theorem binade_double : Ieee.double.binade = 2 ^ 52 := by decide
theorem signWeight_double : Ieee.double.signWeight = 2 ^ 63 := by decide
theorem least_double : Ieee.double.leastPlace = -1074 := by decide

/-- The digits and the place of a finite rung. -/
def dg (r : Nat) : Nat := if r < 2 ^ 52 then r else 2 ^ 52 + r % 2 ^ 52
def pl (r : Nat) : Nat := if r < 2 ^ 52 then 0 else r / 2 ^ 52 - 1
theorem mg_eq (r : Nat) : mg r = dg r * 2 ^ pl r := by
  unfold mg dg pl; split <;> simp

theorem read_fin {b : Nat} (h : fin b = true) : Ieee.double.read b = .number (sg b) (dg (rg b)) (-1074 + (pl (rg b) : Nat)) := by
  have h' : rg b < top := by simpa [fin] using h
  unfold Ieee.Format.read
  rw [signWeight_double, binade_double, infRung_double, least_double]
  show (if rg b < 2 ^ 52 then _ else if rg b < top then _ else _) = _
  by_cases h1 : rg b < 2 ^ 52
  · rw [if_pos h1]
    have e1 : dg (rg b) = rg b := by unfold dg; rw [if_pos h1]
    have e2 : pl (rg b) = 0 := by unfold pl; rw [if_pos h1]
    rw [e1, e2]; rfl
  · rw [if_neg h1, if_pos h']
    have e1 : dg (rg b) = 2 ^ 52 + rg b % 2 ^ 52 := by unfold dg; rw [if_neg h1]
    have e2 : pl (rg b) = rg b / 2 ^ 52 - 1 := by unfold pl; rw [if_neg h1]
    rw [e1, e2]; rfl

theorem read_nan {b : Nat} (h : isNaN b = true) : ∃ s t, Ieee.double.read b = .nan s t := by
  have h' : top < rg b := by simpa [isNaN] using h
  unfold Ieee.Format.read
  rw [signWeight_double, binade_double, infRung_double, least_double]
  have ht : top = 2047 * 2 ^ 52 := rfl
  show ∃ s t, (if rg b < 2 ^ 52 then _ else if rg b < top then _ else if rg b = top then _ else _) = _
  rw [if_neg (by omega), if_neg (by omega), if_neg (by omega)]
  exact ⟨_, _, rfl⟩

theorem read_inf {b : Nat} (h : rg b = top) : Ieee.double.read b = .infinity (sg b) := by
  unfold Ieee.Format.read
  rw [signWeight_double, binade_double, infRung_double, least_double]
  have ht : top = 2047 * 2 ^ 52 := rfl
  show (if rg b < 2 ^ 52 then _ else if rg b < top then _ else if rg b = top then _ else _) = _
  rw [if_neg (by omega), if_neg (by omega), if_pos h]
  simp [sg]

theorem kinds (b : Nat) : fin b = true ∨ rg b = top ∨ isNaN b = true := by
  simp only [fin, isNaN, decide_eq_true_eq]; omega

theorem signed_eq (s : Bool) (m k : Nat) : Ieee.signed s m k = if s then -((m * 2 ^ k : Nat) : Int) else ((m * 2 ^ k : Nat) : Int) := by
  unfold Ieee.signed; rw [Nat.shiftLeft_eq]

theorem order_nan_left {a b : Nat} (h : isNaN a = true) : Ieee.double.order a b = none := by
  obtain ⟨s, t, e⟩ := read_nan h
  simp [Ieee.Format.order, e, Ieee.Datum.order]

theorem pow_pos2 (k : Nat) : 0 < 2 ^ k := Nat.pow_pos (by decide)

theorem sc_signed (b : Nat) (k : Nat) (h : k ≤ pl (rg b)) :
    sc b = Ieee.signed (sg b) (dg (rg b)) (pl (rg b) - k) * (2 ^ k : Nat) := by
  have : mg (rg b) = dg (rg b) * 2 ^ (pl (rg b) - k) * 2 ^ k := by
    rw [mg_eq, Nat.mul_assoc, ← Nat.pow_add]; congr 2; omega
  rw [signed_eq]; unfold sc; rw [this]
  split <;> simp [Int.neg_mul]

theorem compare_mul (x y : Int) (k : Nat) (h : 0 < k) : compare (x * k) (y * k) = compare x y := by
  have h' : (0 : Int) < k := by omega
  simp only [compare, compareOfLessAndEq]
  have e1 : (x * k < y * k) ↔ x < y := Int.mul_lt_mul_right h'
  have e2 : (x * k = y * k) ↔ x = y := Int.mul_eq_mul_right_iff (by omega)
  simp only [e1, e2]

theorem order_fin {a b : Nat} (ha : fin a = true) (hb : fin b = true) : Ieee.double.order a b = some (compare (sc a) (sc b)) := by
  unfold Ieee.Format.order
  rw [read_fin ha, read_fin hb]
  simp only [Ieee.Datum.order, Option.some.injEq]
  generalize hp : pl (rg a) = p
  generalize hq : pl (rg b) = q
  have hk : ∃ k : Nat, min (-1074 + (p : Int)) (-1074 + (q : Int)) = -1074 + (k : Int) ∧ k ≤ p ∧ k ≤ q := by
    by_cases h : p ≤ q
    · exact ⟨p, by omega, by omega, by omega⟩
    · exact ⟨q, by omega, by omega, by omega⟩
  obtain ⟨k, e, h1, h2⟩ := hk
  rw [e]
  have e1 : (-1074 + (p : Int) - (-1074 + (k : Int))).toNat = p - k := by omega
  have e2 : (-1074 + (q : Int) - (-1074 + (k : Int))).toNat = q - k := by omega
  rw [e1, e2, sc_signed a k (by omega), sc_signed b k (by omega), hp, hq, compare_mul _ _ _ (pow_pos2 k)]

theorem fin_not_nan {b : Nat} (h : fin b = true) : isNaN b = false := by
  simp only [fin, isNaN, decide_eq_true_eq, decide_eq_false_iff_not] at *; omega

theorem order_self (a : Nat) : Ieee.double.order a a = if isNaN a then none else some .eq := by
  rcases kinds a with h | h | h
  · rw [order_fin h h, fin_not_nan h]; simp [compare, compareOfLessAndEq]
  · have : isNaN a = false := by simp [isNaN, h]
    rw [this]; unfold Ieee.Format.order; rw [read_inf h]; simp [Ieee.Datum.order]
  · rw [order_nan_left h, h]; rfl

/-- Is a word a nought? -/
def isZ (b : Nat) : Bool := decide (rg b = 0)

theorem fin_of_isZ {b : Nat} (h : isZ b = true) : fin b = true := by
  simp only [isZ, fin, decide_eq_true_eq] at *
  have ht : top = 2047 * 2 ^ 52 := rfl
  omega

theorem mg_zero_iff (r : Nat) : mg r = 0 ↔ r = 0 := by
  unfold mg
  split
  · exact Iff.rfl
  · rename_i h
    have := pow_pos2 (r / 2 ^ 52 - 1)
    constructor
    · intro e
      rcases Nat.mul_eq_zero.1 e with e | e <;> omega
    · intro e; omega

theorem sc_zero_iff (b : Nat) : sc b = 0 ↔ isZ b = true := by
  have := mg_zero_iff (rg b)
  unfold sc isZ
  rw [decide_eq_true_eq]
  split <;> omega

theorem sc_0 : sc 0 = 0 := by decide

theorem fin_0 : fin 0 = true := by decide

theorem order_0 (a : Nat) (h : isNaN a = false) : (Ieee.double.order a 0 == some .eq) = isZ a := by
  rcases kinds a with h1 | h1 | h1
  · rw [order_fin h1 fin_0, sc_0]
    rw [Bool.eq_iff_iff, ← sc_zero_iff]
    simp [compare, compareOfLessAndEq]
    split
    · simp; omega
    · split <;> simp <;> omega
  · have h2 : isZ a = false := by
      have ht : top = 2047 * 2 ^ 52 := rfl
      simp only [isZ, decide_eq_false_iff_not]; omega
    rw [h2]
    unfold Ieee.Format.order
    rw [read_inf h1, read_fin fin_0]
    simp only [Ieee.Datum.order]
    cases sg a <;> rfl
  · rw [h1] at h; cases h

theorem compare_eq_iff (x y : Int) : (compare x y == .eq) = decide (x = y) := by
  simp only [compare, compareOfLessAndEq]
  split
  · rw [Bool.eq_iff_iff]; simp; omega
  · split <;> rw [Bool.eq_iff_iff] <;> simp <;> omega

/-- Two words: both no number, or equal, noughts by their signs. -/
def same (a b : Nat) : Bool :=
  if isNaN a || isNaN b then isNaN a && isNaN b
  else (Ieee.double.order a b == some .eq) && (!isZ a || (sg a == sg b))

end Fl
end Go.Proofs.YtbmaodlghglopaaGreatDoor

namespace Go.Proofs.YtbmaodlghglopaaGreatDoor
open Go.RowKit

/-- A fact kept from the walk. -/
theorem hid {p : Prop} (h : p) : Hid p := h

@[go_sem] theorem run_store_float (P : Program) (w : World) (a : Addr) (m : Mode) (k : FloatKind) (n : Nat) : (store a (.float k n) m).run P w = stored P w a (.float k n) m := run_store P w a _ m rfl

theorem ordN {a : Nat} (h : Fl.isNaN a = true) (b : Nat) : FloatKind.f64.format.order a b = none := Fl.order_nan_left h
theorem ordE {a : Nat} (h : Fl.isNaN a = false) : FloatKind.f64.format.order a a = some .eq := by
  have := Fl.order_self a; rw [h] at this; exact this
end Go.Proofs.YtbmaodlghglopaaGreatDoor

namespace Go.Proofs.YtbmaodlghglopaaGreatDoor
namespace Fl

theorem log2_mul_pow (m k : Nat) (h : m ≠ 0) : (m * 2 ^ k).log2 = m.log2 + k := by
  have hp := pow_pos2 k
  have h0 : m * 2 ^ k ≠ 0 := Nat.mul_ne_zero h (by omega)
  have a1 := Nat.log2_self_le h
  have a2 := (Nat.lt_log2_self (n := m))
  rw [Nat.log2_eq_iff h0]
  constructor
  · rw [Nat.pow_add]; exact Nat.mul_le_mul_right _ a1
  · rw [show m.log2 + k + 1 = (m.log2 + 1) + k by omega, Nat.pow_add]
    exact Nat.mul_lt_mul_of_pos_right a2 hp

/-- The cut to the nearest, where the drop is no more than the digits that are there. -/
theorem cut_even (s : Bool) (n drop : Nat) (h : drop ≤ n.log2 + 2) : ∃ c : Nat, c ≤ 1 ∧ Ieee.Toward.even.cut s n drop = n / 2 ^ drop + c ∧ (n % 2 ^ drop = 0 → c = 0) := by
  unfold Ieee.Toward.cut
  rw [Nat.min_eq_left h, Nat.shiftLeft_eq, Nat.one_mul]
  refine ⟨_, ?_, rfl, ?_⟩
  · exact Bool.toNat_le _
  · intro h0
    have := pow_pos2 drop
    simp only [h0]
    have e1 : decide (2 ^ drop < 2 * 0) = false := by simp
    have e2 : (2 ^ drop == 2 * 0) = false := by rw [beq_eq_false_iff_ne]; omega
    simp [e2]

/-- What the rounding of 'M' units keeps: the rung's worth is a whole number of '2 ^ e' units, next to M. -/
theorem nearest_round (s : Bool) (m : Nat) (p : Int) (M : Nat) (hp : -1074 ≤ p) (hM : M = m * 2 ^ (p + 1074).toNat) (h0 : M ≠ 0) (hbig : M.log2 - 52 ≤ 2044 ∨ (M.log2 - 52 ≤ 2045 ∧ M % 2 ^ (M.log2 - 52) = 0)) :
    ∃ c : Nat, c ≤ 1 ∧ (M % 2 ^ (M.log2 - 52) = 0 → c = 0) ∧ fin (Ieee.double.nearest s m p) = true ∧ sg (Ieee.double.nearest s m p) = s ∧
      mg (rg (Ieee.double.nearest s m p)) = (M / 2 ^ (M.log2 - 52) + c) * 2 ^ (M.log2 - 52) := by
  obtain ⟨u, rfl⟩ : ∃ u : Nat, p = -1074 + (u : Int) := ⟨(p + 1074).toNat, by omega⟩
  have hu : (-1074 + (u : Int) + 1074).toNat = u := by omega
  rw [hu] at hM
  have hm : m ≠ 0 := by intro e; rw [e] at hM; simp at hM; exact h0 hM
  have hl : M.log2 = m.log2 + u := by rw [hM]; exact log2_mul_pow m u hm
  generalize he : M.log2 - 52 = e at *
  have a1 := Nat.log2_self_le h0
  have a2 := (Nat.lt_log2_self (n := M))
  have hlast : max (-1074 + (u : Int) + (m.log2 : Int) - (Ieee.double.fractionBits : Int)) Ieee.double.leastPlace = -1074 + (e : Int) := by
    rw [least_double]
    show max (-1074 + (u : Int) + (m.log2 : Int) - 52) (-1074) = _
    omega
  -- the digits that are kept
  have hkept : ∃ c : Nat, c ≤ 1 ∧ (M % 2 ^ e = 0 → c = 0) ∧ Ieee.Toward.even.cut s (m <<< (-1074 + (u : Int) - (-1074 + (e : Int))).toNat) ((-1074 + (e : Int)) - (-1074 + (u : Int))).toNat = M / 2 ^ e + c := by
    by_cases hue : e ≤ u
    · have e1 : (-1074 + (u : Int) - (-1074 + (e : Int))).toNat = u - e := by omega
      have e2 : ((-1074 + (e : Int)) - (-1074 + (u : Int))).toNat = 0 := by omega
      rw [e1, e2, Nat.shiftLeft_eq]
      obtain ⟨c, hc, h1, h2⟩ := cut_even s (m * 2 ^ (u - e)) 0 (by omega)
      have e3 : M = m * 2 ^ (u - e) * 2 ^ e := by rw [hM, Nat.mul_assoc, ← Nat.pow_add]; congr 2; omega
      have e4 : M / 2 ^ e = m * 2 ^ (u - e) := by rw [e3]; exact Nat.mul_div_cancel _ (pow_pos2 e)
      refine ⟨c, hc, fun _ => h2 (by simp [Nat.mod_one]), ?_⟩
      rw [h1, e4]; simp
    · have e1 : (-1074 + (u : Int) - (-1074 + (e : Int))).toNat = 0 := by omega
      have e2 : ((-1074 + (e : Int)) - (-1074 + (u : Int))).toNat = e - u := by omega
      rw [e1, e2, Nat.shiftLeft_eq]
      obtain ⟨c, hc, h1, h2⟩ := cut_even s (m * 2 ^ 0) (e - u) (by simp; omega)
      have e3 : 2 ^ e = 2 ^ (e - u) * 2 ^ u := by rw [← Nat.pow_add]; congr 1; omega
      have e4 : M / 2 ^ e = m / 2 ^ (e - u) := by rw [hM, e3]; exact Nat.mul_div_mul_right _ _ (pow_pos2 u)
      refine ⟨c, hc, fun hz => h2 ?_, ?_⟩
      · rw [hM, e3, Nat.mul_mod_mul_right] at hz
        rcases Nat.mul_eq_zero.1 hz with hz | hz
        · simpa using hz
        · have := pow_pos2 u; omega
      · rw [h1, e4]; simp
  obtain ⟨c, hc, hc0, hk⟩ := hkept
  refine ⟨c, hc, hc0, ?_⟩
  have hlow : M / 2 ^ e < 2 ^ 53 := by
    rw [Nat.div_lt_iff_lt_mul (pow_pos2 e), ← Nat.pow_add]
    exact Nat.lt_of_lt_of_le a2 (Nat.pow_le_pow_right (by decide) (by omega))
  have hhigh : 0 < e → 2 ^ 52 ≤ M / 2 ^ e := by
    intro h
    rw [Nat.le_div_iff_mul_le (pow_pos2 e), ← Nat.pow_add]
    exact Nat.le_trans (Nat.pow_le_pow_right (by decide) (by omega)) a1
  have hbig' : e ≤ 2045 ∧ (c = 0 ∨ e ≤ 2044) := by
    rcases hbig with h | ⟨h, h'⟩
    · omega
    · exact ⟨h, Or.inl (hc0 h')⟩
  clear hbig
  generalize hq : M / 2 ^ e = q at *
  have hval : Ieee.double.nearest s m (-1074 + (u : Int)) = Ieee.double.word s (e * 2 ^ 52 + (q + c)) := by
    unfold Ieee.Format.nearest
    rw [if_neg hm]
    simp only [hlast, hk]
    rw [least_double, binade_double, infRung_double]
    have e1 : (-1074 + (e : Int) - -1074).toNat = e := by omega
    rw [e1, Nat.min_eq_left (by have ht : top = 2047 * 2 ^ 52 := rfl; omega)]
  rw [hval]
  have ht : top = 2047 * 2 ^ 52 := rfl
  have hr : rg (Ieee.double.word s (e * 2 ^ 52 + (q + c))) = e * 2 ^ 52 + (q + c) := by
    unfold rg Ieee.Format.word; rw [signWeight_double]; cases s <;> simp <;> omega
  have hs : sg (Ieee.double.word s (e * 2 ^ 52 + (q + c))) = s := by
    unfold sg Ieee.Format.word; rw [signWeight_double]
    cases s
    · simp; omega
    · simp; omega
  refine ⟨?_, hs, ?_⟩
  · unfold fin; rw [hr]; simp; omega
  · rw [hr]
    unfold mg
    by_cases hz : e = 0
    · subst hz
      simp only [Nat.zero_mul, Nat.zero_add, Nat.pow_zero, Nat.mul_one]
      split
      · rfl
      · rename_i hge
        rcases Nat.lt_or_ge (q + c) (2 ^ 53) with h | h
        · have e1 : (q + c) / 2 ^ 52 = 1 := by omega
          have e2 : 2 ^ 52 + (q + c) % 2 ^ 52 = q + c := by omega
          rw [e1, e2]; simp
        · have e1 : (q + c) / 2 ^ 52 = 2 := by omega
          have e2 : 2 ^ 52 + (q + c) % 2 ^ 52 = 2 ^ 52 := by omega
          rw [e1, e2]; simp; omega
    · have hh := hhigh (by omega)
      rw [if_neg (by omega)]
      rcases Nat.lt_or_ge (q + c) (2 ^ 53) with h | h
      · have e1 : (e * 2 ^ 52 + (q + c)) / 2 ^ 52 - 1 = e := by omega
        have e2 : 2 ^ 52 + (e * 2 ^ 52 + (q + c)) % 2 ^ 52 = q + c := by omega
        rw [e1, e2]
      · have e1 : (e * 2 ^ 52 + (q + c)) / 2 ^ 52 - 1 = e + 1 := by omega
        have e2 : 2 ^ 52 + (e * 2 ^ 52 + (q + c)) % 2 ^ 52 = 2 ^ 52 := by omega
        have e3 : q + c = 2 ^ 52 * 2 := by omega
        have e4 : 2 ^ (e + 1) = 2 * 2 ^ e := by rw [Nat.pow_succ, Nat.mul_comm]
        rw [e1, e2, e3, e4, Nat.mul_assoc]

/-- What is a whole number of less than 2^53 times a power of two is kept. -/
theorem nearest_ok (s : Bool) (m : Nat) (p : Int) (q k : Nat) (hp : -1074 ≤ p) (hM : m * 2 ^ (p + 1074).toNat = q * 2 ^ k) (hq : q < 2 ^ 53) (hk : k ≤ 2045) :
    fin (Ieee.double.nearest s m p) = true ∧ sg (Ieee.double.nearest s m p) = s ∧ mg (rg (Ieee.double.nearest s m p)) = q * 2 ^ k := by
  by_cases h0 : q * 2 ^ k = 0
  · have hm : m = 0 := by
      rw [h0] at hM
      rcases Nat.mul_eq_zero.1 hM with h | h
      · exact h
      · have := pow_pos2 (p + 1074).toNat; omega
    rw [h0]
    unfold Ieee.Format.nearest
    rw [if_pos hm]
    cases s <;> decide
  · have hq0 : q ≠ 0 := by intro e; rw [e] at h0; simp at h0
    have hlq : q.log2 ≤ 52 := by
      have := (Nat.log2_lt hq0 (k := 53)).2 hq
      omega
    have hl : (q * 2 ^ k).log2 = q.log2 + k := log2_mul_pow q k hq0
    have hdvd : 2 ^ ((q * 2 ^ k).log2 - 52) ∣ q * 2 ^ k := by
      refine Nat.dvd_trans (Nat.pow_dvd_pow 2 (by omega : (q * 2 ^ k).log2 - 52 ≤ k)) (Nat.dvd_mul_left _ _)
    obtain ⟨c, hc, hc0, hf, hs, hm⟩ := nearest_round s m p (q * 2 ^ k) hp hM.symm h0 (Or.inr ⟨by omega, Nat.mod_eq_zero_of_dvd hdvd⟩)
    have hc' := hc0 (Nat.mod_eq_zero_of_dvd hdvd)
    refine ⟨hf, hs, ?_⟩
    rw [hm, hc', Nat.add_zero, Nat.div_mul_cancel hdvd]

end Fl
end Go.Proofs.YtbmaodlghglopaaGreatDoor
