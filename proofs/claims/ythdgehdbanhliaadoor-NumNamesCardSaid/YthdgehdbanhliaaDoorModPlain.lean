/-
  Plain laws for the loop of math.Mod.
-/
import Derived.Test.YthdgehdbanhliaaDoorModWalk
namespace Go.Proofs.YthdgehdbanhliaaDoor
namespace Fl

def Hf : Nat := 1021

/-- The word of a fraction between a half and one. -/
theorem half_word (f : Nat) (hf : f < 2 ^ 52) : fin (4602678819172646912 + f) = true ∧ sc (4602678819172646912 + f) = ((2 ^ 52 + f : Nat) : Int) * ((2 ^ Hf : Nat) : Int) := by
  obtain ⟨z, hz⟩ : ∃ z, z = 4602678819172646912 + f := ⟨_, rfl⟩
  rw [← hz]
  have z1 : z / 2 ^ 52 - 1 = Hf := by unfold Hf; omega
  have z2 : z % 2 ^ 52 = f := by omega
  have z3 : rg z = z := by unfold rg; omega
  have z4 : sg z = false := by unfold sg; rw [beq_eq_false_iff_ne]; omega
  have z5 : ¬ z < 2 ^ 52 := by omega
  have z6 : fin z = true := by
    have ht : top = 2047 * 2 ^ 52 := rfl
    unfold fin; rw [decide_eq_true_eq, z3]; omega
  refine ⟨z6, ?_⟩
  have hm : mg (rg z) = (2 ^ 52 + f) * 2 ^ Hf := by
    rw [z3]; unfold mg; rw [if_neg z5, z1, z2]
  rw [sc_of z false _ z4 hm]
  simp only [Bool.false_eq_true, if_false]
  rw [Int.natCast_mul]

theorem half_lt (f g : Nat) (hf : f < 2 ^ 52) (hg : g < 2 ^ 52) : (FloatKind.f64.format.order (4602678819172646912 + f) (4602678819172646912 + g) == some .lt) = decide (f < g) := by
  obtain ⟨h1, h2⟩ := half_word f hf
  obtain ⟨h3, h4⟩ := half_word g hg
  rw [lt_fin h1 h3, h2, h4, decide_eq_decide]
  have hp := pow_pos2 Hf
  generalize 2 ^ Hf = P at *
  have := Int.mul_lt_mul_right (a := ((P : Nat) : Int)) (b := ((2 ^ 52 + f : Nat) : Int)) (c := ((2 ^ 52 + g : Nat) : Int)) (by omega)
  rw [this]; omega

/-- One step of the loop: the difference of exponents. -/
theorem step_is {r y : Nat} {m n : Int} (hr : Is r m) (hy : Is y n) (hm : m < 2 ^ 53) (hn : 0 < n) (hmn : n ≤ m) (k : Nat)
    (hk : (k : Int) = (if rg r % 2 ^ 52 < rg y % 2 ^ 52 then ((rg r / 2 ^ 52 : Nat) : Int) - 1 else ((rg r / 2 ^ 52 : Nat) : Int)) - ((rg y / 2 ^ 52 : Nat) : Int)) : n * 2 ^ k ≤ m := by
  obtain ⟨_, _, a3, a4, a5⟩ := is_pos hr (by omega) hm
  obtain ⟨_, _, b3, b4, b5⟩ := is_pos hy hn (by omega)
  have hK := K_pos
  have hf := Nat.mod_lt (rg r) (by decide : 0 < 2 ^ 52)
  have hg := Nat.mod_lt (rg y) (by decide : 0 < 2 ^ 52)
  generalize rg r / 2 ^ 52 = E at *
  generalize rg r % 2 ^ 52 = f at *
  generalize rg y / 2 ^ 52 = D at *
  generalize rg y % 2 ^ 52 = g at *
  have key : n.natAbs * 2 ^ k * K ≤ m.natAbs * K := by
    rw [← a5, Nat.mul_assoc, Nat.mul_comm (2 ^ k), ← Nat.mul_assoc, ← b5, Nat.mul_assoc, ← Nat.pow_add]
    split at hk
    · have e : E - 1 = (D - 1 + k) + 1 := by clear a5 b5; omega
      have e' : 2 ^ (D - 1 + k + 1) = 2 * 2 ^ (D - 1 + k) := by rw [Nat.pow_succ, Nat.mul_comm]
      rw [e, e', ← Nat.mul_assoc]
      exact Nat.mul_le_mul_right _ (by clear a5 b5; omega)
    · have e : E - 1 = D - 1 + k := by clear a5 b5; omega
      rw [e]
      exact Nat.mul_le_mul_right _ (by clear a5 b5; omega)
  have h2 := Nat.le_of_mul_le_mul_right key hK
  clear key a5 b5
  have h3 : ((n.natAbs * 2 ^ k : Nat) : Int) ≤ (m.natAbs : Int) := by exact_mod_cast h2
  rw [Int.natCast_mul, Int.natCast_pow] at h3
  have e1 : (n.natAbs : Int) = n := by omega
  have e2 : (m.natAbs : Int) = m := by omega
  rw [e1, e2] at h3
  exact h3

/-- .. and it is no less than nought. -/
theorem step_nonneg {r y : Nat} {m n : Int} (hr : Is r m) (hy : Is y n) (hm : m < 2 ^ 53) (hn : 0 < n) (hmn : n ≤ m) :
    0 ≤ (if rg r % 2 ^ 52 < rg y % 2 ^ 52 then ((rg r / 2 ^ 52 : Nat) : Int) - 1 else ((rg r / 2 ^ 52 : Nat) : Int)) - ((rg y / 2 ^ 52 : Nat) : Int) := by
  obtain ⟨_, _, a3, a4, a5⟩ := is_pos hr (by omega) hm
  obtain ⟨_, _, b3, b4, b5⟩ := is_pos hy hn (by omega)
  have hK := K_pos
  have hf := Nat.mod_lt (rg r) (by decide : 0 < 2 ^ 52)
  have hg := Nat.mod_lt (rg y) (by decide : 0 < 2 ^ 52)
  generalize rg r / 2 ^ 52 = E at *
  generalize rg r % 2 ^ 52 = f at *
  generalize rg y / 2 ^ 52 = D at *
  generalize rg y % 2 ^ 52 = g at *
  have hle : (2 ^ 52 + g) * 2 ^ (D - 1) ≤ (2 ^ 52 + f) * 2 ^ (E - 1) := by
    rw [a5, b5]; exact Nat.mul_le_mul_right _ (by clear a5 b5; omega)
  clear a5 b5
  rcases Nat.lt_trichotomy E D with hc | hc | hc
  · exfalso
    obtain ⟨t, ht⟩ : ∃ t, D - 1 = (E - 1) + 1 + t := ⟨D - 1 - E, by omega⟩
    have e' : 2 ^ (E - 1 + 1 + t) = 2 ^ (E - 1) * 2 * 2 ^ t := by rw [Nat.pow_add, Nat.pow_succ]
    rw [ht, e'] at hle
    have hp := pow_pos2 (E - 1)
    have hq := pow_pos2 t
    have h3 : (2 ^ 52 + f) * 2 ^ (E - 1) < 2 ^ 53 * 2 ^ (E - 1) := Nat.mul_lt_mul_of_pos_right (by omega) hp
    have h4 : 2 ^ 53 * 2 ^ (E - 1) ≤ (2 ^ 52 + g) * (2 ^ (E - 1) * 2 * 2 ^ t) := by
      have e : (2 ^ 52 + g) * (2 ^ (E - 1) * 2 * 2 ^ t) = ((2 ^ 52 + g) * 2 * 2 ^ t) * 2 ^ (E - 1) := by
        rw [Nat.mul_assoc (2 ^ (E - 1)), Nat.mul_comm (2 ^ (E - 1)), ← Nat.mul_assoc, ← Nat.mul_assoc]
      rw [e]
      refine Nat.mul_le_mul_right _ ?_
      have : (2 ^ 52 + g) * 2 * 1 ≤ (2 ^ 52 + g) * 2 * 2 ^ t := Nat.mul_le_mul_left _ hq
      omega
    omega
  · subst hc
    have := Nat.le_of_mul_le_mul_right hle (pow_pos2 (E - 1))
    rw [if_neg (by omega)]; omega
  · split <;> omega

end Fl
end Go.Proofs.YthdgehdbanhliaaDoor
