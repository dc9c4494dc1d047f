/-
  Plain laws on the negation of a float.
-/
import Derived.Test.YthdgehdbanhliaaDoorSumsPlain
namespace Go.Proofs.YthdgehdbanhliaaDoor
namespace Fl
open Go

theorem sg_bit (b : Nat) : sg b = b.testBit 63 := by
  unfold sg
  rw [Nat.testBit_eq_decide_div_mod_eq]
  rw [Bool.eq_iff_iff, beq_iff_eq, decide_eq_true_eq]

def negW (b : Nat) : Nat := b ^^^ 2 ^ 63

theorem rg_neg (b : Nat) : rg (negW b) = rg b := by
  unfold rg negW
  rw [Nat.xor_mod_two_pow, Nat.mod_self, Nat.xor_zero]

theorem sg_neg (b : Nat) : sg (negW b) = !sg b := by
  rw [sg_bit, sg_bit]
  unfold negW
  rw [Nat.testBit_xor, Nat.testBit_two_pow_self]
  simp

theorem fin_neg (b : Nat) : fin (negW b) = fin b := by unfold fin; rw [rg_neg]
theorem isNaN_neg (b : Nat) : isNaN (negW b) = isNaN b := by unfold isNaN; rw [rg_neg]
theorem sc_neg (b : Nat) : sc (negW b) = -sc b := by
  unfold sc
  rw [rg_neg, sg_neg]
  cases sg b <;> simp

theorem is_neg {b : Nat} {n : Int} (h : Is b n) (h0 : n ≠ 0) : Is (negW b) (-n) := by
  refine ⟨by rw [fin_neg]; exact h.1, by rw [sc_neg, h.2.1, Int.neg_mul], fun h => absurd h (by omega)⟩

theorem not_isW_neg0 {b : Nat} (h : Is b 0) : isW (negW b) = false := by
  unfold isW
  have h1 : isZ (negW b) = true := by
    have := (sc_zero_iff b).1 (by rw [h.2.1, Int.zero_mul])
    unfold isZ at *; rw [rg_neg]; exact this
  have h2 : sg (negW b) = true := by rw [sg_neg, h.2.2 rfl]; rfl
  rw [h1, h2]; simp

theorem unary_neg_f64 (b : Nat) : Op.unary .neg (.float .f64 b) = pure (.float .f64 (negW b)) := rfl

theorem run_neg_f64 (P : Program) (b : Nat) (w : World) : (Op.unary .neg (.float .f64 b)).run P w = .ok (.float .f64 (negW b)) w := rfl

end Fl
end Go.Proofs.YthdgehdbanhliaaDoor
