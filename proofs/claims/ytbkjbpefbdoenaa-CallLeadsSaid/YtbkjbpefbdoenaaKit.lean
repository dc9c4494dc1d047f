/-
  Small laws that the walks of this seat want beside the kit's: storing a float; comparing floats that are no numbers; one over a nought.
-/
import Derived.Test.YtbkjbpefbdoenaaRows
import Derived.Test.YtbkjbpefbdoenaaFloat
import Derived.WalkKit
import Derived.WalkSpells
import Derived.WalkLawsBesides
import Derived.Deep.QuietTactic
import Derived.BigQuiet
import Derived.Deep.RegionHeld3
namespace Go.Proofs.Ytbkjbpefbdoenaa
open Go.RowKit

/-- A fact kept from the walk. -/
theorem hid {p : Prop} (h : p) : Hid p := h

@[go_sem] theorem run_store_float (P : Program) (w : World) (a : Addr) (m : Mode) (k : FloatKind) (n : Nat) : (store a (.float k n) m).run P w = stored P w a (.float k n) m := run_store P w a _ m rfl

theorem ordN {a : Nat} (h : Fl.isNaN a = true) (b : Nat) : FloatKind.f64.format.order a b = none := Fl.order_nan_left h
theorem ordN' {b : Nat} (h : Fl.isNaN b = true) (a : Nat) : FloatKind.f64.format.order a b = none := Fl.order_nan_right h
theorem ordE {a : Nat} (h : Fl.isNaN a = false) : FloatKind.f64.format.order a a = some .eq := by
  have := Fl.order_self a; rw [h] at this; exact this
theorem run_div_1_0 {P : Program} (b : Nat) (h : Fl.isZ b = true) (t : TypeId) (w : World) :
    (binOp .quo t (.float .f64 4607182418800017408) (.float .f64 b)).run P w = .ok (.float .f64 (Ieee.double.word (Fl.sg b) Fl.top)) w :=
  run_float_arith w .quo t .f64 _ _ _ (Fl.div_1_0 b h)

/-- Behind a callee that made memory alone: old cells and marks read as before. -/
theorem bcell {W w1 : World} (hb : Below W.heap.size W w1) : (∀ b o, b < W.heap.size → w1.cell? ⟨b, o, none⟩ = W.cell? ⟨b, o, none⟩) ∧ (∀ b o, b < W.heap.size → w1.frozen? ⟨b, o, none⟩ = W.frozen? ⟨b, o, none⟩) :=
  ⟨fun b o h => hb.cell (p := ⟨b, o, none⟩) h, fun b o h => hb.frozen (p := ⟨b, o, none⟩) h⟩

theorem isNaN_cut (x y t : Nat) : Fl.isNaN (Question.cut (.nanBits .f64 x y) t) = true := by
  have h : Question.cut (.nanBits .f64 x y) t = (t % 2) * 2 ^ 63 + 0x7ff0000000000000 + 1 + (t / 2) % (2 ^ 52 - 1) := rfl
  rw [h]
  have ht : Fl.top = 2047 * 2 ^ 52 := rfl
  unfold Fl.isNaN Fl.rg
  rw [decide_eq_true_eq]
  have h1 : t % 2 = 0 ∨ t % 2 = 1 := by omega
  have h2 : t / 2 % (2 ^ 52 - 1) < 2 ^ 52 - 1 := Nat.mod_lt _ (by decide)
  generalize t / 2 % (2 ^ 52 - 1) = q at *
  rcases h1 with h1 | h1 <;> rw [h1] <;> omega

/-- An operation on floats that has no answer: some word that is no number; one draw. -/
theorem run_float_nan {P : Program} (op : BinOp) (t : TypeId) (x y : Nat) (hop : op = .add ∨ op = .sub ∨ op = .mul ∨ op = .quo) (h : floatBits op .f64 x y = none) (w : World) :
    ∃ r, Fl.isNaN r = true ∧ (binOp op t (.float .f64 x) (.float .f64 y)).run P w = .ok (.float .f64 r) w.drew := by
  refine ⟨Question.cut (.nanBits .f64 x y) (w.tape w.drawn (.nanBits .f64 x y)), isNaN_cut _ _ _, ?_⟩
  unfold floatBits at h
  rcases hop with rfl | rfl | rfl | rfl
  all_goals
    simp only at h
    simp [binOp, Op.floatArith, h, choose, Sem.run, Question.forced]

theorem div_0_0 : floatBits .quo .f64 0 0 = none := by decide

theorem run_div_0_0 {P : Program} (t : TypeId) (w : World) : ∃ r, Fl.isNaN r = true ∧ (binOp .quo t (.float .f64 0) (.float .f64 0)).run P w = .ok (.float .f64 r) w.drew :=
  run_float_nan .quo t 0 0 (by simp) div_0_0 w

end Go.Proofs.Ytbkjbpefbdoenaa
