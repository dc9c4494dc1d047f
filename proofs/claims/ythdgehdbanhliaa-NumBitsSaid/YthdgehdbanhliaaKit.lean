/-
  Small laws that the walks of this seat want beside the kit's: storing a float; comparing floats that are no numbers; one over a nought.
-/
import Derived.Test.YthdgehdbanhliaaRows
import Derived.Test.YthdgehdbanhliaaFloat
import Derived.WalkKit
import Derived.WalkSpells
import Derived.WalkLawsBesides
import Derived.Deep.QuietTactic
import Derived.BigQuiet
import Derived.Deep.RegionHeld3
namespace Go.Proofs.Ythdgehdbanhliaa
open Go.RowKit

/-- A fact kept from the walk. -/
theorem hid {p : Prop} (h : p) : Hid p := h

@[go_sem] theorem run_store_float (P : Program) (w : World) (a : Addr) (m : Mode) (k : FloatKind) (n : Nat) : (store a (.float k n) m).run P w = stored P w a (.float k n) m := run_store P w a _ m rfl

theorem ordN {a : Nat} (h : Fl.isNaN a = true) (b : Nat) : FloatKind.f64.format.order a b = none := Fl.order_nan_left h
theorem ordN' {b : Nat} (h : Fl.isNaN b = true) (a : Nat) : FloatKind.f64.format.order a b = none := Fl.order_nan_right h
theorem ordE {a : Nat} (h : Fl.isNaN a = false) : FloatKind.f64.format.order a a = some .eq := by
  have := Fl.order_self a; rw [h] at this; exact this
theorem run_div_1_0 {P : Program} (b : Nat) (h : Fl.isZ b = true) (t : TypeId) (w : World) :
    (binOp .quo t (.float .f64 4607182418800017408) (.float .f64 b)).run P w = .ok (.float .f64 (Ieee.double.word (Fl.sg b) Fl.top)) w :=
  run_float_arith w .quo t .f64 _ _ _ (Fl.div_1_0 b h)

/-- Behind a callee that made memory alone: old cells and marks read as before. -/
theorem bcell {W w1 : World} (hb : Below W.heap.size W w1) : (∀ b o, b < W.heap.size → w1.cell? ⟨b, o, none⟩ = W.cell? ⟨b, o, none⟩) ∧ (∀ b o, b < W.heap.size → w1.frozen? ⟨b, o, none⟩ = W.frozen? ⟨b, o, none⟩) :=
  ⟨fun b o h => hb.cell (p := ⟨b, o, none⟩) h, fun b o h => hb.frozen (p := ⟨b, o, none⟩) h⟩

end Go.Proofs.Ythdgehdbanhliaa
