/-
  The walk of told: a worth and an error beside the document's.
-/
import Derived.Test.YthdgehdbanhliaaDoorSameWalk
namespace Go.Proofs.YthdgehdbanhliaaDoor
open Go.RowKit

theorem told_same (x : Nat) (e : Int) (y : Nat) (h : Fl.same x y = true) (w : World) :
    Calls Tryd.prog 8 #[.float .f64 x, .int .i64 e, .float .f64 y, .int .i64 e] w fun r w' => r = .returned (.bool true) ∧ w = w' := by
  have H := hid h
  clear h
  go_enter Tryd.func8, Tryd.ntmps8
  go_wp2_with (go_at_call 25; refine (same_any _ _ _).mono ?_; rintro e w' ⟨rfl, rfl⟩; rw [H.out])
  go_ret
  exact ⟨rfl, rfl⟩

end Go.Proofs.YthdgehdbanhliaaDoor
