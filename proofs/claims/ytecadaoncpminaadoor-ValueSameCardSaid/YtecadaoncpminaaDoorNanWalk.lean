/-
  math.NaN.
-/
import Derived.Test.YtecadaoncpminaaDoorMayWalk
namespace Go.Proofs.YtecadaoncpminaaDoor
open Go.RowKit

theorem nan_word : Fl.isNaN 9221120237041090561 = true := by decide

theorem mnan_any (w : World) : Calls Tryd.prog 35 #[] w fun e w' => e = .returned (.float .f64 9221120237041090561) ∧ w = w' := by
  have b2 := fun z => run_frombits z
  go_enter Tryd.func35, Tryd.ntmps35
  go_wp2_with fail
  go_ret
  exact ⟨rfl, rfl⟩

end Go.Proofs.YtecadaoncpminaaDoor
