/-
  math.NaN.
-/
import Derived.Test.YtkomjmgmancinaaDoorMayWalk
namespace Go.Proofs.YtkomjmgmancinaaDoor
open Go.RowKit

theorem nan_word : Fl.isNaN 9221120237041090561 = true := by decide

theorem mnan_any (w : World) : Calls Tryd.prog 82 #[] w fun e w' => e = .returned (.float .f64 9221120237041090561) ∧ w = w' := by
  have b2 := fun z => run_frombits z
  go_enter Tryd.func82, Tryd.ntmps82
  go_wp2_with fail
  go_ret
  exact ⟨rfl, rfl⟩

end Go.Proofs.YtkomjmgmancinaaDoor
