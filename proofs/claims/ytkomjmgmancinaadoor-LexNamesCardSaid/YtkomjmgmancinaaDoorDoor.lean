/-
  What the world's shape gives the walks: the library's variable MaxLen holds some number.
-/
import Derived.Test.YtkomjmgmancinaaDoorAmongWalk
import Derived.Test.YtkomjmgmancinaaDoorTie
import Derived.Test.YtkomjmgmancinaaDoorCards
import Derived.Test.YtkomjmgmancinaaDoorShaped
import Derived.ProofKit
import Derived.OpenShut
import Derived.LaidMore
import Derived.Lay
import Derived.SevenTiedAt
import Derived.Stop.Joined
import Derived.Shelf.Vars
namespace Go.Proofs.YtkomjmgmancinaaDoor
open Go.ChangeShapes Go.WideShapes Go.ChangeAt Go.RowKit

theorem own_door : ownKnob Tryd.prog.godebug = none := by kernel_rfl
theorem laidOut_door : laidOutB Tryd.prog = true := by kernel_rfl

theorem facts_of {W : World} (h : W.ShapedOpen Tryd.prog) : Mx W := Tryd.laysM143.s1_3 W h

end Go.Proofs.YtkomjmgmancinaaDoor
