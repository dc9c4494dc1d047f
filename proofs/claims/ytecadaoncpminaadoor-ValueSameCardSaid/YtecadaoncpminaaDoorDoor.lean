/-
  What the listed variables give the walks: the library's table of powers of ten.
-/
import Derived.Test.YtecadaoncpminaaDoorTextWalk
import Derived.Test.YtecadaoncpminaaDoorTie
import Derived.Test.YtecadaoncpminaaDoorCards
import Derived.ProofKit
import Derived.OpenShut
import Derived.LaidMore
import Derived.Lay
import Derived.SevenTiedAt
import Derived.Stop.Joined
import Derived.Lib.LaidTab
import Derived.Stop.LaidErr
namespace Go.Proofs.YtecadaoncpminaaDoor
open Go.ChangeShapes Go.WideShapes Go.ChangeAt Go.RowKit

theorem own_door : ownKnob Tryd.prog.godebug = none := by kernel_rfl
theorem laidOut_door : laidOutB Tryd.prog = true := by kernel_rfl

/-- The listed variables. -/
def laidAll : List (String × DataW Unit) := Rows.valueSameRow.laid

theorem facts_of {W : World} (h : laidMetH Tryd.prog laidAll W) : Tab W := by
  rw [MakeChecks.laidMetH_plain _ _ _ (by kernel_rfl)] at h
  have h1 := laidMet.tail h
  have h2 := laidMet.tail h1
  exact Lib.tabIs_of_head (k := .u64) (zs := Lib.pow10Tab) (show Tryd.prog.globalNamed "internal/strconv.uint64pow10" = some 1 by kernel_rfl) (show (Tryd.prog.globals[1]?).map (·.type) = some 92 by kernel_rfl) Tryd.underlying92 Tryd.underlying72 (by kernel_rfl) (by kernel_rfl) h2

end Go.Proofs.YtecadaoncpminaaDoor
