/-
  What the laid variables give the walks: the library's table of powers of ten.
-/
import Derived.Test.YtkomjmgmancinaaDoorDoor
import Derived.Test.YtkomjmgmancinaaDoorTextWalk
import Derived.Lib.LaidTab
import Derived.Stop.LaidErr
namespace Go.Proofs.YtkomjmgmancinaaDoor
open Go.ChangeShapes Go.WideShapes Go.ChangeAt Go.RowKit

theorem tabN_of {W : World} (h : laidMetH Tryd.prog Rows.lexNamesRow.laid W) : Tab W := by
  rw [MakeChecks.laidMetH_plain _ _ _ (by kernel_rfl)] at h
  have h1 := laidMet.tail h
  have h2 := laidMet.tail h1
  exact Lib.tabIs_of_head (k := .u64) (zs := Lib.pow10Tab) (show Tryd.prog.globalNamed "internal/strconv.uint64pow10" = some 2 by kernel_rfl) (show (Tryd.prog.globals[2]?).map (·.type) = some 120 by kernel_rfl) Tryd.underlying120 Tryd.underlying102 (by kernel_rfl) (by kernel_rfl) h2
theorem tabB_of {W : World} (h : laidMetH Tryd.prog Rows.lexBackRow.laid W) : Tab W := by
  rw [MakeChecks.laidMetH_plain _ _ _ (by kernel_rfl)] at h
  have h1 := laidMet.tail h
  have h2 := laidMet.tail h1
  exact Lib.tabIs_of_head (k := .u64) (zs := Lib.pow10Tab) (show Tryd.prog.globalNamed "internal/strconv.uint64pow10" = some 2 by kernel_rfl) (show (Tryd.prog.globals[2]?).map (·.type) = some 120 by kernel_rfl) Tryd.underlying120 Tryd.underlying102 (by kernel_rfl) (by kernel_rfl) h2
theorem tabS_of {W : World} (h : laidMetH Tryd.prog Rows.lexSpacesRow.laid W) : Tab W := by
  rw [MakeChecks.laidMetH_plain _ _ _ (by kernel_rfl)] at h
  have h1 := laidMet.tail h
  have h2 := laidMet.tail h1
  exact Lib.tabIs_of_head (k := .u64) (zs := Lib.pow10Tab) (show Tryd.prog.globalNamed "internal/strconv.uint64pow10" = some 2 by kernel_rfl) (show (Tryd.prog.globals[2]?).map (·.type) = some 120 by kernel_rfl) Tryd.underlying120 Tryd.underlying102 (by kernel_rfl) (by kernel_rfl) h2
theorem tabT_of {W : World} (h : laidMetH Tryd.prog Rows.lexTokensRow.laid W) : Tab W := by
  rw [MakeChecks.laidMetH_plain _ _ _ (by kernel_rfl)] at h
  have h1 := laidMet.tail h
  have h2 := laidMet.tail h1
  exact Lib.tabIs_of_head (k := .u64) (zs := Lib.pow10Tab) (show Tryd.prog.globalNamed "internal/strconv.uint64pow10" = some 2 by kernel_rfl) (show (Tryd.prog.globals[2]?).map (·.type) = some 120 by kernel_rfl) Tryd.underlying120 Tryd.underlying102 (by kernel_rfl) (by kernel_rfl) h2

end Go.Proofs.YtkomjmgmancinaaDoor
