/-
  Small facts on texts as lists of bytes.
-/
import Derived.Test.YtnlaolehpofmlaaDoorRows
import Derived.WalkKit
import Derived.Lib.SlTrimSet
import Derived.Lib.Strings
namespace Go.Proofs.YtnlaolehpofmlaaDoor
open Go.RowKit

/-- The blanks. -/
def blanks : List UInt8 := [9, 10, 13, 32]

theorem trimS_length (l cs : List UInt8) : (Lib.trimS l cs).length ≤ l.length := by
  unfold Lib.trimS Lib.trimLeftS Lib.trimRightS
  have h1 := (List.dropWhile_sublist (cs.contains ·) (l := ((l.reverse.dropWhile (cs.contains ·)).reverse))).length_le
  have h2 := (List.dropWhile_sublist (cs.contains ·) (l := l.reverse)).length_le
  simp only [List.length_reverse] at h1 h2
  omega

theorem ba_size (r : ByteArray) : r.size = r.data.toList.length := by simp

theorem ba_at (r : ByteArray) (l : List UInt8) (h : r.data.toList = l) (k : Nat) (hk : k < r.size) (hk2 : k < l.length) : r[k] = l[k] := by
  subst h
  rfl

end Go.Proofs.YtnlaolehpofmlaaDoor
