/-
  Small facts on texts as lists of bytes.
-/
import Derived.Test.YtkomjmgmancinaaDoorRows
import Derived.WalkKit
import Derived.Lib.SlTrimSet
import Derived.Lib.Strings
namespace Go.Proofs.YtkomjmgmancinaaDoor
open Go.RowKit

/-- The blanks. -/
def blanks : List UInt8 := [9, 10, 13, 32]

/-- Is a byte a blank? -/
def isBl (b : UInt8) : Bool := blanks.contains b

theorem isBl_iff (b : UInt8) : isBl b = true ↔ b.toNat = 9 ∨ b.toNat = 10 ∨ b.toNat = 13 ∨ b.toNat = 32 := by
  unfold isBl blanks
  simp only [List.contains_cons, List.contains_nil, Bool.or_false, Bool.or_eq_true, beq_iff_eq, ← UInt8.toNat_inj]
  rfl

theorem trimS_length (l cs : List UInt8) : (Lib.trimS l cs).length ≤ l.length := by
  unfold Lib.trimS Lib.trimLeftS Lib.trimRightS
  have h1 := (List.dropWhile_sublist (cs.contains ·) (l := ((l.reverse.dropWhile (cs.contains ·)).reverse))).length_le
  have h2 := (List.dropWhile_sublist (cs.contains ·) (l := l.reverse)).length_le
  simp only [List.length_reverse] at h1 h2
  omega

theorem ba_size (r : ByteArray) : r.size = r.data.toList.length := by simp

theorem ba_at (r : ByteArray) (l : List UInt8) (h : r.data.toList = l) (k : Nat) (hk : k < r.size) (hk2 : k < l.length) : r[k] = l[k] := by
  subst h
  rfl

end Go.Proofs.YtkomjmgmancinaaDoor
