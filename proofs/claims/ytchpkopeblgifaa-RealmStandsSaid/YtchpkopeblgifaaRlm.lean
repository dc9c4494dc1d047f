/-
  The first objects as a heap: it may be.
-/
import Derived.Test.YtchpkopeblgifaaRNamesWalk
import Derived.Test.YtchpkopeblgifaaHWhole
namespace Go.Proofs.Ytchpkopeblgifaa
open Go.RowKit

def ojR (n : Nat) (v : Value) : OJ := ⟨oK n, ⟨pK n, 0, ⟨#[]⟩, pR n⟩, true, v, ⟨0, 0, ⟨#[]⟩, 0⟩, ⟨0, 0, ⟨#[]⟩, 0⟩, ⟨#[]⟩, kd n != 6, kd n == 8⟩
theorem ojR_cs (n : Nat) (v : Value) : (ojR n v).cs.toList = obC n v := rfl
/-- The first objects. -/
def rlm (vs : Nat → Value) : HI := (List.range 72).map fun n => (ojR n (vs n), (pl n).map toPI)
theorem rlm_length (vs : Nat → Value) : (rlm vs).length = 72 := by simp [rlm]
theorem rlm_at (vs : Nat → Value) (n : Nat) (hn : n < (rlm vs).length) : (rlm vs)[n]'hn = (ojR n (vs n), (pl n).map toPI) := by simp [rlm]
theorem lp_rlm (vs : Nat → Value) : lpB (rlm vs) = false := by kernel_rfl
theorem all_rlm (vs : Nat → Value) : allO (rlm vs) 72 = true := by kernel_rfl
end Go.Proofs.Ytchpkopeblgifaa
