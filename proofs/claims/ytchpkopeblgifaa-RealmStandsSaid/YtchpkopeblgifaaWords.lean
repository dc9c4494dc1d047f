/-
  The words of the reference's lists (plain lists), and how they make the names.
-/
import Derived.Test.YtchpkopeblgifaaRealmNames
namespace Go.Proofs.Ytchpkopeblgifaa
open Go.RowKit

def wordsO : List ByteArray := [⟨#[97, 115, 115, 105, 103, 110]⟩, ⟨#[99, 114, 101, 97, 116, 101]⟩, ⟨#[100, 101, 102, 105, 110, 101, 80, 114, 111, 112, 101, 114, 116, 121]⟩, ⟨#[102, 114, 101, 101, 122, 101]⟩, ⟨#[103, 101, 116, 79, 119, 110, 80, 114, 111, 112, 101, 114, 116, 121, 68, 101, 115, 99, 114, 105, 112, 116, 111, 114]⟩, ⟨#[103, 101, 116, 79, 119, 110, 80, 114, 111, 112, 101, 114, 116, 121, 78, 97, 109, 101, 115]⟩, ⟨#[103, 101, 116, 79, 119, 110, 80, 114, 111, 112, 101, 114, 116, 121, 83, 121, 109, 98, 111, 108, 115]⟩, ⟨#[103, 101, 116, 80, 114, 111, 116, 111, 116, 121, 112, 101, 79, 102]⟩, ⟨#[105, 115]⟩, ⟨#[105, 115, 69, 120, 116, 101, 110, 115, 105, 98, 108, 101]⟩, ⟨#[105, 115, 70, 114, 111, 122, 101, 110]⟩, ⟨#[105, 115, 83, 101, 97, 108, 101, 100]⟩, ⟨#[107, 101, 121, 115]⟩, ⟨#[112, 114, 101, 118, 101, 110, 116, 69, 120, 116, 101, 110, 115, 105, 111, 110, 115]⟩, ⟨#[115, 101, 97, 108]⟩, ⟨#[115, 101, 116, 80, 114, 111, 116, 111, 116, 121, 112, 101, 79, 102]⟩]
def wordsR : List ByteArray := [⟨#[97, 112, 112, 108, 121]⟩, ⟨#[99, 111, 110, 115, 116, 114, 117, 99, 116]⟩, ⟨#[100, 101, 102, 105, 110, 101, 80, 114, 111, 112, 101, 114, 116, 121]⟩, ⟨#[100, 101, 108, 101, 116, 101, 80, 114, 111, 112, 101, 114, 116, 121]⟩, ⟨#[103, 101, 116]⟩, ⟨#[103, 101, 116, 79, 119, 110, 80, 114, 111, 112, 101, 114, 116, 121, 68, 101, 115, 99, 114, 105, 112, 116, 111, 114]⟩, ⟨#[103, 101, 116, 80, 114, 111, 116, 111, 116, 121, 112, 101, 79, 102]⟩, ⟨#[104, 97, 115]⟩, ⟨#[105, 115, 69, 120, 116, 101, 110, 115, 105, 98, 108, 101]⟩, ⟨#[111, 119, 110, 75, 101, 121, 115]⟩, ⟨#[112, 114, 101, 118, 101, 110, 116, 69, 120, 116, 101, 110, 115, 105, 111, 110, 115]⟩, ⟨#[115, 101, 116]⟩, ⟨#[115, 101, 116, 80, 114, 111, 116, 111, 116, 121, 112, 101, 79, 102]⟩]
def wO (k : Nat) : ByteArray := wordsO.getD k ⟨#[]⟩
def wR (k : Nat) : ByteArray := wordsR.getD k ⟨#[]⟩
def cellsO : Array Value := ((List.range 16).map fun i => Value.string (wO i)).toArray
def cellsR : Array Value := ((List.range 13).map fun i => Value.string (wR i)).toArray
def cellsX : Array Value := (nms 53 19).toArray
theorem cellsO_get (i : Nat) (h : i < 16) : cellsO[i]? = some (.string (wO i)) := by simp [cellsO, h]
theorem cellsR_get (i : Nat) (h : i < 13) : cellsR[i]? = some (.string (wR i)) := by simp [cellsR, h]
theorem cellsX_get (i : Nat) (h : i < 19) : cellsX[i]? = some (.string (nm (53 + i))) := by simpa [cellsX] using nms_get 53 19 i h
def preO : ByteArray := ⟨#[79, 98, 106, 101, 99, 116, 46]⟩
def preR : ByteArray := ⟨#[82, 101, 102, 108, 101, 99, 116, 46]⟩
theorem join_o : ((List.range 16).all fun i => decide ((preO ++ wO i).data = (nm (24 + i)).data)) = true := by decide +kernel
theorem join_r : ((List.range 13).all fun i => decide ((preR ++ wR i).data = (nm (40 + i)).data)) = true := by decide +kernel
theorem joinO (i : Nat) (h : i < 16) : preO ++ wO i = nm (24 + i) := by
  have := List.all_eq_true.1 join_o i (by simpa using h)
  exact ByteArray.ext (by simpa using this)
theorem joinR (i : Nat) (h : i < 13) : preR ++ wR i = nm (40 + i) := by
  have := List.all_eq_true.1 join_r i (by simpa using h)
  exact ByteArray.ext (by simpa using this)
theorem size_o : ((List.range 16).all fun i => decide ((wO i).data.size ≤ 100)) = true := by decide +kernel
theorem size_r : ((List.range 13).all fun i => decide ((wR i).data.size ≤ 100)) = true := by decide +kernel
theorem sizeO (i : Nat) (h : i < 16) : (wO i).size ≤ 100 := by
  have := List.all_eq_true.1 size_o i (by simpa using h)
  simpa using this
theorem sizeR (i : Nat) (h : i < 13) : (wR i).size ≤ 100 := by
  have := List.all_eq_true.1 size_r i (by simpa using h)
  simpa using this
theorem apart_all : ((List.range 72).all fun i => (List.range 72).all fun j => i == j || decide ((nm i).data ≠ (nm j).data)) = true := by decide +kernel
/-- No two of the first objects have one name. -/
theorem nm_inj {i j : Nat} (hi : i < 72) (hj : j < 72) (h : nm i = nm j) : i = j := by
  have h1 := List.all_eq_true.1 apart_all i (by simpa using hi)
  have h2 := List.all_eq_true.1 h1 j (by simpa using hj)
  simp only [Bool.or_eq_true, beq_iff_eq, decide_eq_true_eq] at h2
  rcases h2 with h2 | h2
  · exact h2
  · exact absurd (by rw [h]) h2
theorem nms_snoc (n : Nat) : nms 0 (n + 1) = nms 0 n ++ [.string (nm n)] := by
  simp [nms, List.range_succ]
theorem nms_append (a b : Nat) : nms 0 (a + b) = nms 0 a ++ nms a b := by
  simp [nms, List.range_add, Function.comp_def]

end Go.Proofs.Ytchpkopeblgifaa
