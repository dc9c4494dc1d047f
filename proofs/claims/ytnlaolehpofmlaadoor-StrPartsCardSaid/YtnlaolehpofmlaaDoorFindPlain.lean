/-
  Plain laws on finding a text in another one, and on the lesser of two texts.
-/
import Derived.Test.YtnlaolehpofmlaaDoorBytes
import Derived.Lib.IndexMore
import Derived.Lib.IndexLaws
import Derived.Laws.Strings
namespace Go.Proofs.YtnlaolehpofmlaaDoor
open Go.RowKit

/-- A place, not below nought and not behind the end. -/
def clampR (n : Nat) (i : Int) : Nat := if i < 0 then 0 else if (n : Int) < i then n else i.toNat
theorem clampR_le (n : Nat) (i : Int) : clampR n i ≤ n := by unfold clampR; split; omega; split <;> omega
/-- Where a text is found, from a place on. -/
def findAt (s t : ByteArray) (f : Nat) : Int := if 0 ≤ Lib.index (s.data.toList.drop f) t.data.toList then (f : Int) + Lib.index (s.data.toList.drop f) t.data.toList else -1
def findR (s t : ByteArray) (i : Int) : Int := findAt s t (clampR s.size i)

theorem extract_bytes (s : ByteArray) (a b : Nat) : (s.extract a b).toList = (s.data.toList.drop a).take (b - a) := by
  rw [ByteArray.toList_eq]; exact Lib.extract_data s a b

theorem occ_eq (s t : ByteArray) (f d : Nat) (_h : f + d + t.size ≤ s.size) : ((s.extract (f + d) (f + d + t.size)).toList == t.toList) = Lib.occAt (s.data.toList.drop f) t.data.toList d := by
  rw [extract_bytes, ByteArray.toList_eq t]
  have ht : t.size = t.data.toList.length := ba_size t
  unfold Lib.occAt
  rw [List.drop_drop, Bool.eq_iff_iff, beq_iff_eq, List.isPrefixOf_iff_prefix, List.prefix_iff_eq_take, show f + d + t.size - (f + d) = t.data.toList.length by omega]
  exact eq_comm

theorem find_hit (s t : ByteArray) (f d : Nat) (hd : f + d ≤ s.size) (h : Lib.NoOcc (s.data.toList.drop f) t.data.toList d) (ho : Lib.occAt (s.data.toList.drop f) t.data.toList d = true) : findAt s t f = ((f + d : Nat) : Int) := by
  unfold findAt
  rw [Lib.index_hit h (by rw [List.length_drop, ← ba_size]; omega) ho, if_pos (by omega)]
  omega
theorem find_none (s t : ByteArray) (f d : Nat) (hf : f ≤ s.size) (hd : s.size < f + d + t.size) (h : Lib.NoOcc (s.data.toList.drop f) t.data.toList d) : findAt s t f = -1 := by
  have hl : (s.data.toList.drop f).length = s.size - f := by rw [List.length_drop, ← ba_size]
  have ht := ba_size t
  have hi : Lib.index (s.data.toList.drop f) t.data.toList = -1 := by
    by_cases h0 : t.data.toList = []
    · exfalso
      have ht0 : t.size = 0 := by rw [ht, h0]; rfl
      have := h 0 (by omega)
      rw [h0] at this; simp [Lib.occAt] at this
    · exact Lib.index_past h0 h (by rw [hl]; omega)
  unfold findAt
  rw [hi, if_neg (by decide)]
theorem noOcc_step {l t : List UInt8} {d : Nat} (h : Lib.NoOcc l t d) (ho : Lib.occAt l t d = false) : Lib.NoOcc l t (d + 1) := by
  intro j hj
  by_cases hc : j < d
  · exact h j hc
  · obtain rfl : j = d := by omega
    exact ho

/-! ### the lesser -/

theorem less_drop (a b : List UInt8) (i : Nat) (ha : i < a.length) (hb : i < b.length) : Op.bytesLess (a.drop i) (b.drop i) = (a[i] < b[i] || (a[i] == b[i] && Op.bytesLess (a.drop (i + 1)) (b.drop (i + 1)))) := by
  rw [List.drop_eq_getElem_cons ha, List.drop_eq_getElem_cons hb]; rfl
theorem less_end (a b : List UInt8) (i : Nat) (ha : i ≤ a.length) (hb : i ≤ b.length) (h : a.length ≤ i ∨ b.length ≤ i) : Op.bytesLess (a.drop i) (b.drop i) = decide (a.length < b.length) := by
  by_cases h2 : b.length ≤ i
  · rw [List.drop_eq_nil_of_le h2, decide_eq_false (by omega)]
    cases a.drop i <;> rfl
  · rw [List.drop_eq_nil_of_le (show a.length ≤ i by omega), decide_eq_true (by omega), List.drop_eq_getElem_cons (show i < b.length by omega)]; rfl

end Go.Proofs.YtnlaolehpofmlaaDoor
