/-
  Slices of tokens that can be read: a literal.
-/
import Derived.Test.YtkomjmgmancinaaDoorLexGo
namespace Go.Proofs.YtkomjmgmancinaaDoor
open Go.RowKit

theorem cellsI_get (l : List TI) (i f : Nat) (hi : i < l.length) (hf : f < 4) : (l.flatMap TI.cells)[i * 4 + f]? = l[i].cells[f]? := by
  induction l generalizing i with
  | nil => simp at hi
  | cons a l ih =>
    rw [List.flatMap_cons]
    match i with
    | 0 => rw [List.getElem?_append_left (by simp [TI.cells]; omega)]; simp
    | i + 1 =>
      rw [List.getElem?_append_right (by simp [TI.cells]; omega), show (i + 1) * 4 + f - a.cells.length = i * 4 + f by simp [TI.cells]; omega]
      simpa using ih i (by simpa using hi)
theorem range_of {l : List TI} {w : World} {g o : Nat} (h : ∀ j v, (l.flatMap TI.cells)[j]? = some v → w.cell? ⟨g, o + j, none⟩ = some v) (i : Nat) (hi : i < l.length) : w.rangeAt g (o + i * 4) l[i].cells := by
  intro j v hj
  have hj4 : j < 4 := by
    have := (List.getElem?_eq_some_iff.1 hj).1
    simpa [TI.cells] using this
  rw [Nat.add_assoc]
  exact h _ _ (by rw [cellsI_get l i j hi hj4]; exact hj)
theorem rdT_new (ts : List TI) (w : World) (cs : Array Value) (hcs : cs.toList = ts.flatMap TI.cells) (t : TypeId) (hl : ts.length ≤ maxLen) (n : Nat) (hn : n = ts.length) : RdT ts (.slice (some ⟨w.heap.size, 0, none⟩) n n) (w.alloc (.cells cs t)) := by
  subst hn
  refine ⟨_, _, rfl, Nat.le_refl _, hl, fun _ => ⟨_, _, rfl, by simp, ?_⟩⟩
  refine range_of fun j v hj => ?_
  rw [Nat.zero_add, cell_of_row _ _ _ _ _ (0, 0) (alloc_at _ _)]
  rw [← hcs] at hj
  simpa using hj
end Go.Proofs.YtkomjmgmancinaaDoor
