/-
  A block that is known whole, and what the walk may read of it.
-/
import Derived.Test.YtbkjbpefbdoenaaRows
import Derived.WalkKit
import Derived.Below
import Derived.Deep.Draws
import Derived.Laws.Rows
import Derived.Laws.OwnMore
import Derived.OwnWalk
import Derived.Laws.AppendOwn
namespace Go.Proofs.Ytbkjbpefbdoenaa
open Go.RowKit

/-- Block 'g' is just the cells 'cs', of element type 't'. -/
def Bk (w : World) (g : Nat) (t : TypeId) (cs : Array Value) : Prop := w.heap[g]? = some (.cells cs t (0, 0))

section
variable {w w1 : World} {g : Nat} {t : TypeId} {cs : Array Value}
theorem Bk.lt (h : Bk w g t cs) : g < w.heap.size := by
  rcases Nat.lt_or_ge g w.heap.size with hl | hg
  · exact hl
  · unfold Bk at h; rw [Array.getElem?_eq_none hg] at h; cases h
theorem Bk.cell (h : Bk w g t cs) (i : Nat) : w.cell? ⟨g, i, none⟩ = cs[i]? := cell_of_row w g i cs t (0, 0) h
theorem Bk.free (h : Bk w g t cs) (i : Nat) : w.frozen? ⟨g, i, none⟩ = false := by
  unfold Bk at h; simp [World.frozen?, h]
theorem Bk.new (w : World) (t : TypeId) (cs : Array Value) : Bk (w.alloc (.cells cs t)) w.heap.size t cs := (MapKept.heap_alloc w _).1
theorem Bk.alloc (h : Bk w g t cs) (o : Obj) : Bk (w.alloc o) g t cs := (Below.heap_alloc w o g h.lt).trans h
theorem Bk.drew (h : Bk w g t cs) : Bk w.drew g t cs := h
theorem Bk.drewN (h : Bk w g t cs) (n : Nat) : Bk (w.drewN n) g t cs := h
theorem Bk.below {B : Nat} (h : Bk w g t cs) (hb : Below B w w1) (hg : g < B) : Bk w1 g t cs := (hb.block g hg).trans h
theorem Bk.on (h : Bk w g t cs) (hb : Below w.heap.size w w1) : Bk w1 g t cs := h.below hb h.lt
theorem Bk.set (h : Bk w g t cs) (i : Nat) (u : Value) : Bk (w.setCell ⟨g, i, none⟩ u) g t (cs.setIfInBounds i u) := by
  unfold Bk at h ⊢
  simp [World.setCell, Array.getElem?_modify, h]
theorem Bk.far (h : Bk w g t cs) {p : Addr} (hp : g ≠ p.block) (u : Value) : Bk (w.setCell p u) g t cs := (Below.heap_setCell w p u g hp).trans h
theorem Bk.setRow (h : Bk w g t cs) (ds : Array Value) : Bk (w.setRow g ds) g t ds := by
  unfold Bk at h ⊢
  simp [World.setRow, Array.getElem?_modify, h]
theorem Bk.setRow_far (h : Bk w g t cs) {g2 : Nat} (hg : g2 ≠ g) (ds : Array Value) : Bk (w.setRow g2 ds) g t cs := by
  unfold Bk at h ⊢
  simp [World.setRow, Array.getElem?_modify, h, hg]
end

theorem below_setRow {B : Nat} {a w : World} (h : Below B a w) {g : Nat} (hg : B ≤ g) (ds : Array Value) : Below B a (w.setRow g ds) :=
  ⟨h.os, h.tape, h.output, by simpa [World.setRow] using h.size, fun i hi => by
    have e : (w.setRow g ds).heap[i]? = w.heap[i]? := by
      simp only [World.setRow, Array.getElem?_modify]
      rw [if_neg (by omega)]
    rw [e]; exact h.block i hi⟩

theorem Bk.new2 (w : World) (o : Obj) (t : TypeId) (cs : Array Value) : Bk ((w.alloc o).alloc (.cells cs t)) (w.heap.size + 1) t cs := by
  have h := Bk.new (w.alloc o) t cs
  rwa [show (w.alloc o).heap.size = w.heap.size + 1 by simp] at h

/-- The four cells of a value's box. -/
theorem Bk.four {w : World} {g : Nat} {t : TypeId} {a b c d : Value} (h : Bk w g t #[a, b, c, d]) : w.cell? ⟨g, 0, none⟩ = some a ∧ w.cell? ⟨g, 1, none⟩ = some b ∧ w.cell? ⟨g, 2, none⟩ = some c ∧ w.cell? ⟨g, 3, none⟩ = some d ∧ (∀ o, w.frozen? ⟨g, o, none⟩ = false) :=
  ⟨h.cell 0, h.cell 1, h.cell 2, h.cell 3, h.free⟩

/-- Two boxes of four cells, one behind the other: both arguments of a call, each with the block that holds it. -/
def Two (w : World) (g : Nat) (t : TypeId) (A B : Array Value) : Prop := Bk w g t A ∧ Bk w (g + 1) t B
theorem Two.on {w w1 : World} {g : Nat} {t : TypeId} {A B : Array Value} (h : Two w g t A B) (hb : Below w.heap.size w w1) : Two w1 g t A B := ⟨h.1.on hb, h.2.on hb⟩
theorem Two.drew {w : World} {g : Nat} {t : TypeId} {A B : Array Value} (h : Two w g t A B) : Two w.drew g t A B := h
theorem Two.new (w : World) (t : TypeId) (A B : Array Value) : Two ((w.alloc (.cells A t)).alloc (.cells B t)) w.heap.size t A B := ⟨(Bk.new w t A).alloc _, Bk.new2 w _ t B⟩
theorem Two.setA {w : World} {g : Nat} {t : TypeId} {A B : Array Value} (h : Two w g t A B) (C : Array Value) : Two (w.setRow g C) g t C B := ⟨h.1.setRow C, h.2.setRow_far (by omega) C⟩
theorem Two.setB {w : World} {g : Nat} {t : TypeId} {A B : Array Value} (h : Two w g t A B) (C : Array Value) : Two (w.setRow (g + 1) C) g t A C := ⟨h.1.setRow_far (by omega) C, h.2.setRow C⟩
theorem Two.facts {w : World} {g : Nat} {t : TypeId} {a b c d p q r s : Value} (h : Two w g t #[a, b, c, d] #[p, q, r, s]) :
    w.cell? ⟨g, 0, none⟩ = some a ∧ w.cell? ⟨g, 1, none⟩ = some b ∧ w.cell? ⟨g, 2, none⟩ = some c ∧ w.cell? ⟨g, 3, none⟩ = some d ∧ w.cell? ⟨g + 1, 0, none⟩ = some p ∧ w.cell? ⟨g + 1, 1, none⟩ = some q ∧ w.cell? ⟨g + 1, 2, none⟩ = some r ∧ w.cell? ⟨g + 1, 3, none⟩ = some s ∧ (∀ o, w.frozen? ⟨g, o, none⟩ = false) ∧ (∀ o, w.frozen? ⟨g + 1, o, none⟩ = false) :=
  ⟨h.1.cell 0, h.1.cell 1, h.1.cell 2, h.1.cell 3, h.2.cell 0, h.2.cell 1, h.2.cell 2, h.2.cell 3, h.1.free, h.2.free⟩

/-- A value stored into the first box, cell by cell; into the second. -/
theorem Two.storeA {w : World} {g : Nat} {t : TypeId} {a b c d : Value} {B : Array Value} (h : Two w g t #[a, b, c, d] B) (p q r s : Value) :
    Two ((((w.setCell ⟨g, 0, none⟩ p).setCell ⟨g, 1, none⟩ q).setCell ⟨g, 2, none⟩ r).setCell ⟨g, 3, none⟩ s) g t #[p, q, r, s] B := by
  refine ⟨?_, ?_⟩
  · exact (((h.1.set 0 p).set 1 q).set 2 r).set 3 s
  · have hne : ∀ o : Nat, g + 1 ≠ (⟨g, o, none⟩ : Addr).block := fun o => by simp
    exact (((h.2.far (hne 0) p).far (hne 1) q).far (hne 2) r).far (hne 3) s
theorem Two.storeB {w : World} {g : Nat} {t : TypeId} {a b c d : Value} {A : Array Value} (h : Two w g t A #[a, b, c, d]) (p q r s : Value) :
    Two ((((w.setCell ⟨g + 1, 0, none⟩ p).setCell ⟨g + 1, 1, none⟩ q).setCell ⟨g + 1, 2, none⟩ r).setCell ⟨g + 1, 3, none⟩ s) g t A #[p, q, r, s] := by
  refine ⟨?_, ?_⟩
  · have hne : ∀ o : Nat, g ≠ (⟨g + 1, o, none⟩ : Addr).block := fun o => by simp
    exact (((h.1.far (hne 0) p).far (hne 1) q).far (hne 2) r).far (hne 3) s
  · exact (((h.2.set 0 p).set 1 q).set 2 r).set 3 s
theorem below_four {B : Nat} {a w : World} (h : Below B a w) {g : Nat} (hg : B ≤ g) (p q r s : Value) : Below B a ((((w.setCell ⟨g, 0, none⟩ p).setCell ⟨g, 1, none⟩ q).setCell ⟨g, 2, none⟩ r).setCell ⟨g, 3, none⟩ s) :=
  (((h.setCell hg p).setCell hg q).setCell hg r).setCell hg s

end Go.Proofs.Ytbkjbpefbdoenaa
