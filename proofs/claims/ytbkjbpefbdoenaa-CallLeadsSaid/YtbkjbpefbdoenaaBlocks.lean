/-
  Small laws on blocks that a call has made: a literal array built, stored whole into a new block.
-/
import Derived.Test.YtbkjbpefbdoenaaRows
import Derived.WalkKit
import Derived.Laws.Tables
import Derived.Laws.Rows
namespace Go.Proofs.Ytbkjbpefbdoenaa
open Go.RowKit

theorem hidN {p : Prop} (h : p) : Hid p := h

theorem wpList_build_to {P : Program} {ops : Array Oper} {rest : List Oper} {o : Oper} {a : Act} {w : World} {Q : Exit → Act → World → Prop} (hg : o.guard = none) (t : TypeId) (parts : Array (Nat × Operand)) (ho : o.op = .build t parts)
    (cells : Array Value) (hf : P.built t (parts.map fun (i, x) => (i, a.eval x)).toList = some cells)
    (h : wpList P ops Q rest (a.put o.dst (.agg cells)) w) : wpList P ops Q (o :: rest) a w :=
  wpList_build hg t parts ho (by rw [hf]; rfl) (by rw [hf]; exact h)

theorem alloc_at (w : World) (o : Obj) : (w.alloc o).heap[w.heap.size]? = some o := (MapKept.heap_alloc w o).1

theorem modify_push (hp : Array Obj) (old cs : Array Value) (t : TypeId) (f : Obj → Obj) (hf : f (.cells old t) = .cells cs t) : (hp.push (.cells old t)).modify hp.size f = hp.push (.cells cs t) := by
  apply Array.ext_getElem?
  intro i
  rw [Array.getElem?_modify]
  by_cases hi : hp.size = i
  · subst hi; simp [hf]
  · rw [if_neg hi, Array.getElem?_push, Array.getElem?_push, if_neg (by omega), if_neg (by omega)]

theorem modify_push2 (hp : Array Obj) (o : Obj) (k : Nat) (hk : k < hp.size) (f : Obj → Obj) : (hp.push o).modify k f = (hp.modify k f).push o := by
  apply Array.ext_getElem?
  intro i
  rw [Array.getElem?_modify, Array.getElem?_push, Array.getElem?_push, Array.getElem?_modify, Array.size_modify]
  by_cases hi : k = i
  · subst hi; simp [show k ≠ hp.size by omega]
  · simp [hi]

theorem setRow_alloc (w : World) (old cs : Array Value) (t : TypeId) : (w.alloc (.cells old t)).setRow w.heap.size cs = w.alloc (.cells cs t) := by
  unfold World.setRow World.alloc
  simp only
  congr 1
  exact modify_push _ _ _ _ _ rfl

theorem setRow_alloc2 (w : World) (o : Obj) (k : Nat) (hk : k < w.heap.size) (cs : Array Value) : (w.alloc o).setRow k cs = (w.setRow k cs).alloc o := by
  unfold World.setRow World.alloc
  simp only
  congr 1
  exact modify_push2 _ _ _ hk _

/-- A row stored into the block that has just been made. -/
theorem wpList_store_new {P : Program} {ops : Array Oper} {rest : List Oper} {o : Oper} {a : Act} {w : World} {Q : Exit → Act → World → Prop} (hgd : o.guard = none) (ty : TypeId) (x y : Operand) (ho : o.op = .store ty x y)
    (cells : Array Value) (t : TypeId) (old : Array Value) (hx : a.eval x = .pointer (some ⟨w.heap.size, 0, none⟩)) (hy : a.eval y = .agg cells)
    (hi : (P.info? ty).map (·.size) = some cells.size) (hold : old.size = cells.size) (h1 : cells.all (·.oneCell') = true)
    (h : wpList P ops Q rest (a.put o.dst undef) (w.alloc (.cells cells t))) : wpList P ops Q (o :: rest) a (w.alloc (.cells old t)) :=
  wpList_store_row hgd ty x y ho w.heap.size cells hx hy t old (alloc_at w _) hi hold h1 (by rw [setRow_alloc]; exact h)

/-- The same, another block having been made behind it. -/
theorem wpList_store_new2 {P : Program} {ops : Array Oper} {rest : List Oper} {o : Oper} {a : Act} {w : World} {Q : Exit → Act → World → Prop} (hgd : o.guard = none) (ty : TypeId) (x y : Operand) (ho : o.op = .store ty x y)
    (cells : Array Value) (t : TypeId) (old : Array Value) (o2 : Obj) (hx : a.eval x = .pointer (some ⟨w.heap.size, 0, none⟩)) (hy : a.eval y = .agg cells)
    (hi : (P.info? ty).map (·.size) = some cells.size) (hold : old.size = cells.size) (h1 : cells.all (·.oneCell') = true)
    (h : wpList P ops Q rest (a.put o.dst undef) ((w.alloc (.cells cells t)).alloc o2)) : wpList P ops Q (o :: rest) a ((w.alloc (.cells old t)).alloc o2) :=
  wpList_store_row hgd ty x y ho w.heap.size cells hx hy t old (by rw [← alloc_at w (.cells old t)]; exact Below.heap_alloc _ _ _ (by simp)) hi hold h1 (by rw [setRow_alloc2 _ _ _ (by simp), setRow_alloc]; exact h)

/-- A row stored into the block that has just been made, its number spelt otherwise. -/
theorem wpList_store_at {P : Program} {ops : Array Oper} {rest : List Oper} {o : Oper} {a : Act} {w : World} {Q : Exit → Act → World → Prop} (hgd : o.guard = none) (ty : TypeId) (x y : Operand) (ho : o.op = .store ty x y) (g : Nat) (hg : g = w.heap.size)
    (cells : Array Value) (t : TypeId) (old : Array Value) (hx : a.eval x = .pointer (some ⟨g, 0, none⟩)) (hy : a.eval y = .agg cells)
    (hi : (P.info? ty).map (·.size) = some cells.size) (hold : old.size = cells.size) (h1 : cells.all (·.oneCell') = true)
    (h : wpList P ops Q rest (a.put o.dst undef) (w.alloc (.cells cells t))) : wpList P ops Q (o :: rest) a (w.alloc (.cells old t)) := by
  subst hg
  exact wpList_store_new hgd ty x y ho cells t old hx hy hi hold h1 h

end Go.Proofs.Ytbkjbpefbdoenaa
