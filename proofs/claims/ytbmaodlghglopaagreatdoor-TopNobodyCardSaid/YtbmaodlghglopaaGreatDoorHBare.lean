/-
  What is said of a heap does not hang on where its properties lie.
-/
import Derived.Test.YtbmaodlghglopaaGreatDoorHTwin
namespace Go.Proofs.YtbmaodlghglopaaGreatDoor
open Go.RowKit

theorem Bk.new3 (w : World) (o p : Obj) (t : TypeId) (cs : Array Value) : Bk (((w.alloc o).alloc p).alloc (.cells cs t)) (w.heap.size + 1 + 1) t cs := by
  have h := Bk.new2 (w.alloc o) p t cs
  rwa [show (w.alloc o).heap.size = w.heap.size + 1 by simp] at h
theorem Bk.new4 (w : World) (o p q : Obj) (t : TypeId) (cs : Array Value) : Bk ((((w.alloc o).alloc p).alloc q).alloc (.cells cs t)) (w.heap.size + 1 + 1 + 1) t cs := by
  have h := Bk.new3 (w.alloc o) p q t cs
  rwa [show (w.alloc o).heap.size = w.heap.size + 1 by simp] at h
theorem set_grownH (w : World) (p : Addr) (u : Value) : w.grownBy (w.setCell p u) (some p.block) :=
  ⟨rfl, rfl, rfl, by simp [World.setCell], fun k _ hn => Below.heap_setCell w p u k (by rintro rfl; exact hn rfl)⟩
theorem bareE_two {e e' : OJ × List PI} (h : bareE e' = bareE e) : e'.2 = e.2 ∧ e'.1 = { e.1 with props := e'.1.props } := by
  obtain ⟨x, l⟩ := e
  obtain ⟨x', l'⟩ := e'
  have h1 := congrArg Prod.fst h
  have h2 := congrArg Prod.snd h
  refine ⟨h2, ?_⟩
  obtain ⟨a, b, c, d, e, f, g, i, j⟩ := x
  obtain ⟨a', b', c', d', e', f', g', i', j'⟩ := x'
  simp only [bareE, OJ.mk.injEq] at h1
  obtain ⟨rfl, rfl, rfl, _, rfl, rfl, rfl, rfl, rfl⟩ := h1
  rfl
theorem mem_bare {h h' : HI} (e : bareH h' = bareH h) {x : OJ × List PI} (hx : x ∈ h') : ∃ y ∈ h, bareE x = bareE y := by
  have : bareE x ∈ bareH h' := List.mem_map.2 ⟨x, hx, rfl⟩
  rw [e] at this
  obtain ⟨y, hy, he⟩ := List.mem_map.1 this
  exact ⟨y, hy, he.symm⟩
theorem HOk.same {h h' : HI} (e : bareH h' = bareH h) (hok : HOk h) : HOk h' := fun x hx => by
  obtain ⟨y, hy, he⟩ := mem_bare e hx
  obtain ⟨h1, h2⟩ := bareE_two he
  have := hok y hy
  rw [h1, h2]
  exact this
theorem HKeys.same {h h' : HI} (e : bareH h' = bareH h) (hk : HKeys h) : HKeys h' := fun x hx => by
  obtain ⟨y, hy, he⟩ := mem_bare e hx
  rw [(bareE_two he).1]
  exact hk y hy
theorem HOk.push {h : HI} {x : OJ} {l : List PI} (hok : HOk h) (hx : x.ok) (hl : ∀ q ∈ l, q.d.ok) : HOk (h ++ [(x, l)]) := fun e he => by
  rcases List.mem_append.1 he with h1 | h1
  · exact hok e h1
  · obtain rfl : e = (x, l) := by simpa using h1
    exact ⟨hx, hl⟩
theorem HKeys.push {h : HI} {x : OJ} {l : List PI} (hk : HKeys h) (hl : ∀ q ∈ l, q.k.s.size ≤ maxLen) : HKeys (h ++ [(x, l)]) := fun e he => by
  rcases List.mem_append.1 he with h1 | h1
  · exact hk e h1
  · obtain rfl : e = (x, l) := by simpa using h1
    exact hl
/-- No object of a heap that may be has many properties. -/
theorem objB_len {h : HI} {n : Nat} {e : OJ × List PI} (ho : objB h n e = true) : e.2.length ≤ 1024 := by
  unfold objB at ho
  split at ho
  · unfold prxB badX at ho
    by_cases h0 : 0 < e.2.length
    · rw [decide_eq_true h0] at ho; simp at ho
    · omega
  · unfold plainB bad7 at ho
    cases ht : (tabE e.2 == 0)
    · rw [ht] at ho; simp at ho
    · have := eq_of_beq ht
      unfold tabE at this
      split at this
      · cases this
      · omega
theorem allO_len {h : HI} (ha : allO h h.length = true) : ∀ e ∈ h, e.2.length ≤ 1024 := fun e he => by
  obtain ⟨i, hi, rfl⟩ := List.mem_iff_getElem.1 he
  exact objB_len (allO_at ha hi hi)
/-- A heap that a call has made. -/
structure FreshH (B : Nat) (h : HI) (hv : Value) (w : World) : Prop where
  own : w.ownsRow B 42 18 hv h.length (flatH h)
  props : ∀ e ∈ h, RdY 0 e.2 e.1.props w
theorem own_onH {w w1 : World} {b : Nat} {e : TypeId} {sz : Nat} {v : Value} {n : Nat} {xs : List Value} (h : w.ownsRow b e sz v n xs) (hb : Below w.heap.size w w1) : w1.ownsRow b e sz v n xs :=
  h.kept (row := none) ⟨hb.os, hb.tape, hb.output, hb.size, fun k hk _ => hb.block k hk⟩ (by cases v.ownBlock <;> simp)
theorem FreshH.on {B : Nat} {h : HI} {hv : Value} {w w1 : World} (f : FreshH B h hv w) (hb : Below w.heap.size w w1) : FreshH B h hv w1 := ⟨own_onH f.own hb, fun e he => (f.props e he).on hb⟩
theorem FreshH.low {B B' : Nat} {h : HI} {hv : Value} {w : World} (f : FreshH B h hv w) (hb : B' ≤ B) : FreshH B' h hv w := ⟨own_baseH f.own hb, f.props⟩
theorem FreshH.rd {B : Nat} {h : HI} {hv : Value} {w : World} (f : FreshH B h hv w) : RdH h hv w := by
  refine ⟨?_, fun e he => (f.props e he).1⟩
  rcases f.own.2 with ⟨rfl, h0⟩ | ⟨g, cap, cur, rfl, hb, hg, hc, hm, hs, ht⟩
  · exact ⟨none, 0, by rw [h0], by omega, Nat.zero_le _, fun hh => absurd hh (by omega)⟩
  · refine ⟨_, cap, rfl, hc, hm, fun h0 => ⟨g, 0, rfl, (Array.getElem?_eq_some_iff.1 hg).1, fun i hi j u hu => ?_⟩⟩
    have hj : j < 18 := (List.getElem?_eq_some_iff.1 hu).1
    have := World.ownsRow.cells f.own (g := g) rfl (i * 18 + j) u (by rw [flatH, flat_at objF_len h i j hi hj]; exact hu)
    rw [Addr.add_mid] at this
    rw [Nat.zero_add]
    simpa using this
theorem TwinH.own {B i : Nat} {h h' : HI} {g : Nat} {w : World} (t : TwinH B i h h' g w) (hm : h.length ≤ 9000) : w.ownsRow B 42 18 (.slice (some ⟨g, 0, none⟩) h.length h.length) h.length (flatH h') := by
  have hl := bareH_length t.bare
  exact ⟨by rw [flatH_len, hl], Or.inr ⟨g, h.length, _, rfl, t.low, t.blk, Nat.le_refl _, by unfold maxLen; omega, by rw [List.size_toArray, flatH_len, hl], by rw [List.take_of_length_le (by show (flatH h').length ≤ _; rw [flatH_len, hl]; exact Nat.le_refl _)]⟩⟩
end Go.Proofs.YtbmaodlghglopaaGreatDoor
