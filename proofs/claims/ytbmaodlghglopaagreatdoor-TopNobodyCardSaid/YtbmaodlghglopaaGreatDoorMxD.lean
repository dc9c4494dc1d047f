/-
  Sameness: the program's Strict and Same, the reference's.
  Structs compared by '==', field by field.
  A block that is known whole, and what the walk may read of it.
  Small laws on blocks that a call has made: a literal array built, stored whole into a new block.
  Descriptors: plain, and as the walks have them.
-/
import Derived.Test.YtbmaodlghglopaaGreatDoorMxC
import Derived.Test.YtbmaodlghglopaaGreatDoorRows
import Derived.WalkKit
import Derived.Laws.StructEq
import Derived.Below
import Derived.Deep.Draws
import Derived.Laws.Rows
import Derived.Laws.OwnMore
import Derived.OwnWalk
import Derived.Laws.AppendOwn
import Derived.Laws.Tables
import Derived.Deep.MidRow
import Derived.Deep.CutRange
import Derived.Deep.CutBlock
import Derived.Deep.QuietTactic
import Derived.BigQuiet
import Derived.Deep.RegionHeld3
namespace Go.Proofs.YtbmaodlghglopaaGreatDoor
open Go.RowKit

/-- === -/
def strictV (k1 : Int) (x1 : Nat) (s1 : ByteArray) (r1 : Int) (k2 : Int) (x2 : Nat) (s2 : ByteArray) (r2 : Int) : Bool :=
  if isObj k1 = true ∧ isObj k2 = true then r1 == r2
  else if k1 ≠ k2 then false
  else if k1 = 0 ∨ k1 = 1 then true
  else if k1 = 2 ∨ k1 = 3 then FloatKind.f64.format.order x1 x2 == some .eq
  else if k1 = 4 then s1.toList == s2.toList
  else if k1 = 5 then r1 == r2
  else false
/-- SameValue. -/
def sameV (k1 : Int) (x1 : Nat) (s1 : ByteArray) (r1 : Int) (k2 : Int) (x2 : Nat) (s2 : ByteArray) (r2 : Int) : Bool :=
  if k1 = 3 ∧ k2 = 3 ∧ Fl.isNaN x1 = true then Fl.isNaN x2 else strictV k1 x1 s1 r1 k2 x2 s2 r2

theorem strict_obj {k1 k2 : Int} (x1 : Nat) (s1 : ByteArray) (r1 : Int) (x2 : Nat) (s2 : ByteArray) (r2 : Int) (h1 : isObj k1 = true) (h2 : isObj k2 = true) : strictV k1 x1 s1 r1 k2 x2 s2 r2 = (r1 == r2) := by
  unfold strictV; rw [if_pos ⟨h1, h2⟩]
theorem strict_ne {k1 k2 : Int} (x1 : Nat) (s1 : ByteArray) (r1 : Int) (x2 : Nat) (s2 : ByteArray) (r2 : Int) (h : ¬ (isObj k1 = true ∧ isObj k2 = true)) (hk : k1 ≠ k2) : strictV k1 x1 s1 r1 k2 x2 s2 r2 = false := by
  unfold strictV; rw [if_neg h, if_pos hk]
theorem strict_eq {k : Int} (x1 : Nat) (s1 : ByteArray) (r1 : Int) (x2 : Nat) (s2 : ByteArray) (r2 : Int) (h : isObj k = false) : strictV k x1 s1 r1 k x2 s2 r2 = if k = 0 ∨ k = 1 then true else if k = 2 ∨ k = 3 then FloatKind.f64.format.order x1 x2 == some .eq else if k = 4 then s1.toList == s2.toList else if k = 5 then r1 == r2 else false := by
  unfold strictV; rw [if_neg (by simp [h]), if_neg (by simp)]
theorem obj_kinds {k : Int} (h0 : 0 ≤ k) (h : isObj k = false) : k = 0 ∨ k = 1 ∨ k = 2 ∨ k = 3 ∨ k = 4 ∨ k = 5 ∨ 8 < k := by
  unfold isObj at h
  rw [Bool.and_eq_false_iff, decide_eq_false_iff_not, decide_eq_false_iff_not] at h
  omega

set_option maxHeartbeats 4000000 in
set_option maxRecDepth 100000 in
theorem strict_any (k1 : Int) (x1 : Nat) (s1 : ByteArray) (r1 : Int) (k2 : Int) (x2 : Nat) (s2 : ByteArray) (r2 : Int) (h0 : 0 ≤ k1) (w : World) :
    Calls Tryz.prog 25 #[val k1 x1 s1 r1, val k2 x2 s2 r2] w fun e w' => e = .returned (.bool (strictV k1 x1 s1 r1 k2 x2 s2 r2)) ∧ Below w.heap.size w w' := by
  by_cases ho : isObj k1 = true ∧ isObj k2 = true
  · rw [strict_obj x1 s1 r1 x2 s2 r2 ho.1 ho.2]
    obtain ⟨h1, h2⟩ := ho
    go_enter Tryz.func25, Tryz.ntmps25
    go_wp2_with (go_at_call 9; refine (isObj_any _ _ _ _ _).mono ?_; rintro e w' ⟨rfl, rfl⟩)
    go_ret
    exact ⟨rfl, (by repeat (first | exact Below.refl _ _ | refine Below.alloc ?_ (by simp; try omega) _))⟩
  by_cases hk : k1 = k2
  · subst hk
    have h1 : isObj k1 = false := by simpa using ho
    rw [strict_eq x1 s1 r1 x2 s2 r2 h1]
    clear ho
    rcases obj_kinds h0 h1 with rfl | rfl | rfl | rfl | rfl | rfl | h8
    · rw [if_pos (by simp)]
      go_enter Tryz.func25, Tryz.ntmps25
      go_wp2_with (go_at_call 9; refine (isObj_any _ _ _ _ _).mono ?_; rintro e w' ⟨rfl, rfl⟩)
      go_ret
      exact ⟨rfl, (by repeat (first | exact Below.refl _ _ | refine Below.alloc ?_ (by simp; try omega) _))⟩
    · rw [if_pos (by simp)]
      go_enter Tryz.func25, Tryz.ntmps25
      go_wp2_with (go_at_call 9; refine (isObj_any _ _ _ _ _).mono ?_; rintro e w' ⟨rfl, rfl⟩)
      go_ret
      exact ⟨rfl, (by repeat (first | exact Below.refl _ _ | refine Below.alloc ?_ (by simp; try omega) _))⟩
    · rw [if_neg (by simp), if_pos (by simp)]
      go_enter Tryz.func25, Tryz.ntmps25
      go_wp2_with (go_at_call 9; refine (isObj_any _ _ _ _ _).mono ?_; rintro e w' ⟨rfl, rfl⟩)
      go_ret
      exact ⟨rfl, (by repeat (first | exact Below.refl _ _ | refine Below.alloc ?_ (by simp; try omega) _))⟩
    · rw [if_neg (by simp), if_pos (by simp)]
      go_enter Tryz.func25, Tryz.ntmps25
      go_wp2_with (go_at_call 9; refine (isObj_any _ _ _ _ _).mono ?_; rintro e w' ⟨rfl, rfl⟩)
      go_ret
      exact ⟨rfl, (by repeat (first | exact Below.refl _ _ | refine Below.alloc ?_ (by simp; try omega) _))⟩
    · rw [if_neg (by simp), if_neg (by simp), if_pos rfl]
      go_enter Tryz.func25, Tryz.ntmps25
      go_wp2_with (go_at_call 9; refine (isObj_any _ _ _ _ _).mono ?_; rintro e w' ⟨rfl, rfl⟩)
      go_ret
      exact ⟨rfl, (by repeat (first | exact Below.refl _ _ | refine Below.alloc ?_ (by simp; try omega) _))⟩
    · rw [if_neg (by simp), if_neg (by simp), if_neg (by simp), if_pos rfl]
      go_enter Tryz.func25, Tryz.ntmps25
      go_wp2_with (go_at_call 9; refine (isObj_any _ _ _ _ _).mono ?_; rintro e w' ⟨rfl, rfl⟩)
      go_ret
      exact ⟨rfl, (by repeat (first | exact Below.refl _ _ | refine Below.alloc ?_ (by simp; try omega) _))⟩
    · rw [if_neg (by omega), if_neg (by omega), if_neg (by omega), if_neg (by omega)]
      have c0 : (k1 == 0) = false := by rw [beq_eq_false_iff_ne]; omega
      have c1 : (k1 == 1) = false := by rw [beq_eq_false_iff_ne]; omega
      have c2 : (k1 == 2) = false := by rw [beq_eq_false_iff_ne]; omega
      have c3 : (k1 == 3) = false := by rw [beq_eq_false_iff_ne]; omega
      have c4 : (k1 == 4) = false := by rw [beq_eq_false_iff_ne]; omega
      have c5 : (k1 == 5) = false := by rw [beq_eq_false_iff_ne]; omega
      go_enter Tryz.func25, Tryz.ntmps25
      go_wp2_with (go_at_call 9; refine (isObj_any _ _ _ _ _).mono ?_; rintro e w' ⟨rfl, rfl⟩)
      go_ret
      exact ⟨rfl, (by repeat (first | exact Below.refl _ _ | refine Below.alloc ?_ (by simp; try omega) _))⟩
  · rw [strict_ne x1 s1 r1 x2 s2 r2 ho hk]
    have hk' : (k1 == k2) = false := by rw [beq_eq_false_iff_ne]; exact hk
    have hk2 : (k1 != k2) = true := by rw [bne_iff_ne]; exact hk
    have h3 : isObj k1 = false ∨ (isObj k1 = true ∧ isObj k2 = false) := by
      cases hh : isObj k1
      · exact Or.inl rfl
      · refine Or.inr ⟨rfl, ?_⟩
        cases hh2 : isObj k2
        · rfl
        · exact absurd ⟨hh, hh2⟩ ho
    clear ho hk
    rcases h3 with h1 | ⟨h1, h2⟩
    all_goals
      go_enter Tryz.func25, Tryz.ntmps25
      go_wp2_with (go_at_call 9; refine (isObj_any _ _ _ _ _).mono ?_; rintro e w' ⟨rfl, rfl⟩)
      go_ret
      exact ⟨rfl, (by repeat (first | exact Below.refl _ _ | refine Below.alloc ?_ (by simp; try omega) _))⟩

/-- Two boxes. -/
theorem below2 (w : World) (a b : Obj) : Below w.heap.size w ((w.alloc a).alloc b) := ((Below.refl _ _).alloc (Nat.le_refl _) _).alloc (by simp) _

set_option maxHeartbeats 4000000 in
set_option maxRecDepth 100000 in
theorem same_any (k1 : Int) (x1 : Nat) (s1 : ByteArray) (r1 : Int) (k2 : Int) (x2 : Nat) (s2 : ByteArray) (r2 : Int) (h0 : 0 ≤ k1) (w : World) :
    Calls Tryz.prog 11 #[val k1 x1 s1 r1, val k2 x2 s2 r2] w fun e w' => e = .returned (.bool (sameV k1 x1 s1 r1 k2 x2 s2 r2)) ∧ Below w.heap.size w w' := by
  by_cases hN : k1 = 3 ∧ k2 = 3 ∧ Fl.isNaN x1 = true
  · have e : sameV k1 x1 s1 r1 k2 x2 s2 r2 = Fl.isNaN x2 := by unfold sameV; rw [if_pos hN]
    rw [e]
    obtain ⟨rfl, rfl, hn⟩ := hN
    have ha := ordN hn x1
    cases hm : Fl.isNaN x2
    · have hb := ordE hm
      clear e hn hm
      go_enter Tryz.func11, Tryz.ntmps11
      go_wp2_with fail
      go_ret
      exact ⟨rfl, (by repeat (first | exact Below.refl _ _ | refine Below.alloc ?_ (by simp; try omega) _))⟩
    · have hb := ordN hm x2
      clear e hn hm
      go_enter Tryz.func11, Tryz.ntmps11
      go_wp2_with fail
      go_ret
      exact ⟨rfl, (by repeat (first | exact Below.refl _ _ | refine Below.alloc ?_ (by simp; try omega) _))⟩
  have e : sameV k1 x1 s1 r1 k2 x2 s2 r2 = strictV k1 x1 s1 r1 k2 x2 s2 r2 := by unfold sameV; rw [if_neg hN]
  rw [e]
  clear e
  have S := hid (fun W => strict_any k1 x1 s1 r1 k2 x2 s2 r2 h0 W)
  generalize strictV k1 x1 s1 r1 k2 x2 s2 r2 = q at *
  have h3 : (k1 == 3) = false ∨ ((k1 == 3) = true ∧ (k2 == 3) = false) ∨ (((k1 == 3) = true ∧ (k2 == 3) = true) ∧ Fl.isNaN x1 = false) := by
    by_cases h1 : k1 = 3
    · by_cases h2 : k2 = 3
      · right; right
        refine ⟨⟨by simp [h1], by simp [h2]⟩, ?_⟩
        rw [← Bool.not_eq_true]; intro h; exact hN ⟨h1, h2, h⟩
      · right; left; exact ⟨by simp [h1], by simp [h2]⟩
    · left; simp [h1]
  clear hN
  rcases h3 with h1 | ⟨h1, h2⟩ | ⟨⟨h1, h2⟩, hn⟩
  · go_enter Tryz.func11, Tryz.ntmps11
    go_wp2_with (go_at_call 25; refine (S.out _).mono ?_; rintro e w' ⟨rfl, hb⟩; have Hb := hid ((below2 _ _ _).trans (hb.mono (by simp; omega))); clear hb)
    go_ret
    exact ⟨rfl, Hb.out⟩
  · go_enter Tryz.func11, Tryz.ntmps11
    go_wp2_with (go_at_call 25; refine (S.out _).mono ?_; rintro e w' ⟨rfl, hb⟩; have Hb := hid ((below2 _ _ _).trans (hb.mono (by simp; omega))); clear hb)
    go_ret
    exact ⟨rfl, Hb.out⟩
  · have ha := ordE hn
    clear hn
    go_enter Tryz.func11, Tryz.ntmps11
    go_wp2_with (go_at_call 25; refine (S.out _).mono ?_; rintro e w' ⟨rfl, hb⟩; have Hb := hid ((below2 _ _ _).trans (hb.mono (by simp; omega))); clear hb)
    go_ret
    exact ⟨rfl, Hb.out⟩

end Go.Proofs.YtbmaodlghglopaaGreatDoor

namespace Go.Proofs.YtbmaodlghglopaaGreatDoor
open Go.RowKit

section
variable {P : Program}
theorem eqS_float (d : Nat) (t : TypeId) (a b : Nat) (k' : FloatKind) (h : P.underlying t = some (.float k')) (w : World) : (Op.equalIn (d + 1) t (.float .f64 a) (.float .f64 b)).run P w = .ok (FloatKind.f64.format.order a b == some .eq) w := by
  simp [Op.equalIn, run_underlying h, Op.floatEq]

/-- Is a type one cell wide, and no struct or array? -/
def plainT (P : Program) (t : TypeId) : Bool := match P.underlying t with | some (.struct _) => false | some (.array _ _) => false | none => false | _ => true
theorem part_plain {t : TypeId} (h : plainT P t = true) {cs : Array Value} {o : Nat} {v : Value} (hv : cs[o]? = some v) (w : World) : (part t cs o).run P w = .ok v w := by
  unfold plainT at h
  cases hu : P.underlying t with
  | none => rw [hu] at h; cases h
  | some d =>
    have hA : (isAgg t).run P w = .ok false w := by
      rw [hu] at h
      simp only [isAgg, Sem.run_bind, run_underlying hu, Result.andThen_ok]
      cases d <;> first | rfl | cases h
    simp only [part, Sem.run_bind, hA, Result.andThen_ok, hv]
    rfl
theorem eqF_plain {d : Nat} {xs ys : Array Value} {f : Field} {fs : List Field} {a b : Value} {r : Bool} (hn : f.name ≠ "_") (hp : plainT P f.type = true) (hx : xs[f.offset]? = some a) (hy : ys[f.offset]? = some b) (he : ∀ w, (Op.equalIn d f.type a b).run P w = .ok r w) (w : World) :
    (Op.eqFields d xs ys (f :: fs)).run P w = if r then (Op.eqFields d xs ys fs).run P w else .ok false w := by
  simp only [Op.eqFields, if_pos hn, Sem.run_bind, part_plain hp hx, part_plain hp hy, Result.andThen_ok, he, Sem.run_ite]
  cases r <;> rfl
theorem eqF_nil {d : Nat} {xs ys : Array Value} (w : World) : (Op.eqFields d xs ys []).run P w = .ok true w := rfl
end

end Go.Proofs.YtbmaodlghglopaaGreatDoor

namespace Go.Proofs.YtbmaodlghglopaaGreatDoor
open Go.RowKit

/-- Block 'g' is just the cells 'cs', of element type 't'. -/
def Bk (w : World) (g : Nat) (t : TypeId) (cs : Array Value) : Prop := w.heap[g]? = some (.cells cs t (0, 0))

section
variable {w w1 : World} {g : Nat} {t : TypeId} {cs : Array Value}
theorem Bk.lt (h : Bk w g t cs) : g < w.heap.size := by
  rcases Nat.lt_or_ge g w.heap.size with hl | hg
  · exact hl
  · unfold Bk at h; rw [Array.getElem?_eq_none hg] at h; cases h
theorem Bk.cell (h : Bk w g t cs) (i : Nat) : w.cell? ⟨g, i, none⟩ = cs[i]? := cell_of_row w g i cs t (0, 0) h
theorem Bk.free (h : Bk w g t cs) (i : Nat) : w.frozen? ⟨g, i, none⟩ = false := by
  unfold Bk at h; simp [World.frozen?, h]
theorem Bk.new (w : World) (t : TypeId) (cs : Array Value) : Bk (w.alloc (.cells cs t)) w.heap.size t cs := (MapKept.heap_alloc w _).1
theorem Bk.alloc (h : Bk w g t cs) (o : Obj) : Bk (w.alloc o) g t cs := (Below.heap_alloc w o g h.lt).trans h
theorem Bk.drew (h : Bk w g t cs) : Bk w.drew g t cs := h
theorem Bk.drewN (h : Bk w g t cs) (n : Nat) : Bk (w.drewN n) g t cs := h
theorem Bk.below {B : Nat} (h : Bk w g t cs) (hb : Below B w w1) (hg : g < B) : Bk w1 g t cs := (hb.block g hg).trans h
theorem Bk.on (h : Bk w g t cs) (hb : Below w.heap.size w w1) : Bk w1 g t cs := h.below hb h.lt
theorem Bk.set (h : Bk w g t cs) (i : Nat) (u : Value) : Bk (w.setCell ⟨g, i, none⟩ u) g t (cs.setIfInBounds i u) := by
  unfold Bk at h ⊢
  simp [World.setCell, Array.getElem?_modify, h]
theorem Bk.far (h : Bk w g t cs) {p : Addr} (hp : g ≠ p.block) (u : Value) : Bk (w.setCell p u) g t cs := (Below.heap_setCell w p u g hp).trans h
theorem Bk.setRow (h : Bk w g t cs) (ds : Array Value) : Bk (w.setRow g ds) g t ds := by
  unfold Bk at h ⊢
  simp [World.setRow, Array.getElem?_modify, h]
theorem Bk.setRow_far (h : Bk w g t cs) {g2 : Nat} (hg : g2 ≠ g) (ds : Array Value) : Bk (w.setRow g2 ds) g t cs := by
  unfold Bk at h ⊢
  simp [World.setRow, Array.getElem?_modify, h, hg]
end

theorem below_setRow {B : Nat} {a w : World} (h : Below B a w) {g : Nat} (hg : B ≤ g) (ds : Array Value) : Below B a (w.setRow g ds) :=
  ⟨h.os, h.tape, h.output, by simpa [World.setRow] using h.size, fun i hi => by
    have e : (w.setRow g ds).heap[i]? = w.heap[i]? := by
      simp only [World.setRow, Array.getElem?_modify]
      rw [if_neg (by omega)]
    rw [e]; exact h.block i hi⟩

theorem Bk.new2 (w : World) (o : Obj) (t : TypeId) (cs : Array Value) : Bk ((w.alloc o).alloc (.cells cs t)) (w.heap.size + 1) t cs := by
  have h := Bk.new (w.alloc o) t cs
  rwa [show (w.alloc o).heap.size = w.heap.size + 1 by simp] at h

/-- The four cells of a value's box. -/
theorem Bk.four {w : World} {g : Nat} {t : TypeId} {a b c d : Value} (h : Bk w g t #[a, b, c, d]) : w.cell? ⟨g, 0, none⟩ = some a ∧ w.cell? ⟨g, 1, none⟩ = some b ∧ w.cell? ⟨g, 2, none⟩ = some c ∧ w.cell? ⟨g, 3, none⟩ = some d ∧ (∀ o, w.frozen? ⟨g, o, none⟩ = false) :=
  ⟨h.cell 0, h.cell 1, h.cell 2, h.cell 3, h.free⟩

/-- Two boxes of four cells, one behind the other: both arguments of a call, each with the block that holds it. -/
def Two (w : World) (g : Nat) (t : TypeId) (A B : Array Value) : Prop := Bk w g t A ∧ Bk w (g + 1) t B
theorem Two.on {w w1 : World} {g : Nat} {t : TypeId} {A B : Array Value} (h : Two w g t A B) (hb : Below w.heap.size w w1) : Two w1 g t A B := ⟨h.1.on hb, h.2.on hb⟩
theorem Two.drew {w : World} {g : Nat} {t : TypeId} {A B : Array Value} (h : Two w g t A B) : Two w.drew g t A B := h
theorem Two.new (w : World) (t : TypeId) (A B : Array Value) : Two ((w.alloc (.cells A t)).alloc (.cells B t)) w.heap.size t A B := ⟨(Bk.new w t A).alloc _, Bk.new2 w _ t B⟩
theorem Two.facts {w : World} {g : Nat} {t : TypeId} {a b c d p q r s : Value} (h : Two w g t #[a, b, c, d] #[p, q, r, s]) :
    w.cell? ⟨g, 0, none⟩ = some a ∧ w.cell? ⟨g, 1, none⟩ = some b ∧ w.cell? ⟨g, 2, none⟩ = some c ∧ w.cell? ⟨g, 3, none⟩ = some d ∧ w.cell? ⟨g + 1, 0, none⟩ = some p ∧ w.cell? ⟨g + 1, 1, none⟩ = some q ∧ w.cell? ⟨g + 1, 2, none⟩ = some r ∧ w.cell? ⟨g + 1, 3, none⟩ = some s ∧ (∀ o, w.frozen? ⟨g, o, none⟩ = false) ∧ (∀ o, w.frozen? ⟨g + 1, o, none⟩ = false) :=
  ⟨h.1.cell 0, h.1.cell 1, h.1.cell 2, h.1.cell 3, h.2.cell 0, h.2.cell 1, h.2.cell 2, h.2.cell 3, h.1.free, h.2.free⟩

end Go.Proofs.YtbmaodlghglopaaGreatDoor

namespace Go.Proofs.YtbmaodlghglopaaGreatDoor
open Go.RowKit

theorem wpList_build_to {P : Program} {ops : Array Oper} {rest : List Oper} {o : Oper} {a : Act} {w : World} {Q : Exit → Act → World → Prop} (hg : o.guard = none) (t : TypeId) (parts : Array (Nat × Operand)) (ho : o.op = .build t parts)
    (cells : Array Value) (hf : P.built t (parts.map fun (i, x) => (i, a.eval x)).toList = some cells)
    (h : wpList P ops Q rest (a.put o.dst (.agg cells)) w) : wpList P ops Q (o :: rest) a w :=
  wpList_build hg t parts ho (by rw [hf]; rfl) (by rw [hf]; exact h)

theorem alloc_at (w : World) (o : Obj) : (w.alloc o).heap[w.heap.size]? = some o := (MapKept.heap_alloc w o).1

theorem modify_push (hp : Array Obj) (old cs : Array Value) (t : TypeId) (f : Obj → Obj) (hf : f (.cells old t) = .cells cs t) : (hp.push (.cells old t)).modify hp.size f = hp.push (.cells cs t) := by
  apply Array.ext_getElem?
  intro i
  rw [Array.getElem?_modify]
  by_cases hi : hp.size = i
  · subst hi; simp [hf]
  · rw [if_neg hi, Array.getElem?_push, Array.getElem?_push, if_neg (by omega), if_neg (by omega)]

theorem setRow_alloc (w : World) (old cs : Array Value) (t : TypeId) : (w.alloc (.cells old t)).setRow w.heap.size cs = w.alloc (.cells cs t) := by
  unfold World.setRow World.alloc
  simp only
  congr 1
  exact modify_push _ _ _ _ _ rfl

/-- A row stored into the block that has just been made. -/
theorem wpList_store_new {P : Program} {ops : Array Oper} {rest : List Oper} {o : Oper} {a : Act} {w : World} {Q : Exit → Act → World → Prop} (hgd : o.guard = none) (ty : TypeId) (x y : Operand) (ho : o.op = .store ty x y)
    (cells : Array Value) (t : TypeId) (old : Array Value) (hx : a.eval x = .pointer (some ⟨w.heap.size, 0, none⟩)) (hy : a.eval y = .agg cells)
    (hi : (P.info? ty).map (·.size) = some cells.size) (hold : old.size = cells.size) (h1 : cells.all (·.oneCell') = true)
    (h : wpList P ops Q rest (a.put o.dst undef) (w.alloc (.cells cells t))) : wpList P ops Q (o :: rest) a (w.alloc (.cells old t)) :=
  wpList_store_row hgd ty x y ho w.heap.size cells hx hy t old (alloc_at w _) hi hold h1 (by rw [setRow_alloc]; exact h)

end Go.Proofs.YtbmaodlghglopaaGreatDoor

namespace Go.Proofs.YtbmaodlghglopaaGreatDoor
open Go.RowKit

theorem hidB {p : Prop} (h : p) : Hid p := h
theorem box_one (w : World) (o : Obj) : Below w.heap.size w (w.alloc o) := (Below.refl _ _).alloc (Nat.le_refl _) _

/-- A value. -/
structure VI where
  k : Int
  x : Nat
  s : ByteArray
  r : Int
abbrev VI.a (v : VI) : Value := val v.k v.x v.s v.r
abbrev VI.cells (v : VI) : List Value := [.int .u8 v.k, .float .f64 v.x, .string v.s, .int .i64 v.r]
def VI.may (v : VI) : Bool := mayV v.k v.x v.s v.r
def VI.zero : VI := ⟨0, 0, ⟨#[]⟩, 0⟩
/-- Equal to the zero value, by '=='. -/
def VI.isZ (v : VI) : Bool := (v.k == 0) && ((FloatKind.f64.format.order v.x 0 == some .eq) && (v.s.toList.isEmpty && (v.r == 0)))
def VI.called (v : VI) : Bool := v.may && ((v.k == 0) || isCal v.k)
/-- A descriptor. -/
structure DI where
  has : Int
  v : VI
  g : VI
  t : VI
  wr : Bool
  en : Bool
  cf : Bool
abbrev DI.cs (d : DI) : Array Value := #[.int .u8 d.has, .int .u8 d.v.k, .float .f64 d.v.x, .string d.v.s, .int .i64 d.v.r, .int .u8 d.g.k, .float .f64 d.g.x, .string d.g.s, .int .i64 d.g.r, .int .u8 d.t.k, .float .f64 d.t.x, .string d.t.s, .int .i64 d.t.r, .bool d.wr, .bool d.en, .bool d.cf]
abbrev DI.a (d : DI) : Value := .agg d.cs
def DI.zero : DI := ⟨0, .zero, .zero, .zero, false, false, false⟩
def hasB (n : Int) (b : Int) : Bool := bits .and .u8 n b != 0
def lackB (n : Int) (b : Int) : Bool := bits .and .u8 (bits .xor .u8 IntKind.u8.max n) b != 0
def DI.data (d : DI) : Bool := hasB d.has 3
def DI.acc (d : DI) : Bool := hasB d.has 12
def DI.bad1 (d : DI) : Bool := (bits .andNot .u8 d.has 63 != 0) || (d.data && d.acc) || !d.v.may || !d.g.called || !d.t.called
def DI.bad2 (d : DI) : Bool := (lackB d.has 1 && !d.v.isZ) || (lackB d.has 4 && !d.g.isZ) || (lackB d.has 8 && !d.t.isZ)
def DI.bad3 (d : DI) : Bool := (lackB d.has 2 && d.wr) || (lackB d.has 16 && d.en) || (lackB d.has 32 && d.cf)
/-- The error of a descriptor. -/
def DI.err (d : DI) : Int := if d.bad1 || (d.bad2 || d.bad3) then 90 else 0
/-- Its kinds are bytes. -/
def DI.ok (d : DI) : Prop := 0 ≤ d.v.k ∧ 0 ≤ d.g.k ∧ 0 ≤ d.t.k
def wholeH (n : Int) : Int := if hasB n 12 then bits .or .u8 n 60 else bits .or .u8 n 51
def DI.whole (d : DI) : DI := { d with has := wholeH d.has }

/-! ### values compared by '==' -/

theorem fields_val : ((Tryz.prog.fieldsOf 29).toList.map (fun f => (f.name, f.type, f.offset)) == [("Kind", 5, 0), ("Num", 27, 1), ("Str", 9, 2), ("Ref", 3, 3)]) = true := by kernel_rfl
theorem under_val : Tryz.prog.underlying 29 = some (.struct (Tryz.prog.fieldsOf 29)) := by kernel_rfl
theorem stood_val : Tryz.prog.stoodInHeld 29 = false := by kernel_rfl
def eqV (k k' : Int) (x y : Nat) (s s' : ByteArray) (r r' : Int) : Bool := (k == k') && ((FloatKind.f64.format.order x y == some .eq) && ((s.toList == s'.toList) && (r == r')))
theorem equal_val (d : Nat) (k k' : Int) (x y : Nat) (s s' : ByteArray) (r r' : Int) (w : World) : (Op.equalIn (d + 2) 29 (.agg #[.int .u8 k, .float .f64 x, .string s, .int .i64 r]) (.agg #[.int .u8 k', .float .f64 y, .string s', .int .i64 r'])).run Tryz.prog w =
    .ok (eqV k k' x y s s' r r') w := by
  unfold eqV
  rw [run_equalIn_struct _ _ _ _ _ under_val stood_val]
  have hf := eq_of_beq fields_val
  generalize (Tryz.prog.fieldsOf 29).toList = fs at *
  rcases fs with _ | ⟨f0, _ | ⟨f1, _ | ⟨f2, _ | ⟨f3, _ | ⟨f4, fs⟩⟩⟩⟩⟩
  case cons.cons.cons.cons.nil =>
    simp only [List.map_cons, List.map_nil, List.cons.injEq, Prod.mk.injEq, and_true] at hf
    obtain ⟨⟨a0, b0, c0⟩, ⟨a1, b1, c1⟩, ⟨a2, b2, c2⟩, ⟨a3, b3, c3⟩⟩ := hf
    rw [eqF_plain (a := .int .u8 k) (b := .int .u8 k') (by rw [a0]; decide) (by rw [b0]; kernel_rfl) (by rw [c0]; rfl) (by rw [c0]; rfl) (by intro w; rw [b0]; exact run_equalIn_int w d _ .u8 .u8 _ _ (by kernel_rfl)),
      eqF_plain (a := .float .f64 x) (b := .float .f64 y) (by rw [a1]; decide) (by rw [b1]; kernel_rfl) (by rw [c1]; rfl) (by rw [c1]; rfl) (by intro w; rw [b1]; exact eqS_float d _ _ _ .f64 (by kernel_rfl) w),
      eqF_plain (a := .string s) (b := .string s') (by rw [a2]; decide) (by rw [b2]; kernel_rfl) (by rw [c2]; rfl) (by rw [c2]; rfl) (by intro w; rw [b2]; exact run_equalIn_string w d _ _ _ (by kernel_rfl)),
      eqF_plain (a := .int .i64 r) (b := .int .i64 r') (by rw [a3]; decide) (by rw [b3]; kernel_rfl) (by rw [c3]; rfl) (by rw [c3]; rfl) (by intro w; rw [b3]; exact run_equalIn_int w d _ .i64 .i64 _ _ (by kernel_rfl)), eqF_nil]
    cases k == k' <;> cases (FloatKind.f64.format.order x y == some .eq) <;> cases s.toList == s'.toList <;> cases r == r' <;> rfl
  all_goals (exfalso; simp at hf)
theorem eqV_zero (k : Int) (x : Nat) (s : ByteArray) (r : Int) : eqV k 0 x 0 s ⟨#[]⟩ r 0 = VI.isZ ⟨k, x, s, r⟩ := by
  unfold eqV VI.isZ
  have e : (s.toList == (⟨#[]⟩ : ByteArray).toList) = s.toList.isEmpty := by
    rw [show (⟨#[]⟩ : ByteArray).toList = [] from by rw [ByteArray.toList_eq]]
    cases s.toList <;> rfl
  rw [e]

/-! ### loads under a guard that says yes -/

section
variable {P : Program} {ops : Array Oper} {rest : List Oper} {o : Oper} {a : Act} {w : World} {Q : Exit → Act → World → Prop}
/-- (A guard for the arms of a walk: 'with_reducible refine wpId ?_' goes through at a list of operations alone.) -/
theorem wpId (h : wpList P ops Q (o :: rest) a w) : wpList P ops Q (o :: rest) a w := h
/-- (The same, at a load of this type through this slot alone: what follows costs seconds where it does not fit.) -/
theorem ldId (ty : TypeId) (x : Operand) {dst : Option Tmp} {type : TypeId} {pos : String} {after : Array Edge} {g : Option (Nat × Bool)} (h : wpList P ops Q ({ dst := dst, op := .load ty x, type := type, pos := pos, after := after, guard := g } :: rest) a w) : wpList P ops Q ({ dst := dst, op := .load ty x, type := type, pos := pos, after := after, guard := g } :: rest) a w := h
theorem wpList_wanted (hw : Region.wanted o (yielded ops a.tmps) = true) (h : ∀ K : Act → World → Prop, (∀ a w, wpList P ops Q rest a w → K a w) → o.wp P a w K Q) : wpList P ops Q (o :: rest) a w :=
  wpList_step fun K hK => by rw [if_pos hw]; exact h K hK
theorem wpList_wload_row (ty : TypeId) (x : Operand) (ho : o.op = .load ty x) (hw : Region.wanted o (yielded ops a.tmps) = true)
    (g : Nat) (hx : a.eval x = .pointer (some ⟨g, 0, none⟩)) (t : TypeId) (cs : Array Value) (fr : Nat × Nat) (d : TypeDesc) (hg : w.heap[g]? = some (.cells cs t fr))
    (hu : P.underlying ty = some d) (hd : (match d with | .struct _ | .array _ _ => true | _ => false) = true) (hi : (P.info? ty).map (·.size) = some cs.size)
    (h : wpList P ops Q rest (a.put o.dst (.agg cs)) w) : wpList P ops Q (o :: rest) a w :=
  wpList_wanted hw fun _ hK => wp_load_row ty x ho g hx t cs fr d hg hu hd hi (hK _ _ h)
theorem wpList_wload_mid (ty : TypeId) (x : Operand) (ho : o.op = .load ty x) (hw : Region.wanted o (yielded ops a.tmps) = true)
    (b oo : Nat) (hx : a.eval x = .pointer (some ⟨b, oo, none⟩)) (cs : List Value) (d : TypeDesc) (hc : w.rangeAt b oo cs)
    (hu : P.underlying ty = some d) (hd : d.isRow = true) (hi : (P.info? ty).map (·.size) = some cs.length)
    (h : wpList P ops Q rest (a.put o.dst (.agg cs.toArray)) w) : wpList P ops Q (o :: rest) a w :=
  wpList_wanted hw fun _ hK => wp_load_mid ty x ho b oo hx cs d hc hu hd hi (hK _ _ h)
end

end Go.Proofs.YtbmaodlghglopaaGreatDoor
