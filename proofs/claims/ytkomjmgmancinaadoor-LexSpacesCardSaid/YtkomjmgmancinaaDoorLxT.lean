/-
  lex.may answers what a token may be.
  Small laws on blocks that a call has made: a literal array built, stored whole into a new block.
  lex.Text writes tokens as is told.
  A builder's WriteByte leaves a token's box as it is.
-/
import Derived.Test.YtkomjmgmancinaaDoorMayTok
import Derived.Test.YtkomjmgmancinaaDoorRows
import Derived.WalkKit
import Derived.Laws.Tables
import Derived.Laws.Rows
import Derived.Test.YtkomjmgmancinaaDoorQuoteWalk
import Derived.Test.YtkomjmgmancinaaDoorLxK
import Derived.Test.YtkomjmgmancinaaDoorBlk
import Derived.Deep.MidRow
import Derived.Test.YtkomjmgmancinaaDoorLxG
namespace Go.Proofs.YtkomjmgmancinaaDoor
open Go.RowKit

theorem run_eqI (s : ByteArray) : (((runN s.data.toList : Nat) : Int) == (s.size : Int)) = decide (runN s.data.toList = s.data.toList.length) := by
  rw [Bool.eq_iff_iff, beq_iff_eq, decide_eq_true_eq, ← ba_size]; omega
theorem mayB_num {t : TI} (h : t.k = 3) : mayB t = (t.text.data.toList.isEmpty && (ge0 t.num && Fl.may t.num)) := by unfold mayB; rw [if_pos h]
theorem mayB_str {t : TI} (h : t.k = 4) : mayB t = (eq0 t.num && decide (t.text.size ≤ 4096)) := by unfold mayB; rw [if_neg (by omega), if_pos h]
theorem mayB_sign {t : TI} (h : t.k = 5) : mayB t = (eq0 t.num && signB t.text.data.toList) := by unfold mayB; rw [if_neg (by omega), if_neg (by omega), if_pos h]
theorem mayB_name {t : TI} (h : t.k = 1 ∨ t.k = 2) : mayB t = (eq0 t.num && (!t.text.data.toList.isEmpty && (decide (t.text.size ≤ 4096) && (nameB t.text.data.toList && (wordB t.text.data.toList == decide (t.k = 2)))))) := by
  unfold mayB; rw [if_neg (by omega), if_neg (by omega), if_neg (by omega), if_pos h]
theorem mayB_other {t : TI} (h1 : t.k ≠ 1) (h2 : t.k ≠ 2) (h3 : t.k ≠ 3) (h4 : t.k ≠ 4) (h5 : t.k ≠ 5) : mayB t = false := by
  unfold mayB; rw [if_neg h3, if_neg h4, if_neg h5, if_neg (by omega)]
theorem le4096 (s : ByteArray) : decide ((s.size : Int) ≤ 4096) = decide (s.size ≤ 4096) := by rw [Bool.eq_iff_iff, decide_eq_true_eq, decide_eq_true_eq]; omega
theorem ne_pos {s : ByteArray} (h : s.data.toList.isEmpty = false) : 0 < s.size := by
  rw [ba_size]
  cases hx : s.data.toList with
  | nil => rw [hx] at h; cases h
  | cons a l => simp
theorem name_facts {s : ByteArray} (h0 : 0 < s.size) : nameB s.data.toList = (isLet s[0] && decide (runN s.data.toList = s.data.toList.length)) := nameB_head (by rw [← ba_size]; exact h0)

/-- The facts on a name that both walks part on. -/
theorem name_parts {C : Int → Bool → Prop} {s : ByteArray} {x : Nat} {k : Int} (hk : k = 1 ∨ k = 2)
    (a : (FloatKind.f64.format.order x 0 == some .eq) = false → C k false)
    (b : (FloatKind.f64.format.order x 0 == some .eq) = true → s.toList.isEmpty = true → C k false)
    (c : (FloatKind.f64.format.order x 0 == some .eq) = true → s.toList.isEmpty = false → decide ((s.size : Int) ≤ 4096) = false → C k false)
    (d : (FloatKind.f64.format.order x 0 == some .eq) = true → s.toList.isEmpty = false → decide ((s.size : Int) ≤ 4096) = true → ∀ h0 : 0 < s.size, isLet s[0] = false → C k false)
    (e : (FloatKind.f64.format.order x 0 == some .eq) = true → s.toList.isEmpty = false → decide ((s.size : Int) ≤ 4096) = true → ∀ h0 : 0 < s.size, isLet s[0] = true → (((runN s.data.toList : Nat) : Int) == (s.size : Int)) = false → C k false)
    (f : (FloatKind.f64.format.order x 0 == some .eq) = true → s.toList.isEmpty = false → decide ((s.size : Int) ≤ 4096) = true → ∀ h0 : 0 < s.size, isLet s[0] = true → (((runN s.data.toList : Nat) : Int) == (s.size : Int)) = true → C k (wordB s.data.toList == decide (k = 2))) (p : Int) :
    C k (mayB ⟨k, p, s, x⟩) := by
  rw [mayB_name (t := ⟨k, p, s, x⟩) hk]
  simp only
  cases hg : eq0 x
  · exact a hg
  · cases hE : s.data.toList.isEmpty
    · cases hz : decide (s.size ≤ 4096)
      · exact c hg (by rw [isE, hE]) (by rw [le4096, hz])
      · have h0 := ne_pos hE
        rw [name_facts h0]
        cases hl : isLet s[0]
        · exact d hg (by rw [isE, hE]) (by rw [le4096, hz]) h0 hl
        · cases hr : decide (runN s.data.toList = s.data.toList.length)
          · exact e hg (by rw [isE, hE]) (by rw [le4096, hz]) h0 hl (by rw [run_eqI, hr])
          · have := f hg (by rw [isE, hE]) (by rw [le4096, hz]) h0 hl (by rw [run_eqI, hr])
            simpa using this
    · exact b hg (by rw [isE, hE])

theorem mayT_any (t : TI) (hs : t.text.size ≤ 140737488351232) (w : World) (hm : Mx w) : Calls Tryd.prog 23 #[t.agg] w fun e w' => e = .returned (.bool (mayB t)) ∧ Below w.heap.size w w' := by
  obtain ⟨k, p, s, x⟩ := t
  simp only [TI.agg] at hs ⊢
  by_cases h3 : k = 3
  · subst h3
    rw [mayB_num rfl]
    simp only
    cases hE : s.data.toList.isEmpty
    · exact mayT_num0 w p s x (by rw [isE, hE])
    · cases hg : ge0 x
      · exact mayT_num1 w p s x (by rw [isE, hE]) hg
      · simpa using mayT_num2 w p s x (by rw [isE, hE]) hg
  by_cases h4 : k = 4
  · subst h4
    rw [mayB_str rfl]
    simp only
    cases hg : eq0 x
    · exact mayT_str0 w p s x hg
    · exact mayT_str1 w p s x hg _ (le4096 s)
  by_cases h5 : k = 5
  · subst h5
    rw [mayB_sign rfl]
    simp only
    cases hg : eq0 x
    · exact mayT_sign0 w p s x hg
    · exact mayT_sign1 w p s x (by omega) hm hg
  by_cases h12 : k = 1 ∨ k = 2
  · rcases h12 with rfl | rfl
    · exact name_parts (C := fun k b => Calls Tryd.prog 23 #[.agg #[.int .u8 k, .int .i64 p, .string s, .float .f64 x]] w fun e w' => e = .returned (.bool b) ∧ Below w.heap.size w w') (Or.inl rfl)
        (fun h => mayT_n1a w p s x h) (fun h h2 => mayT_n1b w p s x h h2) (fun h h2 h3 => mayT_n1c w p s x h h2 h3) (fun h h2 h3 h0 h4 => mayT_n1d w p s x h h2 h3 hm h0 (by rw [kind_one, h4]))
        (fun h h2 h3 h0 h4 h5 => mayT_n1e w p s x h h2 h3 hm h0 (by rw [kind_one, h4]) h5) (fun h h2 h3 h0 h4 h5 => mayT_n1f w p s x h h2 h3 hm h0 (by rw [kind_one, h4]) h5 _ rfl) p
    · exact name_parts (C := fun k b => Calls Tryd.prog 23 #[.agg #[.int .u8 k, .int .i64 p, .string s, .float .f64 x]] w fun e w' => e = .returned (.bool b) ∧ Below w.heap.size w w') (Or.inr rfl)
        (fun h => mayT_n2a w p s x h) (fun h h2 => mayT_n2b w p s x h h2) (fun h h2 h3 => mayT_n2c w p s x h h2 h3) (fun h h2 h3 h0 h4 => mayT_n2d w p s x h h2 h3 hm h0 (by rw [kind_one, h4]))
        (fun h h2 h3 h0 h4 h5 => mayT_n2e w p s x h h2 h3 hm h0 (by rw [kind_one, h4]) h5) (fun h h2 h3 h0 h4 h5 => mayT_n2f w p s x h h2 h3 hm h0 (by rw [kind_one, h4]) h5 _ rfl) p
  · rw [mayB_other (t := ⟨k, p, s, x⟩) (by simp only; omega) (by simp only; omega) h3 h4 h5]
    exact mayT_other w p s x k (by simp; omega) (by simp; omega) (by simpa using h3) (by simpa using h4) (by simpa using h5)

end Go.Proofs.YtkomjmgmancinaaDoor

namespace Go.Proofs.YtkomjmgmancinaaDoor
open Go.RowKit

theorem hidN {p : Prop} (h : p) : Hid p := h

theorem wpList_build_to {P : Program} {ops : Array Oper} {rest : List Oper} {o : Oper} {a : Act} {w : World} {Q : Exit → Act → World → Prop} (hg : o.guard = none) (t : TypeId) (parts : Array (Nat × Operand)) (ho : o.op = .build t parts)
    (cells : Array Value) (hf : P.built t (parts.map fun (i, x) => (i, a.eval x)).toList = some cells)
    (h : wpList P ops Q rest (a.put o.dst (.agg cells)) w) : wpList P ops Q (o :: rest) a w :=
  wpList_build hg t parts ho (by rw [hf]; rfl) (by rw [hf]; exact h)

theorem alloc_at (w : World) (o : Obj) : (w.alloc o).heap[w.heap.size]? = some o := (MapKept.heap_alloc w o).1

theorem modify_push (hp : Array Obj) (old cs : Array Value) (t : TypeId) (f : Obj → Obj) (hf : f (.cells old t) = .cells cs t) : (hp.push (.cells old t)).modify hp.size f = hp.push (.cells cs t) := by
  apply Array.ext_getElem?
  intro i
  rw [Array.getElem?_modify]
  by_cases hi : hp.size = i
  · subst hi; simp [hf]
  · rw [if_neg hi, Array.getElem?_push, Array.getElem?_push, if_neg (by omega), if_neg (by omega)]

theorem modify_push2 (hp : Array Obj) (o : Obj) (k : Nat) (hk : k < hp.size) (f : Obj → Obj) : (hp.push o).modify k f = (hp.modify k f).push o := by
  apply Array.ext_getElem?
  intro i
  rw [Array.getElem?_modify, Array.getElem?_push, Array.getElem?_push, Array.getElem?_modify, Array.size_modify]
  by_cases hi : k = i
  · subst hi; simp [show k ≠ hp.size by omega]
  · simp [hi]

theorem setRow_alloc (w : World) (old cs : Array Value) (t : TypeId) : (w.alloc (.cells old t)).setRow w.heap.size cs = w.alloc (.cells cs t) := by
  unfold World.setRow World.alloc
  simp only
  congr 1
  exact modify_push _ _ _ _ _ rfl

theorem setRow_alloc2 (w : World) (o : Obj) (k : Nat) (hk : k < w.heap.size) (cs : Array Value) : (w.alloc o).setRow k cs = (w.setRow k cs).alloc o := by
  unfold World.setRow World.alloc
  simp only
  congr 1
  exact modify_push2 _ _ _ hk _

/-- A row stored into the block that has just been made. -/
theorem wpList_store_new {P : Program} {ops : Array Oper} {rest : List Oper} {o : Oper} {a : Act} {w : World} {Q : Exit → Act → World → Prop} (hgd : o.guard = none) (ty : TypeId) (x y : Operand) (ho : o.op = .store ty x y)
    (cells : Array Value) (t : TypeId) (old : Array Value) (hx : a.eval x = .pointer (some ⟨w.heap.size, 0, none⟩)) (hy : a.eval y = .agg cells)
    (hi : (P.info? ty).map (·.size) = some cells.size) (hold : old.size = cells.size) (h1 : cells.all (·.oneCell') = true)
    (h : wpList P ops Q rest (a.put o.dst undef) (w.alloc (.cells cells t))) : wpList P ops Q (o :: rest) a (w.alloc (.cells old t)) :=
  wpList_store_row hgd ty x y ho w.heap.size cells hx hy t old (alloc_at w _) hi hold h1 (by rw [setRow_alloc]; exact h)

/-- The same, another block having been made behind it. -/
theorem wpList_store_new2 {P : Program} {ops : Array Oper} {rest : List Oper} {o : Oper} {a : Act} {w : World} {Q : Exit → Act → World → Prop} (hgd : o.guard = none) (ty : TypeId) (x y : Operand) (ho : o.op = .store ty x y)
    (cells : Array Value) (t : TypeId) (old : Array Value) (o2 : Obj) (hx : a.eval x = .pointer (some ⟨w.heap.size, 0, none⟩)) (hy : a.eval y = .agg cells)
    (hi : (P.info? ty).map (·.size) = some cells.size) (hold : old.size = cells.size) (h1 : cells.all (·.oneCell') = true)
    (h : wpList P ops Q rest (a.put o.dst undef) ((w.alloc (.cells cells t)).alloc o2)) : wpList P ops Q (o :: rest) a ((w.alloc (.cells old t)).alloc o2) :=
  wpList_store_row hgd ty x y ho w.heap.size cells hx hy t old (by rw [← alloc_at w (.cells old t)]; exact Below.heap_alloc _ _ _ (by simp)) hi hold h1 (by rw [setRow_alloc2 _ _ _ (by simp), setRow_alloc]; exact h)

/-- A row stored into the block that has just been made, its number spelt otherwise. -/
theorem wpList_store_at {P : Program} {ops : Array Oper} {rest : List Oper} {o : Oper} {a : Act} {w : World} {Q : Exit → Act → World → Prop} (hgd : o.guard = none) (ty : TypeId) (x y : Operand) (ho : o.op = .store ty x y) (g : Nat) (hg : g = w.heap.size)
    (cells : Array Value) (t : TypeId) (old : Array Value) (hx : a.eval x = .pointer (some ⟨g, 0, none⟩)) (hy : a.eval y = .agg cells)
    (hi : (P.info? ty).map (·.size) = some cells.size) (hold : old.size = cells.size) (h1 : cells.all (·.oneCell') = true)
    (h : wpList P ops Q rest (a.put o.dst undef) (w.alloc (.cells cells t))) : wpList P ops Q (o :: rest) a (w.alloc (.cells old t)) := by
  subst hg
  exact wpList_store_new hgd ty x y ho cells t old hx hy hi hold h1 h

end Go.Proofs.YtkomjmgmancinaaDoor

namespace Go.Proofs.YtkomjmgmancinaaDoor
open Go.RowKit

/-- A slice of tokens that can be read. -/
def RdT (ts : List TI) (v : Value) (w : World) : Prop := ∃ pa c, v = .slice pa ts.length c ∧ ts.length ≤ c ∧ c ≤ maxLen ∧ (0 < ts.length → ∃ g o, pa = some ⟨g, o, none⟩ ∧ g < w.heap.size ∧ ∀ i (h : i < ts.length), w.rangeAt g (o + i * 4) ts[i].cells)
theorem range_on {w w1 : World} (hb : Below w.heap.size w w1) {g o : Nat} {cs : List Value} (hg : g < w.heap.size) (h : w.rangeAt g o cs) : w1.rangeAt g o cs := by
  intro j v hj
  rw [hb.cell (p := ⟨g, o + j, none⟩) hg]
  exact h j v hj
theorem RdT.on {ts : List TI} {v : Value} {w w1 : World} (h : RdT ts v w) (hb : Below w.heap.size w w1) : RdT ts v w1 := by
  obtain ⟨pa, c, h1, h2, h3, h4⟩ := h
  refine ⟨pa, c, h1, h2, h3, fun h0 => ?_⟩
  obtain ⟨g, o, e, hg, hx⟩ := h4 h0
  exact ⟨g, o, e, Nat.lt_of_lt_of_le hg hb.size, fun i hi => range_on hb hg (hx i hi)⟩
theorem RdT.four {t : TI} {w : World} {g o : Nat} (h : w.rangeAt g o t.cells) : w.cell? ⟨g, o, none⟩ = some (.int .u8 t.k) ∧ w.cell? ⟨g, o + 1, none⟩ = some (.int .i64 t.p) ∧ w.cell? ⟨g, o + 2, none⟩ = some (.string t.text) ∧ w.cell? ⟨g, o + 3, none⟩ = some (.float .f64 t.num) :=
  ⟨h 0 _ rfl, h 1 _ rfl, h 2 _ rfl, h 3 _ rfl⟩
theorem tab_on {w w1 : World} (h : Tab w) (hb : Below w.heap.size w w1) : Tab w1 :=
  Joins.tab_stays (B := w.heap.size) (show Tryd.prog.globalNamed "internal/strconv.uint64pow10" = some 2 by kernel_rfl) h hb (Nat.le_refl _)
theorem bld_on {B b : Nat} {l : List UInt8} {w w1 : World} (h : Bld B b l w) (hb : Below w.heap.size w w1) : Bld B b l w1 := by
  have key : ∀ p, Lib.BuilderAt 43 5 B b p (Lib.byteCells l) w → Lib.BuilderAt 43 5 B b p (Lib.byteCells l) w1 := by
    rintro p h
    have hlt := h.lt
    obtain ⟨h1, v, h2, h3, h4⟩ := h
    refine ⟨h1, v, by rw [hb.block b hlt]; exact h2, ?_, h4⟩
    exact h3.kept (row := none) ⟨hb.os, hb.tape, hb.output, hb.size, fun k hk _ => hb.block k hk⟩ (by cases v.ownBlock <;> simp)
  rcases h with h | h
  · exact Or.inl (key _ h)
  · exact Or.inr (key _ h)

/-! ### what is refused at once -/

def TextQ (ts : List TI) (w : World) (e : Ending) (w' : World) : Prop := e = .returned (.tuple #[.string ⟨(writeR ts).1.toArray⟩, .int .i64 (writeR ts).2]) ∧ Below w.heap.size w w'
theorem textQ_of {ts : List TI} {w : World} {l : List UInt8} {k : Int} (h : writeR ts = (l, k)) {e : Ending} {w' : World} (he : e = .returned (.tuple #[.string ⟨l.toArray⟩, .int .i64 k])) (hb : Below w.heap.size w w') : TextQ ts w e w' := by
  unfold TextQ; rw [h]; exact ⟨he, hb⟩

set_option maxRecDepth 100000 in
theorem lexText_none (c : Nat) (pa : Option Addr) (w : World) : Calls Tryd.prog 9 #[.slice pa 0 c] w (TextQ [] w) := by
  go_enter Tryd.func9, Tryd.ntmps9
  go_wp2_with fail
  go_ret2
  exact textQ_of (l := []) (k := 5) rfl rfl (Below.refl _ _)

set_option maxRecDepth 100000 in
theorem lexText_many (ts : List TI) (h : 16385 < ts.length) (hl : ts.length ≤ maxLen) (c : Nat) (pa : Option Addr) (w : World) : Calls Tryd.prog 9 #[.slice pa ts.length c] w (TextQ ts w) := by
  have e : writeR ts = ([], 4) := by unfold writeR; rw [if_pos h]
  have hx : (16384 : Int) < (ts.length : Int) - 1 := by omega
  unfold maxLen at hl
  go_enter Tryd.func9, Tryd.ntmps9
  go_wp2_with fail
  go_ret2
  exact textQ_of e rfl (Below.refl _ _)

theorem end_none {ts : List TI} (h0 : 0 < ts.length) (h1 : ts.length ≤ 16385) (h : endB ts[ts.length - 1] = false) : writeR ts = ([], 5) := by
  unfold writeR
  have hg : ts.getLast? = some ts[ts.length - 1] := by rw [List.getLast?_eq_getElem?, List.getElem?_eq_getElem]
  rw [if_neg (by omega), if_pos (by rw [hg]; exact h)]

set_option maxHeartbeats 2000000 in
set_option maxRecDepth 100000 in
theorem lexText_end (ts : List TI) (m : Nat) (hm : ts.length = m + 1) (h1 : ts.length ≤ 16385) (g o c : Nat) (w : World) (hr : w.rangeAt g (o + m * 4) (ts[m]'(by omega)).cells) (h : endB (ts[m]'(by omega)) = false) : Calls Tryd.prog 9 #[.slice (some ⟨g, o, none⟩) (m + 1) c] w (TextQ ts w) := by
  have e : writeR ts = ([], 5) := end_none (by omega) h1 (by rw [show ts[ts.length - 1]'(by omega) = ts[m]'(by omega) by congr 1; omega]; exact h)
  have He := hidB e
  clear e
  obtain ⟨r0, r1, r2, r3⟩ := RdT.four hr
  clear hr
  unfold endB at h
  have hm4 : m ≤ 16384 := by omega
  clear h1
  generalize (ts[m]'(by omega)) = t at *
  obtain ⟨k, p, s, x⟩ := t
  simp only at r0 r1 r2 r3 h
  by_cases hk : k = 0
  · subst hk
    by_cases hs : s.toList.isEmpty = true
    · have hx : (FloatKind.f64.format.order x 0 != some .eq) = true := by
        rw [isE] at hs
        rw [hs] at h
        unfold eq0 at h
        simpa [bne] using h
      clear h
      go_enter Tryd.func9, Tryd.ntmps9
      go_wp2_with fail
      go_ret2
      exact textQ_of He.out rfl (Below.refl _ _)
    · have hs2 : s.toList.isEmpty = false := by simpa using hs
      clear h hs
      go_enter Tryd.func9, Tryd.ntmps9
      go_wp2_with fail
      go_ret2
      exact textQ_of He.out rfl (Below.refl _ _)
  · have hk2 : (k != 0) = true := by rw [bne_iff_ne]; exact hk
    clear h hk
    go_enter Tryd.func9, Tryd.ntmps9
    go_wp2_with fail
    go_ret2
    exact textQ_of He.out rfl (Below.refl _ _)

end Go.Proofs.YtkomjmgmancinaaDoor

namespace Go.Proofs.YtkomjmgmancinaaDoor
open Go.Shelf Go.RowKit

set_option maxRecDepth 100000 in
theorem copyCheck_box (B b : Nat) (bs : List Value) (w : World) (h : Lib.IsBuilder 43 5 B b bs w) :
    Calls Tryd.prog 45 #[.pointer (some ⟨b, 0, none⟩)] w fun e w' => e = .returned (.tuple #[]) ∧ (Lib.BuilderAt 43 5 B b (.pointer (some ⟨b, 0, none⟩)) bs w' ∧ Below B w w') ∧ ∀ x, x ≠ b → w'.heap[x]? = w.heap[x]? := by
  rcases h with h | h
  · refine (copyCheck_fresh b w h.cell0 h.shape h.frozen0).mono ?_
    rintro e w' ⟨rfl, rfl⟩
    exact ⟨rfl, ⟨h.used _, (Below.refl B w).setCell (p := ⟨b, 0, none⟩) h.1 _⟩, fun x hx => Below.heap_setCell w ⟨b, 0, none⟩ _ x hx⟩
  · refine (copyCheck_used b w h.cell0).mono ?_
    rintro e w' ⟨rfl, rfl⟩
    exact ⟨rfl, ⟨h, Below.refl B _⟩, fun _ _ => rfl⟩

set_option maxHeartbeats 1000000 in
set_option maxRecDepth 100000 in
theorem writeByte_box (B b : Nat) (l : List UInt8) (u : UInt8) (c : Int) (hcu : c = u.toNat) (w : World) (hB0 : Bld B b l w) (hlen : l.length + 1 ≤ 140737488355328) (hBw : B ≤ w.heap.size) (x : Nat) (cs : Array Value) (hx : Bk w x 25 cs) (hxb : x ≠ b) :
    Calls Tryd.prog 24 #[.pointer (some ⟨b, 0, none⟩), .int .u8 c] w fun e w' => e = .returned .nilIface ∧ (Bld B b (l ++ [u]) w' ∧ Below B w w') ∧ Bk w' x 25 cs := by
  subst hcu
  obtain ⟨i0, hi, hz0, hz1, hz2⟩ := info_partsB info_byte
  have hbl := Lib.byteCells_length l
  have hxl := hx.lt
  go_enter Tryd.func24, Tryd.ntmps24
  go_wp2_with (go_at_call 45; refine (copyCheck_box B b _ _ hB0).mono ?_)
  rintro e w1 ⟨rfl, ⟨h1, hb1⟩, hk1⟩
  have hx1 : Bk w1 x 25 cs := (hk1 x hxb).trans hx
  clear hk1
  obtain ⟨hB, v, hbk, hown, hne⟩ := h1
  have hnx := Lib.ownBlock_ne hown hx1 (by decide)
  have c0 : w1.cell? ⟨b, 0, none⟩ = some (.pointer (some ⟨b, 0, none⟩)) := by rw [Lib.cell_of_heap hbk]; rfl
  have c1 : w1.cell? ⟨b, 1, none⟩ = some v := by rw [Lib.cell_of_heap hbk]; rfl
  go_wp2_with (at_builtin; refine wpList_append_own _ rfl _ _ 41 rfl B 5 i0 (.int .u8 0) 1 1 Tryd.underlying41 hi hz0 hz1 hz2 rfl (by decide) _ _ _ rfl (hown.alloc _) ⟨w1.heap.size, 0, none⟩ 1 1 [.int .u8 u.toNat] rfl rfl ?c1 ?c2 ?c3 ?c4 ?c5 ?_)
  case c1 => exact cell_one_new _ _ _
  case c2 => intro x hx; simp at hx; subst hx; rfl
  case c3 => unfold maxLen; omega
  case c4 => omega
  case c5 => have := hb1.size; simp; omega
  intro v' w2 hown' hgrow _
  have hlt : b < w1.heap.size := by
    rcases Nat.lt_or_ge b w1.heap.size with h' | h'
    · exact h'
    · simp [Array.getElem?_eq_none h'] at hbk
  have hltx : x < w1.heap.size := hx1.lt
  have hb2 : w2.heap[b]? = some (.cells #[.pointer (some ⟨b, 0, none⟩), v] 43 (0, 0)) := by
    rw [hgrow.block b (by simp; omega) (fun e => hne e.symm), Lib.alloc_old w1 _ b hlt]
    exact hbk
  have hx2 : Bk w2 x 25 cs := by
    unfold Bk
    rw [hgrow.block x (by simp; omega) (fun e => hnx e.symm), Lib.alloc_old w1 _ x hltx]
    exact hx1
  have d0 : w2.cell? ⟨b, 0, none⟩ = some (.pointer (some ⟨b, 0, none⟩)) := by rw [Lib.cell_of_heap hb2]; rfl
  have d1 : w2.cell? ⟨b, 1, none⟩ = some v := by rw [Lib.cell_of_heap hb2]; rfl
  have f1 : w2.frozen? ⟨b, 1, none⟩ = false := Lib.frozen_of_heap hb2 1
  obtain ⟨g, n', cap, rfl⟩ : ∃ g n' cap, v' = .slice g n' cap := by
    rcases hown'.2 with ⟨hv, _⟩ | ⟨g, cap, cur, hv, _⟩
    · exact ⟨_, _, _, hv⟩
    · exact ⟨_, _, _, hv⟩
  clear hx hx1 hnx
  have HX := hidB hx2
  clear hx2
  go_wp2
  go_ret
  refine ⟨rfl, ⟨?_, ?_⟩, ?_⟩
  · refine Or.inr ?_
    have e : Lib.byteCells (l ++ [u]) = Lib.byteCells l ++ [.int .u8 u.toNat] := by simp [Lib.byteCells]
    rw [e]
    exact Lib.BuilderAt.put (T := 43) (e := 5) hB hb2 (bs' := Lib.byteCells l ++ [.int .u8 u.toNat]) (by simpa [Lib.byteCells_length] using hown') (by decide)
  · exact ((hb1.alloc (by have := hb1.size; omega) _).grown hgrow (by have := hb1.size; simp; omega) (fun k hk => (hown.lt k hk).1)).setCell (p := ⟨b, 1, none⟩) hB _
  · exact HX.out.far (p := ⟨b, 1, none⟩) hxb _

end Go.Proofs.YtkomjmgmancinaaDoor
