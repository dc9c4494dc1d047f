/-
  lex.Text writes tokens as is told.
-/
import Derived.Test.YtkomjmgmancinaaDoorMayAll
import Derived.Test.YtkomjmgmancinaaDoorQuoteWalk
import Derived.Test.YtkomjmgmancinaaDoorTextWalk
import Derived.Test.YtkomjmgmancinaaDoorBlk
import Derived.Test.YtkomjmgmancinaaDoorBlocks
import Derived.Deep.MidRow
namespace Go.Proofs.YtkomjmgmancinaaDoor
open Go.RowKit

/-- A slice of tokens that can be read. -/
def RdT (ts : List TI) (v : Value) (w : World) : Prop := ∃ pa c, v = .slice pa ts.length c ∧ ts.length ≤ c ∧ c ≤ maxLen ∧ (0 < ts.length → ∃ g o, pa = some ⟨g, o, none⟩ ∧ g < w.heap.size ∧ ∀ i (h : i < ts.length), w.rangeAt g (o + i * 4) ts[i].cells)
theorem range_on {w w1 : World} (hb : Below w.heap.size w w1) {g o : Nat} {cs : List Value} (hg : g < w.heap.size) (h : w.rangeAt g o cs) : w1.rangeAt g o cs := by
  intro j v hj
  rw [hb.cell (p := ⟨g, o + j, none⟩) hg]
  exact h j v hj
theorem RdT.on {ts : List TI} {v : Value} {w w1 : World} (h : RdT ts v w) (hb : Below w.heap.size w w1) : RdT ts v w1 := by
  obtain ⟨pa, c, h1, h2, h3, h4⟩ := h
  refine ⟨pa, c, h1, h2, h3, fun h0 => ?_⟩
  obtain ⟨g, o, e, hg, hx⟩ := h4 h0
  exact ⟨g, o, e, Nat.lt_of_lt_of_le hg hb.size, fun i hi => range_on hb hg (hx i hi)⟩
theorem RdT.four {t : TI} {w : World} {g o : Nat} (h : w.rangeAt g o t.cells) : w.cell? ⟨g, o, none⟩ = some (.int .u8 t.k) ∧ w.cell? ⟨g, o + 1, none⟩ = some (.int .i64 t.p) ∧ w.cell? ⟨g, o + 2, none⟩ = some (.string t.text) ∧ w.cell? ⟨g, o + 3, none⟩ = some (.float .f64 t.num) :=
  ⟨h 0 _ rfl, h 1 _ rfl, h 2 _ rfl, h 3 _ rfl⟩
theorem tab_on {w w1 : World} (h : Tab w) (hb : Below w.heap.size w w1) : Tab w1 :=
  Joins.tab_stays (B := w.heap.size) (show Tryd.prog.globalNamed "internal/strconv.uint64pow10" = some 2 by kernel_rfl) h hb (Nat.le_refl _)
theorem bld_on {B b : Nat} {l : List UInt8} {w w1 : World} (h : Bld B b l w) (hb : Below w.heap.size w w1) : Bld B b l w1 := by
  have key : ∀ p, Lib.BuilderAt 43 5 B b p (Lib.byteCells l) w → Lib.BuilderAt 43 5 B b p (Lib.byteCells l) w1 := by
    rintro p h
    have hlt := h.lt
    obtain ⟨h1, v, h2, h3, h4⟩ := h
    refine ⟨h1, v, by rw [hb.block b hlt]; exact h2, ?_, h4⟩
    exact h3.kept (row := none) ⟨hb.os, hb.tape, hb.output, hb.size, fun k hk _ => hb.block k hk⟩ (by cases v.ownBlock <;> simp)
  rcases h with h | h
  · exact Or.inl (key _ h)
  · exact Or.inr (key _ h)

/-! ### what is refused at once -/

def TextQ (ts : List TI) (w : World) (e : Ending) (w' : World) : Prop := e = .returned (.tuple #[.string ⟨(writeR ts).1.toArray⟩, .int .i64 (writeR ts).2]) ∧ Below w.heap.size w w'
theorem textQ_of {ts : List TI} {w : World} {l : List UInt8} {k : Int} (h : writeR ts = (l, k)) {e : Ending} {w' : World} (he : e = .returned (.tuple #[.string ⟨l.toArray⟩, .int .i64 k])) (hb : Below w.heap.size w w') : TextQ ts w e w' := by
  unfold TextQ; rw [h]; exact ⟨he, hb⟩

set_option maxRecDepth 100000 in
theorem lexText_none (c : Nat) (pa : Option Addr) (w : World) : Calls Tryd.prog 9 #[.slice pa 0 c] w (TextQ [] w) := by
  go_enter Tryd.func9, Tryd.ntmps9
  go_wp2_with fail
  go_ret2
  exact textQ_of (l := []) (k := 5) rfl rfl (Below.refl _ _)

set_option maxRecDepth 100000 in
theorem lexText_many (ts : List TI) (h : 16385 < ts.length) (hl : ts.length ≤ maxLen) (c : Nat) (pa : Option Addr) (w : World) : Calls Tryd.prog 9 #[.slice pa ts.length c] w (TextQ ts w) := by
  have e : writeR ts = ([], 4) := by unfold writeR; rw [if_pos h]
  have hx : (16384 : Int) < (ts.length : Int) - 1 := by omega
  unfold maxLen at hl
  go_enter Tryd.func9, Tryd.ntmps9
  go_wp2_with fail
  go_ret2
  exact textQ_of e rfl (Below.refl _ _)

theorem end_none {ts : List TI} (h0 : 0 < ts.length) (h1 : ts.length ≤ 16385) (h : endB ts[ts.length - 1] = false) : writeR ts = ([], 5) := by
  unfold writeR
  have hg : ts.getLast? = some ts[ts.length - 1] := by rw [List.getLast?_eq_getElem?, List.getElem?_eq_getElem]
  rw [if_neg (by omega), if_pos (by rw [hg]; exact h)]

set_option maxHeartbeats 2000000 in
set_option maxRecDepth 100000 in
theorem lexText_end (ts : List TI) (m : Nat) (hm : ts.length = m + 1) (h1 : ts.length ≤ 16385) (g o c : Nat) (w : World) (hr : w.rangeAt g (o + m * 4) (ts[m]'(by omega)).cells) (h : endB (ts[m]'(by omega)) = false) : Calls Tryd.prog 9 #[.slice (some ⟨g, o, none⟩) (m + 1) c] w (TextQ ts w) := by
  have e : writeR ts = ([], 5) := end_none (by omega) h1 (by rw [show ts[ts.length - 1]'(by omega) = ts[m]'(by omega) by congr 1; omega]; exact h)
  have He := hidB e
  clear e
  obtain ⟨r0, r1, r2, r3⟩ := RdT.four hr
  clear hr
  unfold endB at h
  have hm4 : m ≤ 16384 := by omega
  clear h1
  generalize (ts[m]'(by omega)) = t at *
  obtain ⟨k, p, s, x⟩ := t
  simp only at r0 r1 r2 r3 h
  by_cases hk : k = 0
  · subst hk
    by_cases hs : s.toList.isEmpty = true
    · have hx : (FloatKind.f64.format.order x 0 != some .eq) = true := by
        rw [isE] at hs
        rw [hs] at h
        unfold eq0 at h
        simpa [bne] using h
      clear h
      go_enter Tryd.func9, Tryd.ntmps9
      go_wp2_with fail
      go_ret2
      exact textQ_of He.out rfl (Below.refl _ _)
    · have hs2 : s.toList.isEmpty = false := by simpa using hs
      clear h hs
      go_enter Tryd.func9, Tryd.ntmps9
      go_wp2_with fail
      go_ret2
      exact textQ_of He.out rfl (Below.refl _ _)
  · have hk2 : (k != 0) = true := by rw [bne_iff_ne]; exact hk
    clear h hk
    go_enter Tryd.func9, Tryd.ntmps9
    go_wp2_with fail
    go_ret2
    exact textQ_of He.out rfl (Below.refl _ _)

end Go.Proofs.YtkomjmgmancinaaDoor
