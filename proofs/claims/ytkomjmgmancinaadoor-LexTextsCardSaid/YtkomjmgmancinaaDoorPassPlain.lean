/-
  Plain laws on what is passed over ahead of a token: places instead of rests.
-/
import Derived.Test.YtkomjmgmancinaaDoorTokensPlain
namespace Go.Proofs.YtkomjmgmancinaaDoor
open Go.RowKit

/-- Whoever cuts from a place comes to the other one with the same tokens. -/
def Reach (l : List UInt8) (a b : Nat) : Prop := ∀ (f : Nat) (acc : List Tk), l.length < a + f → ∃ f', l.length < b + f' ∧ lexGo f (l.drop a) a acc = lexGo f' (l.drop b) b acc
theorem Reach.refl (l : List UInt8) (a : Nat) : Reach l a a := fun f _ h => ⟨f, h, rfl⟩
theorem Reach.step {l : List UInt8} {a b n : Nat} (h : Reach l a b) (hb : b < l.length) (hh : headR (l.drop b) = .skip n) (hn : 0 < n) : Reach l a (b + n) := by
  intro f acc hf
  obtain ⟨f', h1, h2⟩ := h f acc hf
  obtain ⟨g, rfl⟩ : ∃ g, f' = g + 1 := ⟨f' - 1, by omega⟩
  refine ⟨g, by omega, ?_⟩
  rw [h2, lexGo_skip (by rw [List.length_drop]; omega) hh, List.drop_drop]

theorem drop_head {l : List UInt8} {k : Nat} (h : k < l.length) (h2 : 0 < (l.drop k).length) : (l.drop k)[0] = l[k] := by simp
theorem slash_two {l : List UInt8} {k : Nat} (d : UInt8) (h : k + 1 < l.length) : slash (l.drop k) d = (decide (l[k] = 47) && decide (l[k + 1] = d)) := by
  rw [List.drop_eq_getElem_cons (show k < l.length by omega), Bool.eq_iff_iff, slash_eq, Bool.and_eq_true, decide_eq_true_eq, decide_eq_true_eq, List.drop_eq_getElem_cons h, List.head?_cons, Option.some.injEq]
theorem slash_last {l : List UInt8} {k : Nat} (d : UInt8) (h : k < l.length) (h2 : l.length ≤ k + 1) : slash (l.drop k) d = false := by
  rw [Bool.eq_false_iff, ne_eq, List.drop_eq_getElem_cons h, slash_eq, List.drop_eq_nil_of_le h2]
  rintro ⟨_, h⟩; cases h

/-- How far a line goes, from a place. -/
def lineN (l : List UInt8) (j : Nat) : Nat := j + ((l.drop j).takeWhile (· != 10)).length
theorem line_more {l : List UInt8} {j : Nat} (h : j < l.length) (hc : l[j] ≠ 10) : lineN l j = lineN l (j + 1) := by
  unfold lineN
  rw [List.drop_eq_getElem_cons h, List.takeWhile_cons, if_pos (by simpa using hc), List.length_cons]; omega
theorem line_stop {l : List UInt8} {j : Nat} (h : j < l.length) (hc : l[j] = 10) : lineN l j = j := by
  unfold lineN
  rw [List.drop_eq_getElem_cons h, List.takeWhile_cons, if_neg (by simpa using hc)]; rfl
theorem line_end {l : List UInt8} {j : Nat} (h : l.length ≤ j) : lineN l j = j := by
  unfold lineN
  rw [List.drop_eq_nil_of_le h]; rfl
theorem line_skip {l : List UInt8} {k j : Nat} (hk : k < l.length) (hb : isBl l[k] = false) (hs : slash (l.drop k) 47 = true) (h : lineN l k = lineN l j) (hj : lineN l j = j) : headR (l.drop k) = .skip (j - k) ∧ k < j := by
  have h0 : 0 < (l.drop k).length := by rw [List.length_drop]; omega
  have hb' : isBl (l.drop k)[0] = false := by rw [drop_head hk]; exact hb
  have h2 := takeWhile_pos h0 hb'
  have h3 : k + ((l.drop k).takeWhile (· != 10)).length = j := by rw [← hj, ← h]; rfl
  refine ⟨?_, by omega⟩
  rw [headR_line h0 hb' hs]
  congr 1; omega

theorem occ2 {l : List UInt8} {j : Nat} (h : j + 1 < l.length) (a b : UInt8) : Lib.occAt l [a, b] j = (decide (l[j] = a) && decide (l[j + 1] = b)) := by
  unfold Lib.occAt
  rw [List.drop_eq_getElem_cons (show j < l.length by omega), List.isPrefixOf_cons_cons, List.drop_eq_getElem_cons h, List.isPrefixOf_cons_cons, List.isPrefixOf_nil_left, Bool.and_true, Bool.eq_iff_iff]
  simp only [Bool.and_eq_true, beq_iff_eq, decide_eq_true_eq]
  exact ⟨fun ⟨h1, h2⟩ => ⟨h1.symm, h2.symm⟩, fun ⟨h1, h2⟩ => ⟨h1.symm, h2.symm⟩⟩
theorem note_next {l : List UInt8} {k i : Nat} (h : Lib.NoOcc (l.drop (k + 2)) [42, 47] i) (hi : k + 2 + i + 1 < l.length) (hc : (decide (l[k + 2 + i] = 42) && decide (l[k + 2 + i + 1] = 47)) = false) : Lib.NoOcc (l.drop (k + 2)) [42, 47] (i + 1) := by
  refine h.succ ?_
  rw [occ2 (by rw [List.length_drop]; omega)]
  simp only [List.getElem_drop]
  exact hc
theorem note_hit {l : List UInt8} {k i : Nat} (hk : k < l.length) (hb : isBl l[k] = false) (hs : slash (l.drop k) 47 = false) (ht : slash (l.drop k) 42 = true) (h : Lib.NoOcc (l.drop (k + 2)) [42, 47] i) (hi : k + 2 + i + 1 < l.length) (h1 : l[k + 2 + i] = 42) (h2 : l[k + 2 + i + 1] = 47) : headR (l.drop k) = .skip (i + 4) := by
  have h0 : 0 < (l.drop k).length := by rw [List.length_drop]; omega
  have hb' : isBl (l.drop k)[0] = false := by rw [drop_head hk]; exact hb
  have hx : Lib.index (l.drop (k + 2)) [42, 47] = i := by
    refine Lib.index_hit h (by rw [List.length_drop]; omega) ?_
    rw [occ2 (by rw [List.length_drop]; omega)]
    simp only [List.getElem_drop]
    rw [decide_eq_true h1, decide_eq_true (show l[k + 2 + (i + 1)] = 47 from h2)]; rfl
  rw [headR_note h0 hb' hs ht, List.drop_drop, hx, if_pos (by omega), Int.toNat_natCast]
theorem note_none {l : List UInt8} {k i : Nat} (hk : k < l.length) (hb : isBl l[k] = false) (hs : slash (l.drop k) 47 = false) (ht : slash (l.drop k) 42 = true) (h : Lib.NoOcc (l.drop (k + 2)) [42, 47] i) (hi : l.length ≤ k + 2 + i + 1) : headR (l.drop k) = .unclosed := by
  have h0 : 0 < (l.drop k).length := by rw [List.length_drop]; omega
  have hb' : isBl (l.drop k)[0] = false := by rw [drop_head hk]; exact hb
  have hx : Lib.index (l.drop (k + 2)) [42, 47] = -1 := Lib.index_past (by simp) h (by rw [List.length_drop]; simp only [List.length_cons, List.length_nil]; omega)
  rw [headR_note h0 hb' hs ht, List.drop_drop, hx, if_neg (by decide)]
theorem blank_skip {l : List UInt8} {k : Nat} (hk : k < l.length) (hb : isBl l[k] = true) : headR (l.drop k) = .skip 1 :=
  headR_blank (by rw [List.length_drop]; omega) (by rw [drop_head hk]; exact hb)
theorem tok_here {l : List UInt8} {k : Nat} (hk : k < l.length) (hb : isBl l[k] = false) (hs : slash (l.drop k) 47 = false) (ht : slash (l.drop k) 42 = false) : headR (l.drop k) = .tok :=
  headR_tok (by rw [List.length_drop]; omega) (by rw [drop_head hk]; exact hb) hs ht

/-- What 'passed' answers. -/
def PassQ (l : List UInt8) (a : Nat) (w : World) (e : Ending) (w' : World) : Prop := ∃ (b : Nat) (ok : Bool), e = .returned (.tuple #[.int .i64 b, .bool ok]) ∧ w = w' ∧ b ≤ l.length ∧ Reach l a b ∧ (b < l.length → headR (l.drop b) = if ok then .tok else .unclosed) ∧ (ok = false → b < l.length) ∧ a ≤ b

end Go.Proofs.YtkomjmgmancinaaDoor
