/-
  The walk of the reference's May.
  Plain laws on what is passed over ahead of a token: places instead of rests.
  The walks of the reference's Word and Sign; what its token answers.
-/
import Derived.Test.YtkomjmgmancinaaDoorLxD
import Derived.Test.YtkomjmgmancinaaDoorLxR
import Derived.Test.YtkomjmgmancinaaDoorLxJ
import Derived.Test.YtkomjmgmancinaaDoorTokWalk2
import Derived.Test.YtkomjmgmancinaaDoorRefPlainWalk
import Derived.Test.YtkomjmgmancinaaDoorRefRead
namespace Go.Proofs.YtkomjmgmancinaaDoor
open Go.RowKit

theorem refMay_any (a : Nat) (w : World) :
    Calls Tryd.prog 63 #[.float .f64 a] w fun e w' => e = .returned (.bool (Fl.may a)) ∧ w = w' := by
  have h : ∀ i n : Bool, Fl.isW a = i → Fl.isNaN a = n → Calls Tryd.prog 63 #[.float .f64 a] w fun e w' => e = .returned (.bool (n || i)) ∧ w = w' := by
    intro i n hi hn
    have ha : (FloatKind.f64.format.order a a != some .eq) = n := by
      cases n
      · rw [ordE hn]; rfl
      · rw [ordN hn]; rfl
    clear hn
    have Hi := hid hi
    clear hi
    cases i <;> cases n
    all_goals
      go_enter Tryd.func63, Tryd.ntmps63
      go_wp2_with fail
      refine (whole_any a _).mono ?_; rintro e w' ⟨rfl, rfl⟩
      rw [Hi.out]
      go_wp2_with fail
      go_ret
      exact ⟨rfl, rfl⟩
  exact h _ _ rfl rfl

end Go.Proofs.YtkomjmgmancinaaDoor

namespace Go.Proofs.YtkomjmgmancinaaDoor
open Go.RowKit

/-- Whoever cuts from a place comes to the other one with the same tokens. -/
def Reach (l : List UInt8) (a b : Nat) : Prop := ∀ (f : Nat) (acc : List Tk), l.length < a + f → ∃ f', l.length < b + f' ∧ lexGo f (l.drop a) a acc = lexGo f' (l.drop b) b acc
theorem Reach.refl (l : List UInt8) (a : Nat) : Reach l a a := fun f _ h => ⟨f, h, rfl⟩
theorem Reach.step {l : List UInt8} {a b n : Nat} (h : Reach l a b) (hb : b < l.length) (hh : headR (l.drop b) = .skip n) (hn : 0 < n) : Reach l a (b + n) := by
  intro f acc hf
  obtain ⟨f', h1, h2⟩ := h f acc hf
  obtain ⟨g, rfl⟩ : ∃ g, f' = g + 1 := ⟨f' - 1, by omega⟩
  refine ⟨g, by omega, ?_⟩
  rw [h2, lexGo_skip (by rw [List.length_drop]; omega) hh, List.drop_drop]

theorem drop_head {l : List UInt8} {k : Nat} (h : k < l.length) (h2 : 0 < (l.drop k).length) : (l.drop k)[0] = l[k] := by simp
theorem slash_two {l : List UInt8} {k : Nat} (d : UInt8) (h : k + 1 < l.length) : slash (l.drop k) d = (decide (l[k] = 47) && decide (l[k + 1] = d)) := by
  rw [List.drop_eq_getElem_cons (show k < l.length by omega), Bool.eq_iff_iff, slash_eq, Bool.and_eq_true, decide_eq_true_eq, decide_eq_true_eq, List.drop_eq_getElem_cons h, List.head?_cons, Option.some.injEq]
theorem slash_last {l : List UInt8} {k : Nat} (d : UInt8) (h : k < l.length) (h2 : l.length ≤ k + 1) : slash (l.drop k) d = false := by
  rw [Bool.eq_false_iff, ne_eq, List.drop_eq_getElem_cons h, slash_eq, List.drop_eq_nil_of_le h2]
  rintro ⟨_, h⟩; cases h

/-- How far a line goes, from a place. -/
def lineN (l : List UInt8) (j : Nat) : Nat := j + ((l.drop j).takeWhile (· != 10)).length
theorem line_more {l : List UInt8} {j : Nat} (h : j < l.length) (hc : l[j] ≠ 10) : lineN l j = lineN l (j + 1) := by
  unfold lineN
  rw [List.drop_eq_getElem_cons h, List.takeWhile_cons, if_pos (by simpa using hc), List.length_cons]; omega
theorem line_stop {l : List UInt8} {j : Nat} (h : j < l.length) (hc : l[j] = 10) : lineN l j = j := by
  unfold lineN
  rw [List.drop_eq_getElem_cons h, List.takeWhile_cons, if_neg (by simpa using hc)]; rfl
theorem line_end {l : List UInt8} {j : Nat} (h : l.length ≤ j) : lineN l j = j := by
  unfold lineN
  rw [List.drop_eq_nil_of_le h]; rfl
theorem line_skip {l : List UInt8} {k j : Nat} (hk : k < l.length) (hb : isBl l[k] = false) (hs : slash (l.drop k) 47 = true) (h : lineN l k = lineN l j) (hj : lineN l j = j) : headR (l.drop k) = .skip (j - k) ∧ k < j := by
  have h0 : 0 < (l.drop k).length := by rw [List.length_drop]; omega
  have hb' : isBl (l.drop k)[0] = false := by rw [drop_head hk]; exact hb
  have h2 := takeWhile_pos h0 hb'
  have h3 : k + ((l.drop k).takeWhile (· != 10)).length = j := by rw [← hj, ← h]; rfl
  refine ⟨?_, by omega⟩
  rw [headR_line h0 hb' hs]
  congr 1; omega

theorem occ2 {l : List UInt8} {j : Nat} (h : j + 1 < l.length) (a b : UInt8) : Lib.occAt l [a, b] j = (decide (l[j] = a) && decide (l[j + 1] = b)) := by
  unfold Lib.occAt
  rw [List.drop_eq_getElem_cons (show j < l.length by omega), List.isPrefixOf_cons_cons, List.drop_eq_getElem_cons h, List.isPrefixOf_cons_cons, List.isPrefixOf_nil_left, Bool.and_true, Bool.eq_iff_iff]
  simp only [Bool.and_eq_true, beq_iff_eq, decide_eq_true_eq]
  exact ⟨fun ⟨h1, h2⟩ => ⟨h1.symm, h2.symm⟩, fun ⟨h1, h2⟩ => ⟨h1.symm, h2.symm⟩⟩
theorem note_next {l : List UInt8} {k i : Nat} (h : Lib.NoOcc (l.drop (k + 2)) [42, 47] i) (hi : k + 2 + i + 1 < l.length) (hc : (decide (l[k + 2 + i] = 42) && decide (l[k + 2 + i + 1] = 47)) = false) : Lib.NoOcc (l.drop (k + 2)) [42, 47] (i + 1) := by
  refine h.succ ?_
  rw [occ2 (by rw [List.length_drop]; omega)]
  simp only [List.getElem_drop]
  exact hc
theorem note_hit {l : List UInt8} {k i : Nat} (hk : k < l.length) (hb : isBl l[k] = false) (hs : slash (l.drop k) 47 = false) (ht : slash (l.drop k) 42 = true) (h : Lib.NoOcc (l.drop (k + 2)) [42, 47] i) (hi : k + 2 + i + 1 < l.length) (h1 : l[k + 2 + i] = 42) (h2 : l[k + 2 + i + 1] = 47) : headR (l.drop k) = .skip (i + 4) := by
  have h0 : 0 < (l.drop k).length := by rw [List.length_drop]; omega
  have hb' : isBl (l.drop k)[0] = false := by rw [drop_head hk]; exact hb
  have hx : Lib.index (l.drop (k + 2)) [42, 47] = i := by
    refine Lib.index_hit h (by rw [List.length_drop]; omega) ?_
    rw [occ2 (by rw [List.length_drop]; omega)]
    simp only [List.getElem_drop]
    rw [decide_eq_true h1, decide_eq_true (show l[k + 2 + (i + 1)] = 47 from h2)]; rfl
  rw [headR_note h0 hb' hs ht, List.drop_drop, hx, if_pos (by omega), Int.toNat_natCast]
theorem note_none {l : List UInt8} {k i : Nat} (hk : k < l.length) (hb : isBl l[k] = false) (hs : slash (l.drop k) 47 = false) (ht : slash (l.drop k) 42 = true) (h : Lib.NoOcc (l.drop (k + 2)) [42, 47] i) (hi : l.length ≤ k + 2 + i + 1) : headR (l.drop k) = .unclosed := by
  have h0 : 0 < (l.drop k).length := by rw [List.length_drop]; omega
  have hb' : isBl (l.drop k)[0] = false := by rw [drop_head hk]; exact hb
  have hx : Lib.index (l.drop (k + 2)) [42, 47] = -1 := Lib.index_past (by simp) h (by rw [List.length_drop]; simp only [List.length_cons, List.length_nil]; omega)
  rw [headR_note h0 hb' hs ht, List.drop_drop, hx, if_neg (by decide)]
theorem blank_skip {l : List UInt8} {k : Nat} (hk : k < l.length) (hb : isBl l[k] = true) : headR (l.drop k) = .skip 1 :=
  headR_blank (by rw [List.length_drop]; omega) (by rw [drop_head hk]; exact hb)
theorem tok_here {l : List UInt8} {k : Nat} (hk : k < l.length) (hb : isBl l[k] = false) (hs : slash (l.drop k) 47 = false) (ht : slash (l.drop k) 42 = false) : headR (l.drop k) = .tok :=
  headR_tok (by rw [List.length_drop]; omega) (by rw [drop_head hk]; exact hb) hs ht

/-- What 'passed' answers. -/
def PassQ (l : List UInt8) (a : Nat) (w : World) (e : Ending) (w' : World) : Prop := ∃ (b : Nat) (ok : Bool), e = .returned (.tuple #[.int .i64 b, .bool ok]) ∧ w = w' ∧ b ≤ l.length ∧ Reach l a b ∧ (b < l.length → headR (l.drop b) = if ok then .tok else .unclosed) ∧ (ok = false → b < l.length) ∧ a ≤ b

end Go.Proofs.YtkomjmgmancinaaDoor

namespace Go.Proofs.YtkomjmgmancinaaDoor
open Go.RowKit

set_option maxHeartbeats 2000000 in
set_option maxRecDepth 100000 in
theorem refWord_any (s : ByteArray) (hs : s.size ≤ 9223372036854775800) (w : World) : Calls Tryd.prog 16 #[.string s] w fun e w' => e = .returned (.bool (wordB s.data.toList)) ∧ w = w' := by
  by_cases h : s.size < 20
  · have C : Hid (Calls Tryd.prog 40 #[.string ⟨#[32, 98, 114, 101, 97, 107, 32, 99, 97, 115, 101, 32, 99, 97, 116, 99, 104, 32, 99, 108, 97, 115, 115, 32, 99, 111, 110, 115, 116, 32, 99, 111, 110, 116, 105, 110, 117, 101, 32, 100, 101, 98, 117, 103, 103, 101, 114, 32, 100, 101, 102, 97, 117, 108, 116, 32, 100, 101, 108, 101, 116, 101, 32, 100, 111, 32, 101, 108, 115, 101, 32, 101, 110, 117, 109, 32, 101, 120, 112, 111, 114, 116, 32, 101, 120, 116, 101, 110, 100, 115, 32, 102, 97, 108, 115, 101, 32, 102, 105, 110, 97, 108, 108, 121, 32, 102, 111, 114, 32, 102, 117, 110, 99, 116, 105, 111, 110, 32, 105, 102, 32, 105, 109, 112, 111, 114, 116, 32, 105, 110, 32, 105, 110, 115, 116, 97, 110, 99, 101, 111, 102, 32, 108, 101, 116, 32, 110, 101, 119, 32, 110, 117, 108, 108, 32, 114, 101, 116, 117, 114, 110, 32, 115, 117, 112, 101, 114, 32, 115, 119, 105, 116, 99, 104, 32, 116, 104, 105, 115, 32, 116, 104, 114, 111, 119, 32, 116, 114, 117, 101, 32, 116, 114, 121, 32, 116, 121, 112, 101, 111, 102, 32, 118, 97, 114, 32, 118, 111, 105, 100, 32, 119, 104, 105, 108, 101, 32, 119, 105, 116, 104, 32, 121, 105, 101, 108, 100, 32]⟩, .string s] w fun e w' => e = .returned (.bool (wordB s.data.toList)) ∧ w = w') := hidB (refAmong_any rowW s (by decide +kernel) (by omega) w)
    have hx : (s.size : Int) < 20 := by omega
    go_enter Tryd.func16, Tryd.ntmps16
    go_wp2_with fail
    refine C.out.mono ?_; rintro e w' ⟨rfl, rfl⟩
    go_wp2_with fail
    go_ret
    exact ⟨rfl, rfl⟩
  · have hb : wordB s.data.toList = false := by
      rw [Bool.eq_false_iff]; intro hh
      have := word_short hh
      rw [← ba_size] at this; exact h this
    rw [hb]
    have hx : ¬ (s.size : Int) < 20 := by omega
    clear hb
    go_enter Tryd.func16, Tryd.ntmps16
    go_wp2_with fail
    go_ret
    exact ⟨rfl, rfl⟩

set_option maxHeartbeats 2000000 in
set_option maxRecDepth 100000 in
theorem refSign_any (s : ByteArray) (hs : s.size ≤ 9223372036854775800) (w : World) : Calls Tryd.prog 18 #[.string s] w fun e w' => e = .returned (.bool (signB s.data.toList)) ∧ w = w' := by
  by_cases h : s.size < 4
  · have C : Hid (Calls Tryd.prog 40 #[.string ⟨#[32, 123, 32, 125, 32, 40, 32, 41, 32, 91, 32, 93, 32, 46, 32, 59, 32, 44, 32, 63, 32, 58, 32, 60, 32, 62, 32, 60, 61, 32, 62, 61, 32, 61, 61, 32, 33, 61, 32, 61, 61, 61, 32, 33, 61, 61, 32, 43, 32, 45, 32, 42, 32, 47, 32, 37, 32, 38, 32, 124, 32, 94, 32, 33, 32, 126, 32, 38, 38, 32, 124, 124, 32, 61, 32, 43, 61, 32, 45, 61, 32, 42, 61, 32, 47, 61, 32, 37, 61, 32, 60, 60, 32, 62, 62, 32, 62, 62, 62, 32]⟩, .string s] w fun e w' => e = .returned (.bool (signB s.data.toList)) ∧ w = w') := hidB (refAmong_any rowS s (by decide +kernel) (by omega) w)
    have hx : (s.size : Int) < 4 := by omega
    go_enter Tryd.func18, Tryd.ntmps18
    go_wp2_with fail
    refine C.out.mono ?_; rintro e w' ⟨rfl, rfl⟩
    go_wp2_with fail
    go_ret
    exact ⟨rfl, rfl⟩
  · have hb : signB s.data.toList = false := by
      rw [Bool.eq_false_iff]; intro hh
      have := sign_short hh
      rw [← ba_size] at this; exact h this
    rw [hb]
    have hx : ¬ (s.size : Int) < 4 := by omega
    clear hb
    go_enter Tryd.func18, Tryd.ntmps18
    go_wp2_with fail
    go_ret
    exact ⟨rfl, rfl⟩

/-- What the reference's 'token' answers at a place. -/
def TokAt (l : List UInt8) (p : Nat) (w : World) (e : Ending) (w' : World) : Prop := ∃ (a q : Int) (b : ByteArray) (c : Nat), e = .returned (.tuple #[.agg #[.int .u8 a, .int .i64 q, .string b, .float .f64 c], .int .i64 ((p + (tokR (l.drop p)).n : Nat)), .bool (tokR (l.drop p)).ok]) ∧
  ((tokR (l.drop p)).ok = true → a = (tokR (l.drop p)).k ∧ q = p ∧ b.data.toList = (tokR (l.drop p)).text ∧ Fl.Is c (tokR (l.drop p)).num) ∧ Below w.heap.size w w'
theorem tokAt_bad {l : List UInt8} {p : Nat} {w w' : World} {n : Nat} {n' : Int} (h : tokR (l.drop p) = .bad n) (hn : n' = ((p + n : Nat) : Int)) (a q : Int) (b : ByteArray) (c : Nat) (hb : Below w.heap.size w w') :
    TokAt l p w (.returned (.tuple #[.agg #[.int .u8 a, .int .i64 q, .string b, .float .f64 c], .int .i64 n', .bool false])) w' := by
  refine ⟨a, q, b, c, ?_, ?_, hb⟩
  · rw [h, hn]; rfl
  · rw [h]; intro e; cases e
theorem tokAt_ok {l : List UInt8} {p : Nat} {w w' : World} {t : TR} {n' : Int} (h : tokR (l.drop p) = t) (ht : t.ok = true) (hn : n' = ((p + t.n : Nat) : Int)) {a q : Int} {b : ByteArray} {c : Nat} (h1 : a = t.k) (hq : q = p) (h2 : b.data.toList = t.text) (h3 : Fl.Is c t.num) (hb : Below w.heap.size w w') :
    TokAt l p w (.returned (.tuple #[.agg #[.int .u8 a, .int .i64 q, .string b, .float .f64 c], .int .i64 n', .bool true])) w' := by
  refine ⟨a, q, b, c, ?_, ?_, hb⟩
  · rw [h, hn, ht]
  · rw [h]; exact fun _ => ⟨h1, hq, h2, h3⟩
theorem cut_data (s : ByteArray) (p n m : Nat) (h : m = p + n) : (s.extract p m).data.toList = (s.data.toList.drop p).take n := by
  rw [Lib.extract_data, h, Nat.add_sub_cancel_left]
theorem cut_size (s : ByteArray) (p m : Nat) : (s.extract p m).size ≤ s.size := by
  rw [ba_size, Lib.extract_data, List.length_take, List.length_drop, ← ba_size]; omega
theorem box_two (w : World) (o1 o2 : Obj) : Below w.heap.size w ((w.alloc o1).alloc o2) := (box_one w o1).alloc (by simp) _

end Go.Proofs.YtkomjmgmancinaaDoor
