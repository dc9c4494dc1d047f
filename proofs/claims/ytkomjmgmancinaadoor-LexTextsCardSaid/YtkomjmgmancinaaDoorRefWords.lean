/-
  The walks of the reference's Word and Sign; what its token answers.
-/
import Derived.Test.YtkomjmgmancinaaDoorRefRows
import Derived.Test.YtkomjmgmancinaaDoorTokWalk2
import Derived.Test.YtkomjmgmancinaaDoorRefPlainWalk
import Derived.Test.YtkomjmgmancinaaDoorRefRead
import Derived.Test.YtkomjmgmancinaaDoorRefMay
import Derived.Test.YtkomjmgmancinaaDoorPassPlain
namespace Go.Proofs.YtkomjmgmancinaaDoor
open Go.RowKit

set_option maxHeartbeats 2000000 in
set_option maxRecDepth 100000 in
theorem refWord_any (s : ByteArray) (hs : s.size ≤ 9223372036854775800) (w : World) : Calls Tryd.prog 16 #[.string s] w fun e w' => e = .returned (.bool (wordB s.data.toList)) ∧ w = w' := by
  by_cases h : s.size < 20
  · have C : Hid (Calls Tryd.prog 40 #[.string ⟨#[32, 98, 114, 101, 97, 107, 32, 99, 97, 115, 101, 32, 99, 97, 116, 99, 104, 32, 99, 108, 97, 115, 115, 32, 99, 111, 110, 115, 116, 32, 99, 111, 110, 116, 105, 110, 117, 101, 32, 100, 101, 98, 117, 103, 103, 101, 114, 32, 100, 101, 102, 97, 117, 108, 116, 32, 100, 101, 108, 101, 116, 101, 32, 100, 111, 32, 101, 108, 115, 101, 32, 101, 110, 117, 109, 32, 101, 120, 112, 111, 114, 116, 32, 101, 120, 116, 101, 110, 100, 115, 32, 102, 97, 108, 115, 101, 32, 102, 105, 110, 97, 108, 108, 121, 32, 102, 111, 114, 32, 102, 117, 110, 99, 116, 105, 111, 110, 32, 105, 102, 32, 105, 109, 112, 111, 114, 116, 32, 105, 110, 32, 105, 110, 115, 116, 97, 110, 99, 101, 111, 102, 32, 108, 101, 116, 32, 110, 101, 119, 32, 110, 117, 108, 108, 32, 114, 101, 116, 117, 114, 110, 32, 115, 117, 112, 101, 114, 32, 115, 119, 105, 116, 99, 104, 32, 116, 104, 105, 115, 32, 116, 104, 114, 111, 119, 32, 116, 114, 117, 101, 32, 116, 114, 121, 32, 116, 121, 112, 101, 111, 102, 32, 118, 97, 114, 32, 118, 111, 105, 100, 32, 119, 104, 105, 108, 101, 32, 119, 105, 116, 104, 32, 121, 105, 101, 108, 100, 32]⟩, .string s] w fun e w' => e = .returned (.bool (wordB s.data.toList)) ∧ w = w') := hidB (refAmong_any rowW s (by decide +kernel) (by omega) w)
    have hx : (s.size : Int) < 20 := by omega
    go_enter Tryd.func16, Tryd.ntmps16
    go_wp2_with fail
    refine C.out.mono ?_; rintro e w' ⟨rfl, rfl⟩
    go_wp2_with fail
    go_ret
    exact ⟨rfl, rfl⟩
  · have hb : wordB s.data.toList = false := by
      rw [Bool.eq_false_iff]; intro hh
      have := word_short hh
      rw [← ba_size] at this; exact h this
    rw [hb]
    have hx : ¬ (s.size : Int) < 20 := by omega
    clear hb
    go_enter Tryd.func16, Tryd.ntmps16
    go_wp2_with fail
    go_ret
    exact ⟨rfl, rfl⟩

set_option maxHeartbeats 2000000 in
set_option maxRecDepth 100000 in
theorem refSign_any (s : ByteArray) (hs : s.size ≤ 9223372036854775800) (w : World) : Calls Tryd.prog 18 #[.string s] w fun e w' => e = .returned (.bool (signB s.data.toList)) ∧ w = w' := by
  by_cases h : s.size < 4
  · have C : Hid (Calls Tryd.prog 40 #[.string ⟨#[32, 123, 32, 125, 32, 40, 32, 41, 32, 91, 32, 93, 32, 46, 32, 59, 32, 44, 32, 63, 32, 58, 32, 60, 32, 62, 32, 60, 61, 32, 62, 61, 32, 61, 61, 32, 33, 61, 32, 61, 61, 61, 32, 33, 61, 61, 32, 43, 32, 45, 32, 42, 32, 47, 32, 37, 32, 38, 32, 124, 32, 94, 32, 33, 32, 126, 32, 38, 38, 32, 124, 124, 32, 61, 32, 43, 61, 32, 45, 61, 32, 42, 61, 32, 47, 61, 32, 37, 61, 32, 60, 60, 32, 62, 62, 32, 62, 62, 62, 32]⟩, .string s] w fun e w' => e = .returned (.bool (signB s.data.toList)) ∧ w = w') := hidB (refAmong_any rowS s (by decide +kernel) (by omega) w)
    have hx : (s.size : Int) < 4 := by omega
    go_enter Tryd.func18, Tryd.ntmps18
    go_wp2_with fail
    refine C.out.mono ?_; rintro e w' ⟨rfl, rfl⟩
    go_wp2_with fail
    go_ret
    exact ⟨rfl, rfl⟩
  · have hb : signB s.data.toList = false := by
      rw [Bool.eq_false_iff]; intro hh
      have := sign_short hh
      rw [← ba_size] at this; exact h this
    rw [hb]
    have hx : ¬ (s.size : Int) < 4 := by omega
    clear hb
    go_enter Tryd.func18, Tryd.ntmps18
    go_wp2_with fail
    go_ret
    exact ⟨rfl, rfl⟩

/-- What the reference's 'token' answers at a place. -/
def TokAt (l : List UInt8) (p : Nat) (w : World) (e : Ending) (w' : World) : Prop := ∃ (a q : Int) (b : ByteArray) (c : Nat), e = .returned (.tuple #[.agg #[.int .u8 a, .int .i64 q, .string b, .float .f64 c], .int .i64 ((p + (tokR (l.drop p)).n : Nat)), .bool (tokR (l.drop p)).ok]) ∧
  ((tokR (l.drop p)).ok = true → a = (tokR (l.drop p)).k ∧ q = p ∧ b.data.toList = (tokR (l.drop p)).text ∧ Fl.Is c (tokR (l.drop p)).num) ∧ Below w.heap.size w w'
theorem tokAt_bad {l : List UInt8} {p : Nat} {w w' : World} {n : Nat} {n' : Int} (h : tokR (l.drop p) = .bad n) (hn : n' = ((p + n : Nat) : Int)) (a q : Int) (b : ByteArray) (c : Nat) (hb : Below w.heap.size w w') :
    TokAt l p w (.returned (.tuple #[.agg #[.int .u8 a, .int .i64 q, .string b, .float .f64 c], .int .i64 n', .bool false])) w' := by
  refine ⟨a, q, b, c, ?_, ?_, hb⟩
  · rw [h, hn]; rfl
  · rw [h]; intro e; cases e
theorem tokAt_ok {l : List UInt8} {p : Nat} {w w' : World} {t : TR} {n' : Int} (h : tokR (l.drop p) = t) (ht : t.ok = true) (hn : n' = ((p + t.n : Nat) : Int)) {a q : Int} {b : ByteArray} {c : Nat} (h1 : a = t.k) (hq : q = p) (h2 : b.data.toList = t.text) (h3 : Fl.Is c t.num) (hb : Below w.heap.size w w') :
    TokAt l p w (.returned (.tuple #[.agg #[.int .u8 a, .int .i64 q, .string b, .float .f64 c], .int .i64 n', .bool true])) w' := by
  refine ⟨a, q, b, c, ?_, ?_, hb⟩
  · rw [h, hn, ht]
  · rw [h]; exact fun _ => ⟨h1, hq, h2, h3⟩
theorem cut_data (s : ByteArray) (p n m : Nat) (h : m = p + n) : (s.extract p m).data.toList = (s.data.toList.drop p).take n := by
  rw [Lib.extract_data, h, Nat.add_sub_cancel_left]
theorem cut_size (s : ByteArray) (p m : Nat) : (s.extract p m).size ≤ s.size := by
  rw [ba_size, Lib.extract_data, List.length_take, List.length_drop, ← ba_size]; omega
theorem box_two (w : World) (o1 o2 : Obj) : Below w.heap.size w ((w.alloc o1).alloc o2) := (box_one w o1).alloc (by simp) _

end Go.Proofs.YtkomjmgmancinaaDoor
