/-
  The walks of Word and Sign, the program's and the reference's.
-/
import Derived.Test.YtkomjmgmancinaaDoorLexPlain
import Derived.Test.YtkomjmgmancinaaDoorBuilder
import Derived.Test.YtkomjmgmancinaaDoorShelf
import Derived.Test.YtkomjmgmancinaaDoorKit
import Derived.Deep.QuietTactic
import Derived.BigQuiet
import Derived.IntWalk
namespace Go.Proofs.YtkomjmgmancinaaDoor
open Go.RowKit

theorem below_drewL {B : Nat} {a w : World} (h : Below B a w) (q : Nat) : Below B a (w.drewN q) := ⟨h.os, h.tape, h.output, h.size, h.block⟩

/-- The library's variable MaxLen holds some number. -/
def Mx (W : World) : Prop := ∃ m, W.cell? ⟨0, 0, none⟩ = some (.int .i64 m)
theorem mx_below {W W' : World} (h : Mx W) (hb : Below W.heap.size W W') : Mx W' := by
  obtain ⟨m, hm⟩ := h
  refine ⟨m, ?_⟩
  rw [hb.cell (p := ⟨0, 0, none⟩) ?_]
  · exact hm
  · show 0 < W.heap.size
    rcases Nat.lt_or_ge 0 W.heap.size with h | h
    · exact h
    · exfalso
      simp only [World.cell?, Array.getElem?_eq_none h] at hm
      cases hm

def rowW : ByteArray := ⟨wordsL.toArray⟩
def rowS : ByteArray := ⟨signsL.toArray⟩

theorem isE (s : ByteArray) : s.toList.isEmpty = s.data.toList.isEmpty := by rw [ByteArray.toList_eq]

theorem contains_row (row : ByteArray) (hr : row.size < 4294967281) (t : ByteArray) (w : World) (h : Mx w) : Calls Tryd.prog 65 #[.string row, .string t] w fun e w' => e = .returned (.bool (Lib.contains row.data.toList t.data.toList)) ∧ w = w' := by
  obtain ⟨m, hm⟩ := h
  exact (Tryd.strings_Contains row t m w hr hm).mono fun e w' h => ⟨h.1, h.2.symm⟩

theorem blank_cat (s : ByteArray) : ((⟨#[32]⟩ : ByteArray) ++ s ++ ⟨#[32]⟩).data.toList = [32] ++ s.data.toList ++ [32] := by
  rw [ByteArray.data_append, ByteArray.data_append, Array.toList_append, Array.toList_append]

set_option maxRecDepth 100000 in
theorem among_any (row s : ByteArray) (hr : row.size < 4294967281) (hs : s.size ≤ 9223372036854775800) (w : World) (h : Mx w) : Calls Tryd.prog 39 #[.string row, .string s] w fun e w' => e = .returned (.bool (amongB row.data.toList s.data.toList)) ∧ w = w' := by
  have C1 : Hid (∀ W, Calls Tryd.prog 65 #[.string s, .string ⟨#[32]⟩] W fun e w' => e = .returned (.bool (Lib.contains s.data.toList [32])) ∧ W = w') := hidB (fun W => (Tryd.strings_Contains_one s 32 W).mono fun e w' h => ⟨h.1.trans (by first | rfl | (unfold Lib.contains; rw [Lib.index_one])), h.2.symm⟩)
  have C2 := hidB (contains_row row hr (⟨#[32]⟩ ++ s ++ ⟨#[32]⟩) w h)
  rw [blank_cat] at C2
  have hE := isE s
  unfold amongB
  cases h1 : s.data.toList.isEmpty
  · rw [h1] at hE
    clear h1
    cases h2 : Lib.contains s.data.toList [32]
    · rw [h2] at C1
      clear h2
      generalize Lib.contains row.data.toList ([32] ++ s.data.toList ++ [32]) = q at *
      go_enter Tryd.func39, Tryd.ntmps39
      go_wp2_with fail
      refine (C1.out _).mono ?_; rintro e w1 ⟨rfl, rfl⟩
      go_wp2_with fail
      refine C2.out.mono ?_; rintro e w1 ⟨rfl, rfl⟩
      go_wp2_with fail
      go_ret
      exact ⟨rfl, rfl⟩
    · rw [h2] at C1
      clear h2
      go_enter Tryd.func39, Tryd.ntmps39
      go_wp2_with fail
      refine (C1.out _).mono ?_; rintro e w1 ⟨rfl, rfl⟩
      go_wp2_with fail
      go_ret
      exact ⟨rfl, rfl⟩
  · rw [h1] at hE
    clear h1
    go_enter Tryd.func39, Tryd.ntmps39
    go_wp2_with fail
    go_ret
    exact ⟨rfl, rfl⟩

theorem wordP_any (s : ByteArray) (hs : s.size ≤ 9223372036854775800) (w : World) (h : Mx w) : Calls Tryd.prog 15 #[.string s] w fun e w' => e = .returned (.bool (wordB s.data.toList)) ∧ w = w' := by
  have C : Hid (Calls Tryd.prog 39 #[.string ⟨#[32, 98, 114, 101, 97, 107, 32, 99, 97, 115, 101, 32, 99, 97, 116, 99, 104, 32, 99, 108, 97, 115, 115, 32, 99, 111, 110, 115, 116, 32, 99, 111, 110, 116, 105, 110, 117, 101, 32, 100, 101, 98, 117, 103, 103, 101, 114, 32, 100, 101, 102, 97, 117, 108, 116, 32, 100, 101, 108, 101, 116, 101, 32, 100, 111, 32, 101, 108, 115, 101, 32, 101, 110, 117, 109, 32, 101, 120, 112, 111, 114, 116, 32, 101, 120, 116, 101, 110, 100, 115, 32, 102, 97, 108, 115, 101, 32, 102, 105, 110, 97, 108, 108, 121, 32, 102, 111, 114, 32, 102, 117, 110, 99, 116, 105, 111, 110, 32, 105, 102, 32, 105, 109, 112, 111, 114, 116, 32, 105, 110, 32, 105, 110, 115, 116, 97, 110, 99, 101, 111, 102, 32, 108, 101, 116, 32, 110, 101, 119, 32, 110, 117, 108, 108, 32, 114, 101, 116, 117, 114, 110, 32, 115, 117, 112, 101, 114, 32, 115, 119, 105, 116, 99, 104, 32, 116, 104, 105, 115, 32, 116, 104, 114, 111, 119, 32, 116, 114, 117, 101, 32, 116, 114, 121, 32, 116, 121, 112, 101, 111, 102, 32, 118, 97, 114, 32, 118, 111, 105, 100, 32, 119, 104, 105, 108, 101, 32, 119, 105, 116, 104, 32, 121, 105, 101, 108, 100, 32]⟩, .string s] w fun e w' => e = .returned (.bool (wordB s.data.toList)) ∧ w = w') := hidB (among_any rowW s (by decide +kernel) hs w h)
  go_enter Tryd.func15, Tryd.ntmps15
  go_wp2_with fail
  refine C.out.mono ?_; rintro e w1 ⟨rfl, rfl⟩
  go_wp2_with fail
  go_ret
  exact ⟨rfl, rfl⟩
theorem signP_any (s : ByteArray) (hs : s.size ≤ 9223372036854775800) (w : World) (h : Mx w) : Calls Tryd.prog 17 #[.string s] w fun e w' => e = .returned (.bool (signB s.data.toList)) ∧ w = w' := by
  have C : Hid (Calls Tryd.prog 39 #[.string ⟨#[32, 123, 32, 125, 32, 40, 32, 41, 32, 91, 32, 93, 32, 46, 32, 59, 32, 44, 32, 63, 32, 58, 32, 60, 32, 62, 32, 60, 61, 32, 62, 61, 32, 61, 61, 32, 33, 61, 32, 61, 61, 61, 32, 33, 61, 61, 32, 43, 32, 45, 32, 42, 32, 47, 32, 37, 32, 38, 32, 124, 32, 94, 32, 33, 32, 126, 32, 38, 38, 32, 124, 124, 32, 61, 32, 43, 61, 32, 45, 61, 32, 42, 61, 32, 47, 61, 32, 37, 61, 32, 60, 60, 32, 62, 62, 32, 62, 62, 62, 32]⟩, .string s] w fun e w' => e = .returned (.bool (signB s.data.toList)) ∧ w = w') := hidB (among_any rowS s (by decide +kernel) hs w h)
  go_enter Tryd.func17, Tryd.ntmps17
  go_wp2_with fail
  refine C.out.mono ?_; rintro e w1 ⟨rfl, rfl⟩
  go_wp2_with fail
  go_ret
  exact ⟨rfl, rfl⟩

end Go.Proofs.YtkomjmgmancinaaDoor
