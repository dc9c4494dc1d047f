/-
  The walks of Join and Repeat.
-/
import Derived.Test.YtnlaolehpofmlaaDoorShelf
import Derived.Test.YtnlaolehpofmlaaDoorBuilder
import Derived.IntWalk
namespace Go.Proofs.YtnlaolehpofmlaaDoor
open Go.RowKit

def joinR (a b : ByteArray) : ByteArray × Int := if 4096 < a.size + b.size then (⟨#[]⟩, 20) else (a ++ b, 0)

set_option maxRecDepth 100000 in
theorem join_any (a b : ByteArray) (ha : a.size ≤ 9000) (hb : b.size ≤ 9000) (w : World) : Calls Tryd.prog 17 #[.string a, .string b] w fun e w' => e = .returned (.tuple #[.string (joinR a b).1, .int .i64 (joinR a b).2]) ∧ w = w' := by
  by_cases h : 4096 < a.size + b.size
  · have h1 : (joinR a b) = (⟨#[]⟩, 20) := if_pos h
    rw [h1]
    clear h1
    go_enter Tryd.func17, Tryd.ntmps17
    go_wp2_with fail
    go_ret2
    exact ⟨rfl, rfl⟩
  · have h1 : (joinR a b) = (a ++ b, 0) := if_neg h
    rw [h1]
    clear h1
    go_enter Tryd.func17, Tryd.ntmps17
    go_wp2_with fail
    go_ret2
    exact ⟨rfl, rfl⟩

def repR (s : ByteArray) (n : Int) : ByteArray × Int :=
  if n < 0 then (⟨#[]⟩, 2) else if s.size = 0 then (⟨#[]⟩, 0) else if 4096 < n.toNat * s.size then (⟨#[]⟩, 20) else (⟨(Lib.repeatL s.data.toList n.toNat).toArray⟩, 0)

theorem rep_neg {s : ByteArray} {n : Int} (h : n < 0) : repR s n = (⟨#[]⟩, 2) := if_pos h
theorem rep_none {s : ByteArray} {n : Int} (h : 0 ≤ n) (h0 : s.size = 0) : repR s n = (⟨#[]⟩, 0) := by unfold repR; rw [if_neg (by omega), if_pos h0]
theorem rep_big {s : ByteArray} {n : Int} (h : 0 ≤ n) (h0 : s.size ≠ 0) (hb : 4096 < n.toNat * s.size) : repR s n = (⟨#[]⟩, 20) := by unfold repR; rw [if_neg (by omega), if_neg h0, if_pos hb]
theorem rep_ok {s : ByteArray} {n : Int} (h : 0 ≤ n) (h0 : s.size ≠ 0) (hb : ¬ 4096 < n.toNat * s.size) : repR s n = (⟨(Lib.repeatL s.data.toList n.toNat).toArray⟩, 0) := by unfold repR; rw [if_neg (by omega), if_neg h0, if_neg hb]

theorem toList_data (t : ByteArray) : t.toList = t.data.toList := by
  rw [ByteArray.toList_eq]

def RepOk (s : ByteArray) (n : Int) (w : World) (e : Ending) (w' : World) : Prop := e = .returned (.tuple #[.string (repR s n).1, .int .i64 (repR s n).2]) ∧ Below w.heap.size w w'

set_option maxRecDepth 100000 in
theorem repeat_any (s : ByteArray) (n : Int) (hs : s.size ≤ 9000) (h1 : -9223372036854775808 ≤ n) (h2 : n < 9223372036854775808) (w : World) : Calls Tryd.prog 20 #[.string s, .int .i64 n] w (RepOk s n w) := by
  by_cases hn : n < 0
  · unfold RepOk
    rw [rep_neg hn]
    go_enter Tryd.func20, Tryd.ntmps20
    go_wp2_with fail
    go_ret2
    exact ⟨rfl, Below.refl _ _⟩
  · have hn' : 0 ≤ n := by omega
    by_cases h0 : s.size = 0
    · unfold RepOk
      rw [rep_none hn' h0]
      have hE : s.toList.isEmpty = true := by rw [toList_data]; exact List.isEmpty_iff_length_eq_zero.2 (by simpa using h0)
      go_enter Tryd.func20, Tryd.ntmps20
      go_wp2_with fail
      go_ret2
      exact ⟨rfl, Below.refl _ _⟩
    · have hE : s.toList.isEmpty = false := by rw [toList_data, Bool.eq_false_iff, ne_eq, List.isEmpty_iff_length_eq_zero]; simpa using h0
      by_cases hb : 4096 < n.toNat * s.size
      · unfold RepOk
        rw [rep_big hn' h0 hb]
        have hd : decide (4096 / (s.size : Int) < n) = true := by
          rw [decide_eq_true_eq]
          apply Int.ediv_lt_of_lt_mul (by omega)
          have : ((n.toNat * s.size : Nat) : Int) = n * (s.size : Int) := by rw [Int.natCast_mul, Int.toNat_of_nonneg hn']
          omega
        go_enter Tryd.func20, Tryd.ntmps20
        go_wp2_with fail
        go_ret2
        exact ⟨rfl, Below.refl _ _⟩
      · have hn1 : n.toNat ≤ 4096 := by
          have : n.toNat * 1 ≤ n.toNat * s.size := Nat.mul_le_mul_left _ (by omega)
          omega
        unfold RepOk
        rw [rep_ok hn' h0 hb]
        have hd : decide (4096 / (s.size : Int) < n) = false := by
          rw [decide_eq_false_iff_not, Int.not_lt, Int.le_ediv_iff_mul_le (by omega)]
          have : ((n.toNat * s.size : Nat) : Int) = n * (s.size : Int) := by rw [Int.natCast_mul, Int.toNat_of_nonneg hn']
          omega
        have R : Hid (∀ W, Calls Tryd.prog 32 #[.string s, .int .i64 n] W fun e w' => e = .returned (.string ⟨(Lib.repeatL s.data.toList n.toNat).toArray⟩) ∧ Below W.heap.size W w') := hidB (fun W => by
          obtain ⟨c, rfl⟩ := Int.eq_ofNat_of_zero_le hn'
          simp only [Int.toNat_natCast] at *
          rcases Nat.lt_or_ge c 2 with hc | hc
          · rcases (by omega : c = 0 ∨ c = 1) with rfl | rfl
            · refine (Tryd.strings_Repeat_zero s W).mono ?_; rintro e w' ⟨rfl, rfl⟩; exact ⟨rfl, Below.refl _ _⟩
            · refine (Tryd.strings_Repeat_one s W).mono ?_; rintro e w' ⟨rfl, rfl⟩; exact ⟨by rw [Lib.repeatL_one], Below.refl _ _⟩
          · exact Tryd.strings_Repeat_main s c W hc (by omega) (by rw [Nat.mul_comm]; omega) (by omega))
        clear hb
        go_enter Tryd.func20, Tryd.ntmps20
        go_wp2_with fail
        refine (R.out _).mono ?_; rintro e w1 ⟨rfl, b1⟩
        have B1 := hidB b1; clear b1
        go_wp2_with fail
        go_ret2
        exact ⟨rfl, B1.out⟩

end Go.Proofs.YtnlaolehpofmlaaDoor
