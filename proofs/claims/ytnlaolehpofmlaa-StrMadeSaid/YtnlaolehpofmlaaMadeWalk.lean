/-
  The walk of the law StrMade: Join and Repeat, both sides.
-/
import Derived.Test.YtnlaolehpofmlaaShelf
import Derived.Test.YtnlaolehpofmlaaBuilder
import Derived.Test.YtnlaolehpofmlaaLaw
import Derived.IntWalk
namespace Go.Proofs.Ytnlaolehpofmlaa
open Go.RowKit

def joinR (a b : ByteArray) : ByteArray × Int := if 4096 < a.size + b.size then (⟨#[]⟩, 20) else (a ++ b, 0)

set_option maxRecDepth 100000 in
theorem join_any (a b : ByteArray) (ha : a.size ≤ 9000) (hb : b.size ≤ 9000) (w : World) : Calls Try.prog 10 #[.string a, .string b] w fun e w' => e = .returned (.tuple #[.string (joinR a b).1, .int .i64 (joinR a b).2]) ∧ w = w' := by
  by_cases h : 4096 < a.size + b.size
  · have h1 : (joinR a b) = (⟨#[]⟩, 20) := if_pos h
    rw [h1]
    clear h1
    go_enter Try.func10, Try.ntmps10
    go_wp2_with fail
    go_ret2
    exact ⟨rfl, rfl⟩
  · have h1 : (joinR a b) = (a ++ b, 0) := if_neg h
    rw [h1]
    clear h1
    go_enter Try.func10, Try.ntmps10
    go_wp2_with fail
    go_ret2
    exact ⟨rfl, rfl⟩

set_option maxRecDepth 100000 in
theorem refJoin_any (a b : ByteArray) (ha : a.size ≤ 9000) (hb : b.size ≤ 9000) (w : World) : Calls Try.prog 11 #[.string a, .string b] w fun e w' => e = .returned (.tuple #[.string (joinR a b).1, .int .i64 (joinR a b).2]) ∧ w = w' := by
  by_cases h : 4096 < a.size + b.size
  · have h1 : (joinR a b) = (⟨#[]⟩, 20) := if_pos h
    rw [h1]
    clear h1
    go_enter Try.func11, Try.ntmps11
    go_wp2_with fail
    go_ret2
    exact ⟨rfl, rfl⟩
  · have h1 : (joinR a b) = (a ++ b, 0) := if_neg h
    rw [h1]
    clear h1
    go_enter Try.func11, Try.ntmps11
    go_wp2_with fail
    go_ret2
    exact ⟨rfl, rfl⟩

def repR (s : ByteArray) (n : Int) : ByteArray × Int :=
  if n < 0 then (⟨#[]⟩, 2) else if s.size = 0 then (⟨#[]⟩, 0) else if 4096 < n.toNat * s.size then (⟨#[]⟩, 20) else (⟨(Lib.repeatL s.data.toList n.toNat).toArray⟩, 0)

theorem rep_neg {s : ByteArray} {n : Int} (h : n < 0) : repR s n = (⟨#[]⟩, 2) := if_pos h
theorem rep_none {s : ByteArray} {n : Int} (h : 0 ≤ n) (h0 : s.size = 0) : repR s n = (⟨#[]⟩, 0) := by unfold repR; rw [if_neg (by omega), if_pos h0]
theorem rep_big {s : ByteArray} {n : Int} (h : 0 ≤ n) (h0 : s.size ≠ 0) (hb : 4096 < n.toNat * s.size) : repR s n = (⟨#[]⟩, 20) := by unfold repR; rw [if_neg (by omega), if_neg h0, if_pos hb]
theorem rep_ok {s : ByteArray} {n : Int} (h : 0 ≤ n) (h0 : s.size ≠ 0) (hb : ¬ 4096 < n.toNat * s.size) : repR s n = (⟨(Lib.repeatL s.data.toList n.toNat).toArray⟩, 0) := by unfold repR; rw [if_neg (by omega), if_neg h0, if_neg hb]

theorem toList_data (t : ByteArray) : t.toList = t.data.toList := by
  rw [ByteArray.toList_eq]

def RepOk (s : ByteArray) (n : Int) (w : World) (e : Ending) (w' : World) : Prop := e = .returned (.tuple #[.string (repR s n).1, .int .i64 (repR s n).2]) ∧ Below w.heap.size w w'

set_option maxRecDepth 100000 in
theorem repeat_any (s : ByteArray) (n : Int) (hs : s.size ≤ 9000) (h1 : -9223372036854775808 ≤ n) (h2 : n < 9223372036854775808) (w : World) : Calls Try.prog 12 #[.string s, .int .i64 n] w (RepOk s n w) := by
  by_cases hn : n < 0
  · unfold RepOk
    rw [rep_neg hn]
    go_enter Try.func12, Try.ntmps12
    go_wp2_with fail
    go_ret2
    exact ⟨rfl, Below.refl _ _⟩
  · have hn' : 0 ≤ n := by omega
    by_cases h0 : s.size = 0
    · unfold RepOk
      rw [rep_none hn' h0]
      have hE : s.toList.isEmpty = true := by rw [toList_data]; exact List.isEmpty_iff_length_eq_zero.2 (by simpa using h0)
      go_enter Try.func12, Try.ntmps12
      go_wp2_with fail
      go_ret2
      exact ⟨rfl, Below.refl _ _⟩
    · have hE : s.toList.isEmpty = false := by rw [toList_data, Bool.eq_false_iff, ne_eq, List.isEmpty_iff_length_eq_zero]; simpa using h0
      by_cases hb : 4096 < n.toNat * s.size
      · unfold RepOk
        rw [rep_big hn' h0 hb]
        have hd : decide (4096 / (s.size : Int) < n) = true := by
          rw [decide_eq_true_eq]
          apply Int.ediv_lt_of_lt_mul (by omega)
          have : ((n.toNat * s.size : Nat) : Int) = n * (s.size : Int) := by rw [Int.natCast_mul, Int.toNat_of_nonneg hn']
          omega
        go_enter Try.func12, Try.ntmps12
        go_wp2_with fail
        go_ret2
        exact ⟨rfl, Below.refl _ _⟩
      · have hn1 : n.toNat ≤ 4096 := by
          have : n.toNat * 1 ≤ n.toNat * s.size := Nat.mul_le_mul_left _ (by omega)
          omega
        unfold RepOk
        rw [rep_ok hn' h0 hb]
        have hd : decide (4096 / (s.size : Int) < n) = false := by
          rw [decide_eq_false_iff_not, Int.not_lt, Int.le_ediv_iff_mul_le (by omega)]
          have : ((n.toNat * s.size : Nat) : Int) = n * (s.size : Int) := by rw [Int.natCast_mul, Int.toNat_of_nonneg hn']
          omega
        have R : Hid (∀ W, Calls Try.prog 23 #[.string s, .int .i64 n] W fun e w' => e = .returned (.string ⟨(Lib.repeatL s.data.toList n.toNat).toArray⟩) ∧ Below W.heap.size W w') := hidB (fun W => by
          obtain ⟨c, rfl⟩ := Int.eq_ofNat_of_zero_le hn'
          simp only [Int.toNat_natCast] at *
          rcases Nat.lt_or_ge c 2 with hc | hc
          · rcases (by omega : c = 0 ∨ c = 1) with rfl | rfl
            · refine (Try.strings_Repeat_zero s W).mono ?_; rintro e w' ⟨rfl, rfl⟩; exact ⟨rfl, Below.refl _ _⟩
            · refine (Try.strings_Repeat_one s W).mono ?_; rintro e w' ⟨rfl, rfl⟩; exact ⟨by rw [Lib.repeatL_one], Below.refl _ _⟩
          · exact Try.strings_Repeat_main s c W hc (by omega) (by rw [Nat.mul_comm]; omega) (by omega))
        clear hb
        go_enter Try.func12, Try.ntmps12
        go_wp2_with fail
        refine (R.out _).mono ?_; rintro e w1 ⟨rfl, b1⟩
        have B1 := hidB b1; clear b1
        go_wp2_with fail
        go_ret2
        exact ⟨rfl, B1.out⟩

theorem repL_snoc (l : List UInt8) (k : Nat) : Lib.repeatL l (k + 1) = Lib.repeatL l k ++ l := by rw [Lib.repeatL_add, Lib.repeatL_one]

set_option maxRecDepth 100000 in
theorem refRepeat_any (s : ByteArray) (n : Int) (hs : s.size ≤ 9000) (h1 : -9223372036854775808 ≤ n) (h2 : n < 9223372036854775808) (w : World) : Calls Try.prog 13 #[.string s, .int .i64 n] w (RepOk s n w) := by
  by_cases hn : n < 0
  · unfold RepOk
    rw [rep_neg hn]
    go_enter Try.func13, Try.ntmps13
    go_wp2_with fail
    go_ret2
    exact ⟨rfl, Below.refl _ _⟩
  · have hn' : 0 ≤ n := by omega
    by_cases h0 : s.size = 0
    · unfold RepOk
      rw [rep_none hn' h0]
      have hE : s.toList.isEmpty = true := by rw [toList_data]; exact List.isEmpty_iff_length_eq_zero.2 (by simpa using h0)
      go_enter Try.func13, Try.ntmps13
      go_wp2_with fail
      go_ret2
      exact ⟨rfl, Below.refl _ _⟩
    · have hE : s.toList.isEmpty = false := by rw [toList_data, Bool.eq_false_iff, ne_eq, List.isEmpty_iff_length_eq_zero]; simpa using h0
      go_enter Try.func13, Try.ntmps13
      go_wp2_with fail
      go_loop [6, 7] (fun v i => ∃ k : Nat, k ≤ n.toNat ∧ k * s.size ≤ 4096 ∧ i = .int .i64 k ∧ ∃ b : ByteArray, v = .string b ∧ b.data.toList = Lib.repeatL s.data.toList k) (fun _ i => n.toNat - (intOf i).toNat)
      case atStart => exact ⟨0, by omega, by omega, rfl, ⟨#[]⟩, rfl, rfl⟩
      case round =>
        obtain ⟨k, hk, hks, rfl, b, rfl, hb⟩ := hrel
        have hbs : b.size = k * s.size := by
          have e : b.size = b.data.toList.length := by simp
          rw [e, hb, Lib.repeatL_length]; simp
        have hk1 : (k + 1) * s.size = k * s.size + s.size := by rw [Nat.add_mul, Nat.one_mul]
        have Hb := hidB hb
        have Hbs := hidB hbs
        have Hk1 := hidB hk1
        have hb2 : b.size ≤ 4096 := by omega
        clear hb hbs hk1
        by_cases hlt : (k : Int) < n
        · have hc : (b ++ s).data.toList = Lib.repeatL s.data.toList (k + 1) := by
            rw [repL_snoc]
            have e : (b ++ s).data.toList = b.data.toList ++ s.data.toList := by simp
            rw [e, Hb.out]
          have Hc := hidB hc
          clear hc
          by_cases hbig : 4096 < b.size + s.size
          · have hR : repR s n = (⟨#[]⟩, 20) := rep_big hn' h0 (by
              have : (k + 1) * s.size ≤ n.toNat * s.size := Nat.mul_le_mul_right _ (by omega)
              have := Hk1.out; have := Hbs.out
              omega)
            have HR := hidB hR
            clear hR
            go_wp2_with fail
            go_ret2
            exact ⟨by rw [HR.out]; rfl, Below.refl _ _⟩
          · have hk2 : (k + 1) * s.size ≤ 4096 := by rw [Hk1.out, ← Hbs.out]; omega
            have Hk2 := hidB hk2
            clear hk2
            go_wp2_with fail
            exact ⟨⟨k + 1, by omega, Hk2.out, by go_num, _, rfl, Hc.out⟩, by simp [intOf]; omega⟩
        · obtain rfl : (k : Int) = n := by omega
          have hR : repR s k = (⟨(Lib.repeatL s.data.toList k).toArray⟩, 0) := rep_ok hn' h0 (by simp only [Int.toNat_natCast]; omega)
          have hbb : b = ⟨(Lib.repeatL s.data.toList k).toArray⟩ := by rw [← Hb.out]
          rw [← hbb] at hR
          have HR := hidB hR
          clear hR hbb
          go_wp2_with fail
          go_ret2
          exact ⟨by rw [HR.out]; rfl, Below.refl _ _⟩

set_option maxHeartbeats 1000000 in
set_option maxRecDepth 100000 in
theorem law_made (a : ByteArray) (ha : a.size ≤ maxLen) (b : ByteArray) (hb : b.size ≤ maxLen) (n : Int) (h0 : (Lit.int .i64 n).wf = true) (w : World) : Calls Try.prog 4 #[.string a, .string b, .int .i64 n] w fun e w' => e = .returned (.bool true) ∧ Below w.heap.size w w' := by
  unfold maxLen at ha hb
  obtain ⟨h1, h2⟩ : -9223372036854775808 ≤ n ∧ n < 9223372036854775808 := by
    simp [Lit.wf, IntKind.min, IntKind.max, IntKind.signed, IntKind.bits] at h0
    omega
  clear h0
  by_cases g1 : 9000 < a.size
  · go_enter Try.func4, Try.ntmps4
    go_wp2_with fail
    go_ret
    exact ⟨rfl, Below.refl _ _⟩
  · by_cases g2 : 9000 < b.size
    · go_enter Try.func4, Try.ntmps4
      go_wp2_with fail
      go_ret
      exact ⟨rfl, Below.refl _ _⟩
    · have J := hidB (fun W => join_any a b (by omega) (by omega) W)
      have I := hidB (fun W => refJoin_any a b (by omega) (by omega) W)
      have R := hidB (fun W => repeat_any a n (by omega) h1 h2 W)
      have Q := hidB (fun W => refRepeat_any a n (by omega) h1 h2 W)
      go_enter Try.func4, Try.ntmps4
      go_wp2_with fail
      refine (J.out _).mono ?_; rintro e w1 ⟨rfl, rfl⟩
      go_wp2_with fail
      refine (I.out _).mono ?_; rintro e w1 ⟨rfl, rfl⟩
      go_wp2_with fail
      refine (R.out _).mono ?_; rintro e w1 ⟨rfl, b1⟩
      have B1 := hidB b1; clear b1
      go_wp2_with fail
      refine (Q.out _).mono ?_; rintro e w2 ⟨rfl, b2⟩
      have B2 := hidB b2; clear b2
      go_wp2_with fail
      go_ret
      exact ⟨rfl, grow B1.out B2.out⟩

end Go.Proofs.Ytnlaolehpofmlaa
