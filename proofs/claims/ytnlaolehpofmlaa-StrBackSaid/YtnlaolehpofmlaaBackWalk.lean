/-
  The walk of the law StrBack.
-/
import Derived.Test.YtnlaolehpofmlaaAliveWalk
import Derived.Test.YtnlaolehpofmlaaBackPlain
import Derived.Test.YtnlaolehpofmlaaPlainWalk
import Derived.Test.YtnlaolehpofmlaaQuoteWalk
import Derived.Test.YtnlaolehpofmlaaLaw
namespace Go.Proofs.Ytnlaolehpofmlaa
open Go.RowKit

/-- A quoted text, as a string. -/
structure Quoted (s q : ByteArray) : Prop where
  is : q.data.toList = quoted s.data.toList ++ [34]
  lo : 2 ≤ q.size
  hi : q.size ≤ 4 * s.size + 2
  print : ∀ k (h : k < q.size), 32 ≤ q[k].toNat ∧ q[k].toNat ≤ 126
  first : ∀ h : 0 < q.size, q[0].toNat = 34
  last : ∀ h : q.size - 1 < q.size, q[q.size - 1].toNat = 34
  inner : (q.extract 1 (q.size - 1)).data.toList = s.data.toList.flatMap qc

theorem quoted_is (s : ByteArray) : Quoted s ⟨(quoted s.data.toList ++ [34]).toArray⟩ := by
  generalize hq : (⟨(quoted s.data.toList ++ [34]).toArray⟩ : ByteArray) = q
  have is : q.data.toList = quoted s.data.toList ++ [34] := by rw [← hq]
  have hl : q.data.toList.length = q.size := by simp
  have hs : s.data.toList.length = s.size := by simp
  have hf := flat_length s.data.toList
  have hz : q.size = (s.data.toList.flatMap qc).length + 2 := by
    rw [← hl, is]; simp only [quoted, List.length_append, List.length_cons, List.length_nil]
  have hget : ∀ k (h : k < q.size), q[k] = (quoted s.data.toList ++ [34])[k]'(by rw [← is, hl]; exact h) := by
    intro k h
    have : q[k] = q.data.toList[k]'(by rw [hl]; exact h) := rfl
    rw [this]; simp only [is]
  refine ⟨is, by omega, by omega, ?_, ?_, ?_, ?_⟩
  · intro k h
    rw [hget k h]
    exact whole_print _ _ (List.getElem_mem _)
  · intro h
    rw [hget 0 h]; rfl
  · intro h
    rw [hget _ h]
    have : (quoted s.data.toList).length = q.size - 1 := by simp only [quoted, List.length_cons]; omega
    rw [List.getElem_append_right (by omega)]
    simp
  · have e : (q.extract 1 (q.size - 1)).data.toList = (q.data.toList.drop 1).take (q.size - 2) := by
      simp [List.extract_eq_take_drop]
      omega
    rw [e, is]
    show List.take _ (s.data.toList.flatMap qc ++ [34]) = _
    rw [show q.size - 2 = (s.data.toList.flatMap qc).length by omega, List.take_left']
    rfl

set_option maxHeartbeats 1000000 in
set_option maxRecDepth 100000 in
theorem law_back (s : ByteArray) (hs : s.size ≤ maxLen) (w : World) : Calls Try.prog 5 #[.string s] w fun e w' => e = .returned (.bool true) ∧ Below w.heap.size w w' := by
  have hm : s.size ≤ 9223372036854775807 := by unfold maxLen at hs; omega
  clear hs
  have A := hidB alive_any
  by_cases h1 : 4096 < s.size
  · go_enter Try.func5, Try.ntmps5
    go_wp2_with fail
    refine (A.out _).mono ?_; rintro e w1 ⟨rfl, b1⟩
    have B1 := hidB b1; clear b1
    go_wp2_with fail
    go_ret
    exact ⟨rfl, B1.out⟩
  · obtain ⟨q, hq⟩ : ∃ q, q = (⟨(quoted s.data.toList ++ [34]).toArray⟩ : ByteArray) := ⟨_, rfl⟩
    have Q : Hid (∀ W, Calls Try.prog 8 #[.string s] W fun e w' => e = .returned (.string q) ∧ Below W.heap.size W w') := hidB (fun W => by rw [hq]; exact quote_any s W (by omega))
    have q0 := quoted_is s
    rw [← hq] at q0
    clear hq
    have H := hidB q0
    have hlo := q0.lo
    have hhi := q0.hi
    have P : Hid (∀ W, Calls Try.prog 6 #[.string (q.extract 1 (q.size - 1))] W fun e w' => e = .returned (.tuple #[.string s, .int .i64 0, .int .i64 0]) ∧ Below W.heap.size W w') := hidB (fun W => by
      refine (plain_any _ W (by rw [ByteArray.size_extract]; omega)).mono ?_
      rintro e w' ⟨rfl, hb⟩
      refine ⟨?_, hb⟩
      rw [q0.inner, plain_quoted (by rw [show s.data.toList.length = s.size by simp]; omega)]
      rfl)
    clear q0
    go_enter Try.func5, Try.ntmps5
    go_wp2_with fail
    refine (A.out _).mono ?_; rintro e w1 ⟨rfl, b1⟩
    have B1 := hidB b1; clear b1
    go_wp2_with fail
    refine (Q.out _).mono ?_; rintro e w2 ⟨rfl, b2⟩
    have B2 := hidB (grow B1.out b2); clear b2
    go_wp2_with fail
    go_loop [5] (fun i => ∃ k : Nat, k ≤ q.size ∧ i = .int .i64 k) (fun i => q.size - (intOf i).toNat)
    case atStart => exact ⟨0, by omega, rfl⟩
    case round =>
      obtain ⟨k, hk, rfl⟩ := hrel
      by_cases hlt : k < q.size
      · obtain ⟨p1, p2⟩ := H.out.print k hlt
        have d1 : decide ((q[k].toNat : Int) < 32) = false := by rw [decide_eq_false_iff_not]; omega
        have d2 : decide (126 < (q[k].toNat : Int)) = false := by rw [decide_eq_false_iff_not]; omega
        go_wp2_with fail
        exact ⟨⟨k + 1, by omega, by go_num⟩, by simp [intOf]; omega⟩
      · obtain rfl : k = q.size := by omega
        have f1 := H.out.first (by omega)
        have f2 := H.out.last (by omega)
        have e1 : (1 : Int).toNat = 1 := rfl
        have e2 : ((q.size : Int) - 1).toNat = q.size - 1 := by omega
        go_wp2_with fail
        refine (P.out _).mono ?_; rintro e w3 ⟨rfl, b3⟩
        have B3 := hidB (grow B2.out b3); clear b3
        go_wp2_with fail
        go_ret
        exact ⟨rfl, B3.out⟩

end Go.Proofs.Ytnlaolehpofmlaa
