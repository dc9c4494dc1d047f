/-
  The walk of the reference's Quote.
-/
import Derived.Test.YtnlaolehpofmlaaQuoteWalk
namespace Go.Proofs.Ytnlaolehpofmlaa
open Go.RowKit

theorem sign_any (n : Int) (h0 : 0 ≤ n) (hn : n < 16) (w : World) : Calls Try.prog 22 #[.int .u8 n] w fun e w' => e = .returned (.string ⟨#[hexd n.toNat]⟩) ∧ w = w' := by
  have h : n = 0 ∨ n = 1 ∨ n = 2 ∨ n = 3 ∨ n = 4 ∨ n = 5 ∨ n = 6 ∨ n = 7 ∨ n = 8 ∨ n = 9 ∨ n = 10 ∨ n = 11 ∨ n = 12 ∨ n = 13 ∨ n = 14 ∨ n = 15 := by omega
  rcases h with rfl | rfl | rfl | rfl | rfl | rfl | rfl | rfl | rfl | rfl | rfl | rfl | rfl | rfl | rfl | rfl
  all_goals
    go_enter Try.func22, Try.ntmps22
    go_wp2
    go_ret
    exact ⟨rfl, rfl⟩

/-- A string value of those bytes. -/
def Txt (v : Value) (l : List UInt8) : Prop := ∃ b : ByteArray, v = .string b ∧ b.data.toList = l

theorem one_byte (s : ByteArray) (k : Nat) (h : k < s.size) : (s.extract k (k + 1)).data.toList = [s[k]] := by
  rw [Lib.extract_data, Nat.add_sub_cancel_left, List.drop_eq_getElem_cons (by simpa using h)]
  rfl

theorem txt_add {b c : ByteArray} {l m : List UInt8} (hb : b.data.toList = l) (hc : c.data.toList = m) : (b ++ c).data.toList = l ++ m := by
  rw [ByteArray.data_append, Array.toList_append, hb, hc]

theorem extract_size (s : ByteArray) (k : Nat) (h : k < s.size) : (s.extract k (k + 1)).size = 1 := by
  rw [ByteArray.size_extract]; omega

set_option maxHeartbeats 1000000 in
set_option maxRecDepth 100000 in
theorem refQuote_any (s : ByteArray) (w : World) (hs : s.size ≤ 9000) :
    Calls Try.prog 9 #[.string s] w fun e w' => e = .returned (.string ⟨(quoted s.data.toList ++ [34]).toArray⟩) ∧ w = w' := by
  go_enter Try.func9, Try.ntmps9
  go_wp2_with fail
  go_loop [3, 4] (fun v i => ∃ k : Nat, k ≤ s.size ∧ i = .int .i64 k ∧ Txt v (quoted (s.data.toList.take k))) (fun _ i => s.size - (intOf i).toNat)
  case atStart => exact ⟨0, by omega, rfl, ⟨#[34]⟩, rfl, rfl⟩
  case round =>
    obtain ⟨k, hk, rfl, b, rfl, hb⟩ := hrel
    have hql := quoted_length (s.data.toList.take k)
    have htl : (s.data.toList.take k).length ≤ k := List.length_take_le _ _
    have hsz : b.size ≤ 40000 := by
      have : b.size = b.data.toList.length := by simp
      rw [this, hb]; omega
    have Hb := hidB hb
    clear hb
    by_cases hlt : k < s.size
    · have h256 := (s[k]).toNat_lt
      have Hsn := hidB (quoted_snoc s.data.toList k (by simpa using hlt))
      rcases byte_kinds s[k] with ⟨h1, hq⟩ | ⟨h1, hq⟩ | ⟨h1, hq⟩ | ⟨h1, hq⟩ | ⟨h1, hq⟩ | ⟨h1, hq⟩ | ⟨h1, hq⟩ | ⟨h1, hq⟩
      · have Hq := hidB hq
        clear hq
        have he := one_byte s k hlt
        rw [show s[k] = 34 from UInt8.toNat_inj.1 h1] at he
        have hz := extract_size s k hlt
        have He := hidB he
        clear he
        go_wp2_with fail
        refine ⟨⟨k + 1, by omega, by go_num, _, rfl, ?_⟩, by simp [intOf]; omega⟩
        have e := Hsn.out
        rw [show s.data.toList[k] = s[k] from rfl, Hq.out] at e
        rw [e]
        simpa using txt_add (txt_add Hb.out (c := ⟨#[92]⟩) (m := [92]) rfl) He.out
      · have Hq := hidB hq
        clear hq
        have he := one_byte s k hlt
        rw [show s[k] = 92 from UInt8.toNat_inj.1 h1] at he
        have hz := extract_size s k hlt
        have He := hidB he
        clear he
        go_wp2_with fail
        refine ⟨⟨k + 1, by omega, by go_num, _, rfl, ?_⟩, by simp [intOf]; omega⟩
        have e := Hsn.out
        rw [show s.data.toList[k] = s[k] from rfl, Hq.out] at e
        rw [e]
        simpa using txt_add (txt_add Hb.out (c := ⟨#[92]⟩) (m := [92]) rfl) He.out
      · have Hq := hidB hq
        clear hq
        have he := one_byte s k hlt
        have hz := extract_size s k hlt
        have He := hidB he
        clear he
        go_wp2_with fail
        refine ⟨⟨k + 1, by omega, by go_num, _, rfl, ?_⟩, by simp [intOf]; omega⟩
        have e := Hsn.out
        rw [show s.data.toList[k] = s[k] from rfl, Hq.out] at e
        rw [e]
        exact txt_add Hb.out (c := ⟨#[92, 110]⟩) (m := [92, 110]) rfl
      · have Hq := hidB hq
        clear hq
        have he := one_byte s k hlt
        have hz := extract_size s k hlt
        have He := hidB he
        clear he
        go_wp2_with fail
        refine ⟨⟨k + 1, by omega, by go_num, _, rfl, ?_⟩, by simp [intOf]; omega⟩
        have e := Hsn.out
        rw [show s.data.toList[k] = s[k] from rfl, Hq.out] at e
        rw [e]
        exact txt_add Hb.out (c := ⟨#[92, 116]⟩) (m := [92, 116]) rfl
      · have Hq := hidB hq
        clear hq
        have he := one_byte s k hlt
        have hz := extract_size s k hlt
        have He := hidB he
        clear he
        go_wp2_with fail
        refine ⟨⟨k + 1, by omega, by go_num, _, rfl, ?_⟩, by simp [intOf]; omega⟩
        have e := Hsn.out
        rw [show s.data.toList[k] = s[k] from rfl, Hq.out] at e
        rw [e]
        exact txt_add Hb.out (c := ⟨#[92, 114]⟩) (m := [92, 114]) rfl
      · have Hq := hidB hq
        clear hq
        have he := one_byte s k hlt
        have hz := extract_size s k hlt
        have He := hidB he
        clear he
        obtain ⟨h1, h2, h3, h4⟩ := h1
        have n34 : ((s[k].toNat : Int) == 34) = false := by rw [beq_eq_false_iff_ne]; omega
        have n92 : ((s[k].toNat : Int) == 92) = false := by rw [beq_eq_false_iff_ne]; omega
        have n10 : ((s[k].toNat : Int) == 10) = false := by rw [beq_eq_false_iff_ne]; omega
        have n9 : ((s[k].toNat : Int) == 9) = false := by rw [beq_eq_false_iff_ne]; omega
        have n13 : ((s[k].toNat : Int) == 13) = false := by rw [beq_eq_false_iff_ne]; omega
        have d32 : decide ((s[k].toNat : Int) < 32) = true := by rw [decide_eq_true_eq]; omega
        go_wp2_with fail
        refine (sign_any (((s[k].toNat : Nat) : Int) / 16) (by omega) (by omega) _).mono ?_; rintro e w' ⟨rfl, rfl⟩
        rw [show (((s[k].toNat : Nat) : Int) / 16).toNat = s[k].toNat / 16 by omega]
        go_wp2_with fail
        refine (sign_any (((s[k].toNat : Nat) : Int) % 16) (by omega) (by omega) _).mono ?_; rintro e w' ⟨rfl, rfl⟩
        rw [show (((s[k].toNat : Nat) : Int) % 16).toNat = s[k].toNat % 16 by omega]
        go_wp2_with fail
        refine ⟨⟨k + 1, by omega, by go_num, _, rfl, ?_⟩, by simp [intOf]; omega⟩
        have e := Hsn.out
        rw [show s.data.toList[k] = s[k] from rfl, Hq.out] at e
        rw [e]
        simpa using txt_add (txt_add (txt_add Hb.out (c := ⟨#[92, 120]⟩) (m := [92, 120]) rfl) (c := ⟨#[hexd (s[k].toNat / 16)]⟩) (m := [hexd (s[k].toNat / 16)]) rfl) (c := ⟨#[hexd (s[k].toNat % 16)]⟩) (m := [hexd (s[k].toNat % 16)]) rfl
      · have Hq := hidB hq
        clear hq
        have he := one_byte s k hlt
        have hz := extract_size s k hlt
        have He := hidB he
        clear he
        have n34 : ((s[k].toNat : Int) == 34) = false := by rw [beq_eq_false_iff_ne]; omega
        have n92 : ((s[k].toNat : Int) == 92) = false := by rw [beq_eq_false_iff_ne]; omega
        have d32 : decide ((s[k].toNat : Int) < 32) = false := by rw [decide_eq_false_iff_not]; omega
        have d126 : decide (126 < (s[k].toNat : Int)) = true := by rw [decide_eq_true_eq]; omega
        go_wp2_with fail
        refine (sign_any (((s[k].toNat : Nat) : Int) / 16) (by omega) (by omega) _).mono ?_; rintro e w' ⟨rfl, rfl⟩
        rw [show (((s[k].toNat : Nat) : Int) / 16).toNat = s[k].toNat / 16 by omega]
        go_wp2_with fail
        refine (sign_any (((s[k].toNat : Nat) : Int) % 16) (by omega) (by omega) _).mono ?_; rintro e w' ⟨rfl, rfl⟩
        rw [show (((s[k].toNat : Nat) : Int) % 16).toNat = s[k].toNat % 16 by omega]
        go_wp2_with fail
        refine ⟨⟨k + 1, by omega, by go_num, _, rfl, ?_⟩, by simp [intOf]; omega⟩
        have e := Hsn.out
        rw [show s.data.toList[k] = s[k] from rfl, Hq.out] at e
        rw [e]
        simpa using txt_add (txt_add (txt_add Hb.out (c := ⟨#[92, 120]⟩) (m := [92, 120]) rfl) (c := ⟨#[hexd (s[k].toNat / 16)]⟩) (m := [hexd (s[k].toNat / 16)]) rfl) (c := ⟨#[hexd (s[k].toNat % 16)]⟩) (m := [hexd (s[k].toNat % 16)]) rfl
      · have Hq := hidB hq
        clear hq
        have he := one_byte s k hlt
        have hz := extract_size s k hlt
        have He := hidB he
        clear he
        obtain ⟨h1, h2, h3, h4⟩ := h1
        have n34 : ((s[k].toNat : Int) == 34) = false := by rw [beq_eq_false_iff_ne]; omega
        have n92 : ((s[k].toNat : Int) == 92) = false := by rw [beq_eq_false_iff_ne]; omega
        clear h3 h4
        go_wp2_with fail
        refine ⟨⟨k + 1, by omega, by go_num, _, rfl, ?_⟩, by simp [intOf]; omega⟩
        have e := Hsn.out
        rw [show s.data.toList[k] = s[k] from rfl, Hq.out] at e
        rw [e]
        exact txt_add Hb.out He.out
    · obtain rfl : k = s.size := by omega
      go_wp2_with fail
      go_ret
      have ht : s.data.toList.take s.size = s.data.toList := List.take_of_length_le (by simp)
      refine ⟨congrArg (fun x => Ending.returned (.string x)) (WideShapes.bytes_inj ?_), rfl⟩
      have e := txt_add Hb.out (c := ⟨#[34]⟩) (m := [34]) rfl
      rw [ht] at e
      exact e

end Go.Proofs.Ytnlaolehpofmlaa
