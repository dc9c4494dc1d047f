/-
  The walks of Tens and of both Texts.
  The walk of the reference's Text.
  The walk of the reference's Quote.
-/
import Derived.Test.YtkomjmgmancinaaDoorLxD
import Derived.Test.YtkomjmgmancinaaDoorLxE
import Derived.IntWalk
import Derived.Test.YtkomjmgmancinaaDoorLxK
import Derived.Test.YtkomjmgmancinaaDoorQuoteWalk
namespace Go.Proofs.YtkomjmgmancinaaDoor
open Go.RowKit

theorem enc_dig (d : Nat) (h : d < 10) : Utf8.encode (48 + (d : Int)) = ⟨#[UInt8.ofNat (48 + d)]⟩ := by
  have : d = 0 ∨ d = 1 ∨ d = 2 ∨ d = 3 ∨ d = 4 ∨ d = 5 ∨ d = 6 ∨ d = 7 ∨ d = 8 ∨ d = 9 := by omega
  rcases this with rfl | rfl | rfl | rfl | rfl | rfl | rfl | rfl | rfl | rfl <;> rfl

set_option maxHeartbeats 1000000 in
set_option maxRecDepth 100000 in
theorem tens_pos (n : Nat) (h1 : n ≤ 9007199254740991) (w : World) : Calls Tryd.prog 50 #[.int .i64 n] w fun e w' => e = .returned (.string ⟨(Lib.decDigits n).toArray⟩) ∧ w = w' := by
  have hl := decDigits_le n h1
  have h0 : (0 : Int) ≤ (n : Int) := by omega
  go_enter Tryd.func50, Tryd.ntmps50
  go_wp2_with fail
  go_loop [0, 3] (fun v o => ∃ (k : Nat) (b : ByteArray), v = .int .i64 k ∧ k ≤ 9007199254740991 ∧ o = .string b ∧ Lib.decDigits n = Lib.decDigits k ++ b.data.toList) (fun v _ => (intOf v).toNat)
  case atStart => exact ⟨n, ⟨#[]⟩, rfl, h1, rfl, by simp⟩
  case round =>
    obtain ⟨k, b, rfl, hk, rfl, hd⟩ := hrel
    have hb : b.size ≤ 21 := by
      have := congrArg List.length hd
      rw [List.length_append] at this
      have e : b.size = b.data.toList.length := by simp
      omega
    have Hd := hid hd
    clear hd
    by_cases hc : 10 ≤ k
    · have e10 : (10 : Int) ≤ (k : Int) := by omega
      have m1 : (k : Int) % 10 < 10 := by omega
      have m0 : 0 ≤ (k : Int) % 10 := by omega
      have He : Hid (Utf8.encode (48 + (k : Int) % 10) = ⟨#[UInt8.ofNat (48 + k % 10)]⟩) := by
        have h := enc_dig (k % 10) (Nat.mod_lt _ (by decide))
        rw [show (((k % 10 : Nat)) : Int) = (k : Int) % 10 from by omega] at h
        exact hid h
      have hz : ¬ 9223372036854775807 < (Utf8.encode (48 + (k : Int) % 10)).size + b.size := by
        rw [He.out]
        show ¬ 9223372036854775807 < 1 + b.size
        omega
      go_wp2_with fail
      refine ⟨⟨k / 10, _, congrArg (Value.int .i64) (by omega), by omega, rfl, ?_⟩, ?_⟩
      · rw [Hd.out, decDigits_step k (by omega), He.out, ByteArray.data_append, Array.toList_append, List.append_assoc]
      · simp [intOf]; omega
    · have e10 : ¬ (10 : Int) ≤ (k : Int) := by omega
      have He := hid (enc_dig k (by omega))
      have hz : ¬ 9223372036854775807 < (Utf8.encode (48 + (k : Int))).size + b.size := by
        rw [He.out]
        show ¬ 9223372036854775807 < 1 + b.size
        omega
      go_wp2_with fail
      go_ret
      refine ⟨congrArg (fun v => Ending.returned (.string v)) ?_, rfl⟩
      rw [Hd.out, He.out]
      apply ByteArray.ext
      rw [ByteArray.data_append]
      apply Array.toList_inj.1
      rw [Array.toList_append, Lib.decDigits_one (by omega)]

set_option maxRecDepth 100000 in
theorem tens_any (n : Int) (h0 : -9007199254740991 ≤ n) (h1 : n ≤ 9007199254740991) (w : World) : Calls Tryd.prog 50 #[.int .i64 n] w fun e w' => e = .returned (.string ⟨(Lib.itoa n).toArray⟩) ∧ w = w' := by
  by_cases hn : n < 0
  · obtain ⟨k, hk⟩ : ∃ k : Nat, k = n.natAbs := ⟨_, rfl⟩
    have T : Hid (∀ W, Calls Tryd.prog 50 #[.int .i64 (-n)] W fun e w' => e = .returned (.string ⟨(Lib.decDigits k).toArray⟩) ∧ W = w') := by
      rw [show -n = (k : Int) from by omega]
      exact hid fun W => tens_pos k (by omega) W
    have hl := decDigits_le k (by omega)
    have e : Lib.itoa n = 45 :: Lib.decDigits k := by unfold Lib.itoa; rw [if_pos hn, hk]
    rw [e]
    clear e hk
    generalize Lib.decDigits k = l at *
    go_enter Tryd.func50, Tryd.ntmps50
    go_wp2_with (go_at_call 50; refine (T.out _).mono ?_; rintro e w' ⟨rfl, rfl⟩)
    go_ret
    refine ⟨congrArg (fun v => Ending.returned (.string v)) ?_, rfl⟩
    apply ByteArray.ext
    rw [ByteArray.data_append]
    apply Array.toList_inj.1
    rw [Array.toList_append]
    rfl
  · obtain ⟨k, rfl⟩ : ∃ k : Nat, n = k := ⟨n.toNat, by omega⟩
    rw [Lib.itoa_nonneg]
    exact tens_pos k (by omega) w

end Go.Proofs.YtkomjmgmancinaaDoor

namespace Go.Proofs.YtkomjmgmancinaaDoor
open Go.RowKit

theorem refText_any (x : Nat) (w : World) : Calls Tryd.prog 31 #[.float .f64 x] w fun e w' => e = .returned (.string ⟨(textR x).toArray⟩) ∧ w = w' := by
  cases hn : Fl.isNaN x
  · have ha := ordE hn
    cases hw : Fl.isW x
    · have e : textR x = [] := by unfold textR; rw [hn, hw]; rfl
      have e1 : Fl.wv x = 0 := by unfold Fl.wv; rw [hw]; rfl
      rw [e]
      have W := hid (fun W => whole_any x W)
      rw [hw] at W
      clear hn hw e e1
      go_enter Tryd.func31, Tryd.ntmps31
      go_wp2_with (go_at_call 49; refine (W.out _).mono ?_; rintro e w' ⟨rfl, rfl⟩)
      go_ret
      exact ⟨rfl, rfl⟩
    · have e : textR x = Lib.itoa (Fl.toW x) := by unfold textR; rw [hn, hw]; rfl
      have e1 : Fl.wv x = Fl.toW x := by unfold Fl.wv; rw [hw]; rfl
      rw [e]
      have W := hid (fun W => whole_any x W)
      rw [hw, e1] at W
      obtain ⟨_, b1, b2⟩ := (Fl.isW_iff x).1 hw
      unfold Fl.safe at b1 b2
      clear hn hw e e1
      generalize Fl.toW x = n at *
      go_enter Tryd.func31, Tryd.ntmps31
      go_wp2_with (first | (go_at_call 49; refine (W.out _).mono ?_; rintro e w' ⟨rfl, rfl⟩) | (go_at_call 50; refine (tens_any _ b1 b2 _).mono ?_; rintro e w' ⟨rfl, rfl⟩))
      go_ret
      exact ⟨rfl, rfl⟩
  · have ha := ordN hn
    have e : textR x = [78, 97, 78] := by unfold textR; rw [hn]; rfl
    rw [e]
    clear hn e
    go_enter Tryd.func31, Tryd.ntmps31
    go_wp2_with fail
    go_ret
    exact ⟨rfl, rfl⟩

end Go.Proofs.YtkomjmgmancinaaDoor

namespace Go.Proofs.YtkomjmgmancinaaDoor
open Go.RowKit

theorem sign_any (n : Int) (h0 : 0 ≤ n) (hn : n < 16) (w : World) : Calls Tryd.prog 51 #[.int .u8 n] w fun e w' => e = .returned (.string ⟨#[hexd n.toNat]⟩) ∧ w = w' := by
  have h : n = 0 ∨ n = 1 ∨ n = 2 ∨ n = 3 ∨ n = 4 ∨ n = 5 ∨ n = 6 ∨ n = 7 ∨ n = 8 ∨ n = 9 ∨ n = 10 ∨ n = 11 ∨ n = 12 ∨ n = 13 ∨ n = 14 ∨ n = 15 := by omega
  rcases h with rfl | rfl | rfl | rfl | rfl | rfl | rfl | rfl | rfl | rfl | rfl | rfl | rfl | rfl | rfl | rfl
  all_goals
    go_enter Tryd.func51, Tryd.ntmps51
    go_wp2
    go_ret
    exact ⟨rfl, rfl⟩

/-- A string value of those bytes. -/
def Txt (v : Value) (l : List UInt8) : Prop := ∃ b : ByteArray, v = .string b ∧ b.data.toList = l

theorem one_byte (s : ByteArray) (k : Nat) (h : k < s.size) : (s.extract k (k + 1)).data.toList = [s[k]] := by
  rw [Lib.extract_data, Nat.add_sub_cancel_left, List.drop_eq_getElem_cons (by simpa using h)]
  rfl

theorem txt_add {b c : ByteArray} {l m : List UInt8} (hb : b.data.toList = l) (hc : c.data.toList = m) : (b ++ c).data.toList = l ++ m := by
  rw [ByteArray.data_append, Array.toList_append, hb, hc]

theorem extract_size (s : ByteArray) (k : Nat) (h : k < s.size) : (s.extract k (k + 1)).size = 1 := by
  rw [ByteArray.size_extract]; omega

set_option maxHeartbeats 1000000 in
set_option maxRecDepth 100000 in
theorem refQuote_any (s : ByteArray) (w : World) (hs : s.size ≤ 9000) :
    Calls Tryd.prog 32 #[.string s] w fun e w' => e = .returned (.string ⟨(quoted s.data.toList ++ [34]).toArray⟩) ∧ w = w' := by
  go_enter Tryd.func32, Tryd.ntmps32
  go_wp2_with fail
  go_loop [3, 4] (fun v i => ∃ k : Nat, k ≤ s.size ∧ i = .int .i64 k ∧ Txt v (quoted (s.data.toList.take k))) (fun _ i => s.size - (intOf i).toNat)
  case atStart => exact ⟨0, by omega, rfl, ⟨#[34]⟩, rfl, rfl⟩
  case round =>
    obtain ⟨k, hk, rfl, b, rfl, hb⟩ := hrel
    have hql := quoted_length (s.data.toList.take k)
    have htl : (s.data.toList.take k).length ≤ k := List.length_take_le _ _
    have hsz : b.size ≤ 40000 := by
      have : b.size = b.data.toList.length := by simp
      rw [this, hb]; omega
    have Hb := hidB hb
    clear hb
    by_cases hlt : k < s.size
    · have h256 := (s[k]).toNat_lt
      have Hsn := hidB (quoted_snoc s.data.toList k (by simpa using hlt))
      rcases byte_kinds s[k] with ⟨h1, hq⟩ | ⟨h1, hq⟩ | ⟨h1, hq⟩ | ⟨h1, hq⟩ | ⟨h1, hq⟩ | ⟨h1, hq⟩ | ⟨h1, hq⟩ | ⟨h1, hq⟩
      · have Hq := hidB hq
        clear hq
        have he := one_byte s k hlt
        rw [show s[k] = 34 from UInt8.toNat_inj.1 h1] at he
        have hz := extract_size s k hlt
        have He := hidB he
        clear he
        go_wp2_with fail
        refine ⟨⟨k + 1, by omega, by go_num, _, rfl, ?_⟩, by simp [intOf]; omega⟩
        have e := Hsn.out
        rw [show s.data.toList[k] = s[k] from rfl, Hq.out] at e
        rw [e]
        simpa using txt_add (txt_add Hb.out (c := ⟨#[92]⟩) (m := [92]) rfl) He.out
      · have Hq := hidB hq
        clear hq
        have he := one_byte s k hlt
        rw [show s[k] = 92 from UInt8.toNat_inj.1 h1] at he
        have hz := extract_size s k hlt
        have He := hidB he
        clear he
        go_wp2_with fail
        refine ⟨⟨k + 1, by omega, by go_num, _, rfl, ?_⟩, by simp [intOf]; omega⟩
        have e := Hsn.out
        rw [show s.data.toList[k] = s[k] from rfl, Hq.out] at e
        rw [e]
        simpa using txt_add (txt_add Hb.out (c := ⟨#[92]⟩) (m := [92]) rfl) He.out
      · have Hq := hidB hq
        clear hq
        have he := one_byte s k hlt
        have hz := extract_size s k hlt
        have He := hidB he
        clear he
        go_wp2_with fail
        refine ⟨⟨k + 1, by omega, by go_num, _, rfl, ?_⟩, by simp [intOf]; omega⟩
        have e := Hsn.out
        rw [show s.data.toList[k] = s[k] from rfl, Hq.out] at e
        rw [e]
        exact txt_add Hb.out (c := ⟨#[92, 110]⟩) (m := [92, 110]) rfl
      · have Hq := hidB hq
        clear hq
        have he := one_byte s k hlt
        have hz := extract_size s k hlt
        have He := hidB he
        clear he
        go_wp2_with fail
        refine ⟨⟨k + 1, by omega, by go_num, _, rfl, ?_⟩, by simp [intOf]; omega⟩
        have e := Hsn.out
        rw [show s.data.toList[k] = s[k] from rfl, Hq.out] at e
        rw [e]
        exact txt_add Hb.out (c := ⟨#[92, 116]⟩) (m := [92, 116]) rfl
      · have Hq := hidB hq
        clear hq
        have he := one_byte s k hlt
        have hz := extract_size s k hlt
        have He := hidB he
        clear he
        go_wp2_with fail
        refine ⟨⟨k + 1, by omega, by go_num, _, rfl, ?_⟩, by simp [intOf]; omega⟩
        have e := Hsn.out
        rw [show s.data.toList[k] = s[k] from rfl, Hq.out] at e
        rw [e]
        exact txt_add Hb.out (c := ⟨#[92, 114]⟩) (m := [92, 114]) rfl
      · have Hq := hidB hq
        clear hq
        have he := one_byte s k hlt
        have hz := extract_size s k hlt
        have He := hidB he
        clear he
        obtain ⟨h1, h2, h3, h4⟩ := h1
        have n34 : ((s[k].toNat : Int) == 34) = false := by rw [beq_eq_false_iff_ne]; omega
        have n92 : ((s[k].toNat : Int) == 92) = false := by rw [beq_eq_false_iff_ne]; omega
        have n10 : ((s[k].toNat : Int) == 10) = false := by rw [beq_eq_false_iff_ne]; omega
        have n9 : ((s[k].toNat : Int) == 9) = false := by rw [beq_eq_false_iff_ne]; omega
        have n13 : ((s[k].toNat : Int) == 13) = false := by rw [beq_eq_false_iff_ne]; omega
        have d32 : decide ((s[k].toNat : Int) < 32) = true := by rw [decide_eq_true_eq]; omega
        go_wp2_with fail
        refine (sign_any (((s[k].toNat : Nat) : Int) / 16) (by omega) (by omega) _).mono ?_; rintro e w' ⟨rfl, rfl⟩
        rw [show (((s[k].toNat : Nat) : Int) / 16).toNat = s[k].toNat / 16 by omega]
        go_wp2_with fail
        refine (sign_any (((s[k].toNat : Nat) : Int) % 16) (by omega) (by omega) _).mono ?_; rintro e w' ⟨rfl, rfl⟩
        rw [show (((s[k].toNat : Nat) : Int) % 16).toNat = s[k].toNat % 16 by omega]
        go_wp2_with fail
        refine ⟨⟨k + 1, by omega, by go_num, _, rfl, ?_⟩, by simp [intOf]; omega⟩
        have e := Hsn.out
        rw [show s.data.toList[k] = s[k] from rfl, Hq.out] at e
        rw [e]
        simpa using txt_add (txt_add (txt_add Hb.out (c := ⟨#[92, 120]⟩) (m := [92, 120]) rfl) (c := ⟨#[hexd (s[k].toNat / 16)]⟩) (m := [hexd (s[k].toNat / 16)]) rfl) (c := ⟨#[hexd (s[k].toNat % 16)]⟩) (m := [hexd (s[k].toNat % 16)]) rfl
      · have Hq := hidB hq
        clear hq
        have he := one_byte s k hlt
        have hz := extract_size s k hlt
        have He := hidB he
        clear he
        have n34 : ((s[k].toNat : Int) == 34) = false := by rw [beq_eq_false_iff_ne]; omega
        have n92 : ((s[k].toNat : Int) == 92) = false := by rw [beq_eq_false_iff_ne]; omega
        have d32 : decide ((s[k].toNat : Int) < 32) = false := by rw [decide_eq_false_iff_not]; omega
        have d126 : decide (126 < (s[k].toNat : Int)) = true := by rw [decide_eq_true_eq]; omega
        go_wp2_with fail
        refine (sign_any (((s[k].toNat : Nat) : Int) / 16) (by omega) (by omega) _).mono ?_; rintro e w' ⟨rfl, rfl⟩
        rw [show (((s[k].toNat : Nat) : Int) / 16).toNat = s[k].toNat / 16 by omega]
        go_wp2_with fail
        refine (sign_any (((s[k].toNat : Nat) : Int) % 16) (by omega) (by omega) _).mono ?_; rintro e w' ⟨rfl, rfl⟩
        rw [show (((s[k].toNat : Nat) : Int) % 16).toNat = s[k].toNat % 16 by omega]
        go_wp2_with fail
        refine ⟨⟨k + 1, by omega, by go_num, _, rfl, ?_⟩, by simp [intOf]; omega⟩
        have e := Hsn.out
        rw [show s.data.toList[k] = s[k] from rfl, Hq.out] at e
        rw [e]
        simpa using txt_add (txt_add (txt_add Hb.out (c := ⟨#[92, 120]⟩) (m := [92, 120]) rfl) (c := ⟨#[hexd (s[k].toNat / 16)]⟩) (m := [hexd (s[k].toNat / 16)]) rfl) (c := ⟨#[hexd (s[k].toNat % 16)]⟩) (m := [hexd (s[k].toNat % 16)]) rfl
      · have Hq := hidB hq
        clear hq
        have he := one_byte s k hlt
        have hz := extract_size s k hlt
        have He := hidB he
        clear he
        obtain ⟨h1, h2, h3, h4⟩ := h1
        have n34 : ((s[k].toNat : Int) == 34) = false := by rw [beq_eq_false_iff_ne]; omega
        have n92 : ((s[k].toNat : Int) == 92) = false := by rw [beq_eq_false_iff_ne]; omega
        clear h3 h4
        go_wp2_with fail
        refine ⟨⟨k + 1, by omega, by go_num, _, rfl, ?_⟩, by simp [intOf]; omega⟩
        have e := Hsn.out
        rw [show s.data.toList[k] = s[k] from rfl, Hq.out] at e
        rw [e]
        exact txt_add Hb.out He.out
    · obtain rfl : k = s.size := by omega
      go_wp2_with fail
      go_ret
      have ht : s.data.toList.take s.size = s.data.toList := List.take_of_length_le (by simp)
      refine ⟨congrArg (fun x => Ending.returned (.string x)) (WideShapes.bytes_inj ?_), rfl⟩
      have e := txt_add Hb.out (c := ⟨#[34]⟩) (m := [34]) rfl
      rw [ht] at e
      exact e

end Go.Proofs.YtkomjmgmancinaaDoor
