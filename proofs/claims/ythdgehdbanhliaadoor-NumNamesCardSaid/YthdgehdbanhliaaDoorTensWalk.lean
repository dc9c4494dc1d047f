/-
  The walks of Tens and of both Texts.
-/
import Derived.Test.YthdgehdbanhliaaDoorMayWalk
import Derived.Test.YthdgehdbanhliaaDoorIntWalk
import Derived.Test.YthdgehdbanhliaaDoorTextPlain
import Derived.Lib.ItoaLen
import Derived.IntWalk
namespace Go.Proofs.YthdgehdbanhliaaDoor
open Go.RowKit

theorem decDigits_step (k : Nat) (h : ¬ k < 10) : Lib.decDigits k = Lib.decDigits (k / 10) ++ [UInt8.ofNat (48 + k % 10)] := by
  rw [Lib.decDigits, dif_neg h]

theorem decDigits_le (k : Nat) (h : k ≤ 9007199254740991) : (Lib.decDigits k).length ≤ 21 := by
  have := Lib.itoa_length_le (k : Int) (by omega) (by omega)
  rwa [Lib.itoa_nonneg] at this

theorem enc_dig (d : Nat) (h : d < 10) : Utf8.encode (48 + (d : Int)) = ⟨#[UInt8.ofNat (48 + d)]⟩ := by
  have : d = 0 ∨ d = 1 ∨ d = 2 ∨ d = 3 ∨ d = 4 ∨ d = 5 ∨ d = 6 ∨ d = 7 ∨ d = 8 ∨ d = 9 := by omega
  rcases this with rfl | rfl | rfl | rfl | rfl | rfl | rfl | rfl | rfl | rfl <;> rfl

set_option maxHeartbeats 1000000 in
set_option maxRecDepth 100000 in
theorem tens_pos (n : Nat) (h1 : n ≤ 9007199254740991) (w : World) : Calls Tryd.prog 28 #[.int .i64 n] w fun e w' => e = .returned (.string ⟨(Lib.decDigits n).toArray⟩) ∧ w = w' := by
  have hl := decDigits_le n h1
  have h0 : (0 : Int) ≤ (n : Int) := by omega
  go_enter Tryd.func28, Tryd.ntmps28
  go_wp2_with fail
  go_loop [0, 3] (fun v o => ∃ (k : Nat) (b : ByteArray), v = .int .i64 k ∧ k ≤ 9007199254740991 ∧ o = .string b ∧ Lib.decDigits n = Lib.decDigits k ++ b.data.toList) (fun v _ => (intOf v).toNat)
  case atStart => exact ⟨n, ⟨#[]⟩, rfl, h1, rfl, by simp⟩
  case round =>
    obtain ⟨k, b, rfl, hk, rfl, hd⟩ := hrel
    have hb : b.size ≤ 21 := by
      have := congrArg List.length hd
      rw [List.length_append] at this
      have e : b.size = b.data.toList.length := by simp
      omega
    have Hd := hid hd
    clear hd
    by_cases hc : 10 ≤ k
    · have e10 : (10 : Int) ≤ (k : Int) := by omega
      have m1 : (k : Int) % 10 < 10 := by omega
      have m0 : 0 ≤ (k : Int) % 10 := by omega
      have He : Hid (Utf8.encode (48 + (k : Int) % 10) = ⟨#[UInt8.ofNat (48 + k % 10)]⟩) := by
        have h := enc_dig (k % 10) (Nat.mod_lt _ (by decide))
        rw [show (((k % 10 : Nat)) : Int) = (k : Int) % 10 from by omega] at h
        exact hid h
      have hz : ¬ 9223372036854775807 < (Utf8.encode (48 + (k : Int) % 10)).size + b.size := by
        rw [He.out]
        show ¬ 9223372036854775807 < 1 + b.size
        omega
      go_wp2_with fail
      refine ⟨⟨k / 10, _, congrArg (Value.int .i64) (by omega), by omega, rfl, ?_⟩, ?_⟩
      · rw [Hd.out, decDigits_step k (by omega), He.out, ByteArray.data_append, Array.toList_append, List.append_assoc]
      · simp [intOf]; omega
    · have e10 : ¬ (10 : Int) ≤ (k : Int) := by omega
      have He := hid (enc_dig k (by omega))
      have hz : ¬ 9223372036854775807 < (Utf8.encode (48 + (k : Int))).size + b.size := by
        rw [He.out]
        show ¬ 9223372036854775807 < 1 + b.size
        omega
      go_wp2_with fail
      go_ret
      refine ⟨congrArg (fun v => Ending.returned (.string v)) ?_, rfl⟩
      rw [Hd.out, He.out]
      apply ByteArray.ext
      rw [ByteArray.data_append]
      apply Array.toList_inj.1
      rw [Array.toList_append, Lib.decDigits_one (by omega)]

set_option maxRecDepth 100000 in
theorem tens_any (n : Int) (h0 : -9007199254740991 ≤ n) (h1 : n ≤ 9007199254740991) (w : World) : Calls Tryd.prog 28 #[.int .i64 n] w fun e w' => e = .returned (.string ⟨(Lib.itoa n).toArray⟩) ∧ w = w' := by
  by_cases hn : n < 0
  · obtain ⟨k, hk⟩ : ∃ k : Nat, k = n.natAbs := ⟨_, rfl⟩
    have T : Hid (∀ W, Calls Tryd.prog 28 #[.int .i64 (-n)] W fun e w' => e = .returned (.string ⟨(Lib.decDigits k).toArray⟩) ∧ W = w') := by
      rw [show -n = (k : Int) from by omega]
      exact hid fun W => tens_pos k (by omega) W
    have hl := decDigits_le k (by omega)
    have e : Lib.itoa n = 45 :: Lib.decDigits k := by unfold Lib.itoa; rw [if_pos hn, hk]
    rw [e]
    clear e hk
    generalize Lib.decDigits k = l at *
    go_enter Tryd.func28, Tryd.ntmps28
    go_wp2_with (go_at_call 28; refine (T.out _).mono ?_; rintro e w' ⟨rfl, rfl⟩)
    go_ret
    refine ⟨congrArg (fun v => Ending.returned (.string v)) ?_, rfl⟩
    apply ByteArray.ext
    rw [ByteArray.data_append]
    apply Array.toList_inj.1
    rw [Array.toList_append]
    rfl
  · obtain ⟨k, rfl⟩ : ∃ k : Nat, n = k := ⟨n.toNat, by omega⟩
    rw [Lib.itoa_nonneg]
    exact tens_pos k (by omega) w

end Go.Proofs.YthdgehdbanhliaaDoor
