/-
  The walks of str.Quote and of the reference's own.
-/
import Derived.Test.YtkomjmgmancinaaDoorLxG
import Derived.Test.YtkomjmgmancinaaDoorLxE
import Derived.Test.YtkomjmgmancinaaDoorLxL
namespace Go.Proofs.YtkomjmgmancinaaDoor
open Go.RowKit

theorem hexd_lo {n : Nat} (h : n < 10) : ((hexd n).toNat : Int) = 48 + (n : Int) := by
  unfold hexd; rw [if_pos h, UInt8.toNat_ofNat']; omega
theorem hexd_hi {n : Nat} (h : 10 ≤ n) (h' : n < 16) : ((hexd n).toNat : Int) = 87 + (n : Int) := by
  unfold hexd; rw [if_neg (by omega), UInt8.toNat_ofNat']; omega

set_option maxRecDepth 100000 in
theorem sixteen_any (n : Int) (h0 : 0 ≤ n) (hn : n < 16) (w : World) : Calls Tryd.prog 47 #[.int .u8 n] w fun e w' => e = .returned (.int .u8 (hexd n.toNat).toNat) ∧ w = w' := by
  by_cases h : n < 10
  · have e := hexd_lo (n := n.toNat) (by omega)
    rw [e]; clear e
    go_enter Tryd.func47, Tryd.ntmps47
    go_wp2
    go_ret
    exact ⟨congrArg (fun x => Ending.returned (.int .u8 x)) (by omega), rfl⟩
  · have e := hexd_hi (n := n.toNat) (by omega) (by omega)
    rw [e]; clear e
    go_enter Tryd.func47, Tryd.ntmps47
    go_wp2
    go_ret
    exact ⟨congrArg (fun x => Ending.returned (.int .u8 x)) (by omega), rfl⟩

theorem and15 (c : UInt8) : bits .and .u8 (c.toNat : Int) 15 = (c.toNat : Int) % 16 := by
  have h := c.toNat_lt
  rw [u8_and _ _ (by omega) (by omega) (by omega) (by omega)]
  have e : ((c.toNat : Int).toNat &&& (15 : Int).toNat) = c.toNat % 16 := Nat.and_two_pow_sub_one_eq_mod _ 4
  rw [e]; omega

set_option maxHeartbeats 1000000 in
set_option maxRecDepth 100000 in
theorem quote_any (s : ByteArray) (w : World) (hs : s.size ≤ 9000) :
    Calls Tryd.prog 27 #[.string s] w fun e w' => e = .returned (.string ⟨(quoted s.data.toList ++ [34]).toArray⟩) ∧ Below w.heap.size w w' := by
  have hB0 := fresh_Bld w
  have HB0 := hidB hB0
  clear hB0
  go_enter Tryd.func27, Tryd.ntmps27
  go_wp2_with fail
  refine (writeByte_any w.heap.size w.heap.size [] 34 34 rfl _ HB0.out (by simp) (by simp)).mono ?_; rintro e w1 ⟨rfl, hbl, hb⟩
  have HB1 := hidB hbl
  have Hb1 := hidB hb
  clear hbl hb
  go_wp2_with fail
  go_loopw [9] (fun i wr => ∃ k : Nat, k ≤ s.size ∧ i = .int .i64 k ∧ Bld w.heap.size w.heap.size (quoted (s.data.toList.take k)) wr ∧ Below w.heap.size w wr) (fun i _ => s.size - (intOf i).toNat)
  case atStart => exact ⟨0, by omega, rfl, HB1.out, ((Below.refl _ _).alloc (Nat.le_refl _) _).trans Hb1.out⟩
  case round =>
    obtain ⟨k, hk, rfl, hbl, hb⟩ := hrel
    have HB := hidB hbl
    have Hb := hidB hb
    clear hbl hb
    have hql := quoted_length (s.data.toList.take k)
    have htl : (s.data.toList.take k).length ≤ k := List.length_take_le _ _
    have hsz := Hb.out.size
    by_cases hlt : k < s.size
    · have e15 := and15
      have h256 := (s[k]).toNat_lt
      have Hsn := hidB (quoted_snoc s.data.toList k (by simpa using hlt))
      rcases byte_kinds s[k] with ⟨h1, hq⟩ | ⟨h1, hq⟩ | ⟨h1, hq⟩ | ⟨h1, hq⟩ | ⟨h1, hq⟩ | ⟨h1, hq⟩ | ⟨h1, hq⟩ | ⟨h1, hq⟩
      · have Hq := hidB hq
        clear hq
        go_wp2_with fail
        refine (writeByte_any w.heap.size w.heap.size (quoted (s.data.toList.take k)) 92 92 rfl _ HB.out (by simp; omega) (by omega)).mono ?_; rintro e w2 ⟨rfl, hbl, hb⟩
        have H1 := hidB hbl
        have B1 := hidB hb
        have z1 := hb.size
        clear hbl hb
        go_wp2_with fail
        refine (writeByte_any w.heap.size w.heap.size (quoted (s.data.toList.take k) ++ [92]) 34 34 rfl _ H1.out (by simp; omega) (by omega)).mono ?_; rintro e w3 ⟨rfl, hbl, hb⟩
        have H2 := hidB hbl
        have B2 := hidB hb
        have z2 := hb.size
        clear hbl hb
        go_wp2_with fail
        have hfin : Bld w.heap.size w.heap.size (quoted (s.data.toList.take (k + 1))) w3 := by
          have e := Hsn.out
          rw [show s.data.toList[k] = s[k] from rfl, Hq.out] at e
          rw [e]; simpa using H2.out
        have Hfin := hidB hfin
        have Hbl := hidB (Hb.out.trans (B1.out.trans B2.out))
        clear hfin
        go_roundw
        case rel => exact ⟨k + 1, by omega, by go_num, Hfin.out, Hbl.out⟩
        case measure => simp [intOf]; omega
      · have Hq := hidB hq
        clear hq
        go_wp2_with fail
        refine (writeByte_any w.heap.size w.heap.size (quoted (s.data.toList.take k)) 92 92 rfl _ HB.out (by simp; omega) (by omega)).mono ?_; rintro e w2 ⟨rfl, hbl, hb⟩
        have H1 := hidB hbl
        have B1 := hidB hb
        have z1 := hb.size
        clear hbl hb
        go_wp2_with fail
        refine (writeByte_any w.heap.size w.heap.size (quoted (s.data.toList.take k) ++ [92]) 92 92 rfl _ H1.out (by simp; omega) (by omega)).mono ?_; rintro e w3 ⟨rfl, hbl, hb⟩
        have H2 := hidB hbl
        have B2 := hidB hb
        have z2 := hb.size
        clear hbl hb
        go_wp2_with fail
        have hfin : Bld w.heap.size w.heap.size (quoted (s.data.toList.take (k + 1))) w3 := by
          have e := Hsn.out
          rw [show s.data.toList[k] = s[k] from rfl, Hq.out] at e
          rw [e]; simpa using H2.out
        have Hfin := hidB hfin
        have Hbl := hidB (Hb.out.trans (B1.out.trans B2.out))
        clear hfin
        go_roundw
        case rel => exact ⟨k + 1, by omega, by go_num, Hfin.out, Hbl.out⟩
        case measure => simp [intOf]; omega
      · have Hq := hidB hq
        clear hq
        go_wp2_with fail
        refine (writeString_any w.heap.size w.heap.size (quoted (s.data.toList.take k)) ⟨#[92, 110]⟩ _ HB.out (by simp [ByteArray.size]; omega) (by omega)).mono ?_; rintro e w2 ⟨rfl, hbl, hb⟩
        have H1 := hidB hbl
        have B1 := hidB hb
        have z1 := hb.size
        clear hbl hb
        go_wp2_with fail
        have hfin : Bld w.heap.size w.heap.size (quoted (s.data.toList.take (k + 1))) w2 := by
          have e := Hsn.out
          rw [show s.data.toList[k] = s[k] from rfl, Hq.out] at e
          rw [e]; simpa using H1.out
        have Hfin := hidB hfin
        have Hbl := hidB (Hb.out.trans B1.out)
        clear hfin
        go_roundw
        case rel => exact ⟨k + 1, by omega, by go_num, Hfin.out, Hbl.out⟩
        case measure => simp [intOf]; omega
      · have Hq := hidB hq
        clear hq
        go_wp2_with fail
        refine (writeString_any w.heap.size w.heap.size (quoted (s.data.toList.take k)) ⟨#[92, 116]⟩ _ HB.out (by simp [ByteArray.size]; omega) (by omega)).mono ?_; rintro e w2 ⟨rfl, hbl, hb⟩
        have H1 := hidB hbl
        have B1 := hidB hb
        have z1 := hb.size
        clear hbl hb
        go_wp2_with fail
        have hfin : Bld w.heap.size w.heap.size (quoted (s.data.toList.take (k + 1))) w2 := by
          have e := Hsn.out
          rw [show s.data.toList[k] = s[k] from rfl, Hq.out] at e
          rw [e]; simpa using H1.out
        have Hfin := hidB hfin
        have Hbl := hidB (Hb.out.trans B1.out)
        clear hfin
        go_roundw
        case rel => exact ⟨k + 1, by omega, by go_num, Hfin.out, Hbl.out⟩
        case measure => simp [intOf]; omega
      · have Hq := hidB hq
        clear hq
        go_wp2_with fail
        refine (writeString_any w.heap.size w.heap.size (quoted (s.data.toList.take k)) ⟨#[92, 114]⟩ _ HB.out (by simp [ByteArray.size]; omega) (by omega)).mono ?_; rintro e w2 ⟨rfl, hbl, hb⟩
        have H1 := hidB hbl
        have B1 := hidB hb
        have z1 := hb.size
        clear hbl hb
        go_wp2_with fail
        have hfin : Bld w.heap.size w.heap.size (quoted (s.data.toList.take (k + 1))) w2 := by
          have e := Hsn.out
          rw [show s.data.toList[k] = s[k] from rfl, Hq.out] at e
          rw [e]; simpa using H1.out
        have Hfin := hidB hfin
        have Hbl := hidB (Hb.out.trans B1.out)
        clear hfin
        go_roundw
        case rel => exact ⟨k + 1, by omega, by go_num, Hfin.out, Hbl.out⟩
        case measure => simp [intOf]; omega
      · have Hq := hidB hq
        clear hq
        obtain ⟨h1, h2, h3, h4⟩ := h1
        go_wp2_with fail
        refine (writeString_any w.heap.size w.heap.size (quoted (s.data.toList.take k)) ⟨#[92, 120]⟩ _ HB.out (by simp [ByteArray.size]; omega) (by omega)).mono ?_; rintro e w2 ⟨rfl, hbl, hb⟩
        have H1 := hidB hbl
        have B1 := hidB hb
        have z1 := hb.size
        clear hbl hb
        go_wp2_with fail
        refine (sixteen_any _ (by omega) (by omega) _).mono ?_; rintro e w' ⟨rfl, rfl⟩
        rw [show (((s[k].toNat : Nat) : Int) / 16).toNat = s[k].toNat / 16 by omega]
        go_wp2_with fail
        refine (writeByte_any w.heap.size w.heap.size (quoted (s.data.toList.take k) ++ [92, 120]) (hexd (s[k].toNat / 16)) _ rfl _ H1.out (by simp; omega) (by omega)).mono ?_; rintro e w3 ⟨rfl, hbl, hb⟩
        have H2 := hidB hbl
        have B2 := hidB hb
        have z2 := hb.size
        clear hbl hb
        go_wp2_with fail
        refine (sixteen_any _ (by omega) (by omega) _).mono ?_; rintro e w' ⟨rfl, rfl⟩
        rw [show (((s[k].toNat : Nat) : Int) % 16).toNat = s[k].toNat % 16 by omega]
        go_wp2_with fail
        refine (writeByte_any w.heap.size w.heap.size (quoted (s.data.toList.take k) ++ [92, 120] ++ [hexd (s[k].toNat / 16)]) (hexd (s[k].toNat % 16)) _ rfl _ H2.out (by simp; omega) (by omega)).mono ?_; rintro e w4 ⟨rfl, hbl, hb⟩
        have H3 := hidB hbl
        have B3 := hidB hb
        have z3 := hb.size
        clear hbl hb
        go_wp2_with fail
        have hfin : Bld w.heap.size w.heap.size (quoted (s.data.toList.take (k + 1))) w4 := by
          have e := Hsn.out
          rw [show s.data.toList[k] = s[k] from rfl, Hq.out] at e
          rw [e]; simpa using H3.out
        have Hfin := hidB hfin
        have Hbl := hidB (Hb.out.trans ((B1.out.trans B2.out).trans B3.out))
        clear hfin
        go_roundw
        case rel => exact ⟨k + 1, by omega, by go_num, Hfin.out, Hbl.out⟩
        case measure => simp [intOf]; omega
      · have Hq := hidB hq
        clear hq
        go_wp2_with fail
        refine (writeString_any w.heap.size w.heap.size (quoted (s.data.toList.take k)) ⟨#[92, 120]⟩ _ HB.out (by simp [ByteArray.size]; omega) (by omega)).mono ?_; rintro e w2 ⟨rfl, hbl, hb⟩
        have H1 := hidB hbl
        have B1 := hidB hb
        have z1 := hb.size
        clear hbl hb
        go_wp2_with fail
        refine (sixteen_any _ (by omega) (by omega) _).mono ?_; rintro e w' ⟨rfl, rfl⟩
        rw [show (((s[k].toNat : Nat) : Int) / 16).toNat = s[k].toNat / 16 by omega]
        go_wp2_with fail
        refine (writeByte_any w.heap.size w.heap.size (quoted (s.data.toList.take k) ++ [92, 120]) (hexd (s[k].toNat / 16)) _ rfl _ H1.out (by simp; omega) (by omega)).mono ?_; rintro e w3 ⟨rfl, hbl, hb⟩
        have H2 := hidB hbl
        have B2 := hidB hb
        have z2 := hb.size
        clear hbl hb
        go_wp2_with fail
        refine (sixteen_any _ (by omega) (by omega) _).mono ?_; rintro e w' ⟨rfl, rfl⟩
        rw [show (((s[k].toNat : Nat) : Int) % 16).toNat = s[k].toNat % 16 by omega]
        go_wp2_with fail
        refine (writeByte_any w.heap.size w.heap.size (quoted (s.data.toList.take k) ++ [92, 120] ++ [hexd (s[k].toNat / 16)]) (hexd (s[k].toNat % 16)) _ rfl _ H2.out (by simp; omega) (by omega)).mono ?_; rintro e w4 ⟨rfl, hbl, hb⟩
        have H3 := hidB hbl
        have B3 := hidB hb
        have z3 := hb.size
        clear hbl hb
        go_wp2_with fail
        have hfin : Bld w.heap.size w.heap.size (quoted (s.data.toList.take (k + 1))) w4 := by
          have e := Hsn.out
          rw [show s.data.toList[k] = s[k] from rfl, Hq.out] at e
          rw [e]; simpa using H3.out
        have Hfin := hidB hfin
        have Hbl := hidB (Hb.out.trans ((B1.out.trans B2.out).trans B3.out))
        clear hfin
        go_roundw
        case rel => exact ⟨k + 1, by omega, by go_num, Hfin.out, Hbl.out⟩
        case measure => simp [intOf]; omega
      · have Hq := hidB hq
        clear hq
        obtain ⟨h1, h2, h3, h4⟩ := h1
        go_wp2_with fail
        refine (writeByte_any w.heap.size w.heap.size (quoted (s.data.toList.take k)) s[k] s[k].toNat rfl _ HB.out (by simp; omega) (by omega)).mono ?_; rintro e w2 ⟨rfl, hbl, hb⟩
        have H1 := hidB hbl
        have B1 := hidB hb
        have z1 := hb.size
        clear hbl hb
        go_wp2_with fail
        have hfin : Bld w.heap.size w.heap.size (quoted (s.data.toList.take (k + 1))) w2 := by
          have e := Hsn.out
          rw [show s.data.toList[k] = s[k] from rfl, Hq.out] at e
          rw [e]; simpa using H1.out
        have Hfin := hidB hfin
        have Hbl := hidB (Hb.out.trans B1.out)
        clear hfin
        go_roundw
        case rel => exact ⟨k + 1, by omega, by go_num, Hfin.out, Hbl.out⟩
        case measure => simp [intOf]; omega
    · obtain rfl : k = s.size := by omega
      go_wp2_with fail
      have ht : s.data.toList.take s.size = s.data.toList := List.take_of_length_le (by simp)
      refine (writeByte_any w.heap.size w.heap.size (quoted (s.data.toList.take s.size)) 34 34 rfl _ HB.out (by omega) hsz).mono ?_; rintro e w2 ⟨rfl, hbl, hb⟩
      rw [ht] at hbl
      have H1 := hidB hbl
      have B1 := hidB hb
      have z1 := hb.size
      clear hbl hb ht
      go_wp2_with fail
      refine (toString_any w.heap.size w.heap.size _ _ H1.out (by omega)).mono ?_; rintro e w3 ⟨rfl, hb⟩
      have B2 := hidB hb
      clear hb
      go_wp2_with fail
      go_ret
      exact ⟨rfl, (Hb.out.trans B1.out).trans B2.out⟩

end Go.Proofs.YtkomjmgmancinaaDoor
