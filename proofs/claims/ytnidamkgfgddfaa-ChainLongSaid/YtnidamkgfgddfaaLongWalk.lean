/-
  So many proxies in one another are so many deep: the walk of ChainLong.
-/
import Derived.Test.YtnidamkgfgddfaaChainL
import Derived.Deep.LoopGhost
namespace Go.Proofs.Ytnidamkgfgddfaa
open Go.RowKit

theorem own_len {w : World} {b : Nat} {e : TypeId} {sz n m : Nat} {v : Value} {xs : List Value} (h : w.ownsRow b e sz v n xs) (hn : n = m) : w.ownsRow b e sz v m xs := hn ▸ h
theorem nats_at {l : List Nat} {i x : Nat} (h : l[i]? = some x) : (nats l)[i]? = some (.int .i64 (x : Int)) := by
  unfold nats
  rw [List.getElem?_map, h]; rfl
/-- One of the proxies revoked: what the last one tells then. -/
theorem long_rv {cu : Int} {j : Nat} (h0 : 0 ≤ cu ∧ cu ≤ 255) (hj : j < 91) : ∃ c t d : Nat, atL (j + 1) = t ∧ wrap64 (2 + (wrap64 cu).tmod ((j : Int) + 1)) = (c : Int) ∧ wrap64 ((t : Int) - (c : Int)) = (d : Int) ∧ rvE (longH (j + 1)) (c : Int) = 0 ∧ askE (revH (longH (j + 1)) c) [(t : Int)] = 0 ∧
    (dwn (revH (longH (j + 1)) c) t).length = d ∧ cutB (revH (longH (j + 1)) c) t = true ∧ arrE (revH (longH (j + 1)) c) (t : Int) = 140 := by
  obtain ⟨a, ha⟩ : ∃ a : Nat, cu % ((j : Int) + 1) = (a : Int) := ⟨(cu % ((j : Int) + 1)).toNat, by have := Int.emod_nonneg cu (show (j : Int) + 1 ≠ 0 by omega); omega⟩
  have hak : a < j + 1 := by have := Int.emod_lt_of_pos cu (show (0 : Int) < (j : Int) + 1 by omega); omega
  have hk : j + 1 ≤ 4000 := by omega
  have hask : askE (revH (longH (j + 1)) (a + 2)) [((j + 2 : Nat) : Int)] = 0 := askE_of (rvl_chk hk hak) (by omega) (by rw [rev_len, long_len]; omega)
  have hcut := rvl_cut hk hak (j := j) (by omega) (by omega)
  refine ⟨a + 2, j + 2, j - a, ?_, ?_, ?_, rv_long hk hak, hask, (rvl_dwn hk hak j (by omega) (by omega)).1, hcut, ?_⟩
  · unfold atL; rw [if_neg (by omega)]
  · rw [show wrap64 cu = cu by unfold wrap64; omega, Int.tmod_eq_emod_of_nonneg h0.1, ha]; unfold wrap64; omega
  · unfold wrap64; omega
  · unfold arrE; rw [if_pos hask, Int.toNat_natCast, hcut]; rfl

set_option maxHeartbeats 8000000 in
set_option maxRecDepth 100000 in
theorem law_long (n cu : Int) (hn : 0 ≤ n ∧ n ≤ 255) (hcu : 0 ≤ cu ∧ cu ≤ 255) (w : World) : Calls Try.prog 3 #[.int .u8 n, .int .u8 cu] w fun e w' => e = .returned (.bool true) ∧ Below w.heap.size w w' := by
  obtain ⟨hn0, hn1⟩ := hn
  obtain ⟨hc0, hc1⟩ := hcu
  obtain ⟨k, hk⟩ : ∃ k : Nat, n % 91 = (k : Int) := ⟨(n % 91).toNat, by omega⟩
  have hk90 : k ≤ 90 := by omega
  have HC := hidB (And.intro hc0 hc1)
  clear hc0 hc1
  go_enter Try.func3, Try.ntmps3
  have B := hidB (Below.refl w.heap.size w)
  go_wp2_with fail
  refine (alive14_any _).mono ?_; rintro e w1 ⟨rfl, hb⟩
  replace B := hidB (B.out.trans (hb.mono B.out.size))
  clear hb
  go_wp2_with fail
  rw [hk]
  refine (two_any _).mono ?_; rintro e w2 ⟨v, rfl, hfr, hb⟩
  have FR := hidB (hfr.low B.out.size)
  replace B := hidB (B.out.trans (hb.mono B.out.size))
  clear hb hfr
  obtain ⟨p2, c2, rfl⟩ := FR.out.rd.form
  clear hk hn0 hn1
  have T := hidB (show Bk (w2.alloc (.cells #[(.slice p2 twoH.length c2)] 25)) w2.heap.size 25 #[(.slice p2 twoH.length c2)] from Bk.new w2 _ _)
  replace FR := hidB (show FrB w.heap.size twoH (.slice p2 twoH.length c2) (w2.alloc (.cells #[(.slice p2 twoH.length c2)] 25)) from FR.out.on (box_one w2 _))
  have HG := hidB B.out.size
  replace B := hidB (show Below w.heap.size w (w2.alloc (.cells #[(.slice p2 twoH.length c2)] 25)) from B.out.alloc B.out.size _)
  go_upto_region 6 with (first | ((with_reducible refine wpId ?_); refine wpList_store_new (by rfl) 25 (.tmp 7) (.tmp 29) (by rfl) #[(.slice p2 twoH.length c2)] 25 _ (by rfl) (by rfl) (by kernel_rfl) (by rfl) (by rfl) ?_))
  generalize (w2.alloc (.cells #[(.slice p2 twoH.length c2)] 25)) = w3 at *
  generalize w2.heap.size = g7 at *
  go_wp2_with fail
  go_loopg [8, 9] k (fun m s8 s9 wr => ∃ i : Nat, i ≤ k ∧ m = k - i ∧ s9 = .int .i64 i ∧ s8 = .int .i64 (atL i) ∧ ∃ p c, Bk wr g7 25 #[.slice p (longH i).length c] ∧ FrB w.heap.size (longH i) (.slice p (longH i).length c) wr ∧ Below w.heap.size w wr)
  case atStart => exact ⟨0, Nat.zero_le _, rfl, rfl, rfl, p2, c2, T.out, FR.out, B.out⟩
  case round =>
    clear T FR B
    obtain ⟨i, hi, rfl, rfl, rfl, p, c, hT, hF, hb⟩ := hrel
    have T := hidB hT
    have FR := hidB hF
    have B := hidB hb
    clear hT hF hb
    have hi0 : (0 : Int) ≤ (i : Int) := by omega
    by_cases hlt : i < k
    · have hi1 : (i : Int) < (k : Int) := by omega
      go_wp2_with (first | ((with_reducible refine ldId 25 (.tmp 7) ?_); refine wpList_load_row (by rfl) 25 (.tmp 7) (by rfl) (g7) (by rfl) 25 (#[.slice p (longH i).length c]) (0, 0) _ (by exact T.out) Try.underlying25 (by rfl) (by kernel_rfl) ?_))
      refine (make_fr (long_ok i) (long_keys i) FR.out.rd (atL i) 1).mono ?_; rintro e w4 ⟨hb, ⟨hne, _⟩ | ⟨_, v4, rfl, hfr⟩⟩
      · exact absurd (mk_long (by omega)) hne
      have hfr2 : FrB wr.heap.size (longH (i + 1)) v4 w4 := by rw [Int.toNat_natCast] at hfr; exact hfr
      have FR4 := hidB (hfr2.low B.out.size)
      replace T := hidB (T.out.on hb)
      replace B := hidB (B.out.trans (hb.mono B.out.size))
      clear hb hfr hfr2 FR
      obtain ⟨p4, c4, rfl⟩ := FR4.out.rd.form
      have X := hidB (show Bk (w4.alloc (.cells #[(.slice p4 (longH (i + 1)).length c4)] 25)) w4.heap.size 25 #[(.slice p4 (longH (i + 1)).length c4)] from Bk.new w4 _ _)
      have T4 := hidB (show Bk (w4.alloc (.cells #[(.slice p4 (longH (i + 1)).length c4)] 25)) g7 25 #[.slice p (longH i).length c] from T.out.alloc _)
      replace FR4 := hidB (show FrB w.heap.size (longH (i + 1)) (.slice p4 (longH (i + 1)).length c4) (w4.alloc (.cells #[(.slice p4 (longH (i + 1)).length c4)] 25)) from FR4.out.on (box_one w4 _))
      replace B := hidB (show Below w.heap.size w (w4.alloc (.cells #[(.slice p4 (longH (i + 1)).length c4)] 25)) from B.out.alloc B.out.size _)
      clear T
      go_upto_region 13 with (first | ((with_reducible refine wpId ?_); refine wpList_store_new (by rfl) 25 (.tmp 10) (.tmp 39) (by rfl) #[(.slice p4 (longH (i + 1)).length c4)] 25 _ (by rfl) (by rfl) (by kernel_rfl) (by rfl) (by rfl) ?_))
      generalize (w4.alloc (.cells #[(.slice p4 (longH (i + 1)).length c4)] 25)) = w5 at *
      generalize w4.heap.size = gx at *
      have t0 : w5.cell? ⟨g7, 0, none⟩ = some (.slice p (longH i).length c) := T4.out.cell 0
      have tf : w5.frozen? ⟨g7, 0, none⟩ = false := T4.out.free 0
      have T6 := hidB (show Bk (w5.setCell ⟨g7, 0, none⟩ (.slice p4 (longH (i + 1)).length c4)) g7 25 #[(.slice p4 (longH (i + 1)).length c4)] from T4.out.set 0 _)
      have FR6 := hidB (show FrB w.heap.size (longH (i + 1)) (.slice p4 (longH (i + 1)).length c4) (w5.setCell ⟨g7, 0, none⟩ (.slice p4 (longH (i + 1)).length c4)) from FR4.out.setT T4.out (by decide) (by decide) _)
      have B6 := hidB (show Below w.heap.size w (w5.setCell ⟨g7, 0, none⟩ (.slice p4 (longH (i + 1)).length c4)) from B.out.setCell HG.out _)
      go_wp2_with (first | ((with_reducible refine ldId 25 (.tmp 10) ?_); refine wpList_load_row (by rfl) 25 (.tmp 10) (by rfl) (gx) (by rfl) 25 (#[(.slice p4 (longH (i + 1)).length c4)]) (0, 0) _ (by exact X.out) Try.underlying25 (by rfl) (by kernel_rfl) ?_))
      go_roundg (k - (i + 1))
      case measure => omega
      case rel => exact ⟨i + 1, by omega, rfl, by go_num, by rw [atL_succ], p4, c4, T6.out, FR6.out, B6.out⟩
    obtain rfl : i = k := by omega
    have hx4 : ¬ ((i : Int) < (i : Int)) := by omega
    clear hlt
    go_wp2_with (first | ((with_reducible refine ldId 25 (.tmp 7) ?_); refine wpList_load_row (by rfl) 25 (.tmp 7) (by rfl) (g7) (by rfl) 25 (#[.slice p (longH i).length c]) (0, 0) _ (by exact T.out) Try.underlying25 (by rfl) (by kernel_rfl) ?_))
    refine (deep_fr (long_ok i) (long_keys i) FR.out.rd (atL i)).mono ?_; rintro e w4 ⟨rfl, hb⟩
    rw [deep_long (by omega), ask_long (by omega)]
    replace T := hidB (T.out.on hb)
    replace FR := hidB (FR.out.on hb)
    replace B := hidB (B.out.trans (hb.mono B.out.size))
    clear hb
    go_wp2_with (first | ((with_reducible refine ldId 25 (.tmp 7) ?_); refine wpList_load_row (by rfl) 25 (.tmp 7) (by rfl) (g7) (by rfl) 25 (#[.slice p (longH i).length c]) (0, 0) _ (by exact T.out) Try.underlying25 (by rfl) (by kernel_rfl) ?_))
    refine (down_fr (long_ok i) (long_keys i) FR.out.rd (atL i)).mono ?_; rintro e w5 ⟨hb, ⟨hne, _⟩ | ⟨_, vd, rfl, hown⟩⟩
    · exact absurd (ask_long (by omega)) hne
    rw [Int.toNat_natCast] at hown
    rw [Int.toNat_natCast, (long_dwn i (by omega)).2.2]
    have HO := hidB (own_len hown (long_dwn i (by omega)).1)
    clear hown
    replace T := hidB (T.out.on hb)
    replace FR := hidB (FR.out.on hb)
    replace B := hidB (B.out.trans (hb.mono B.out.size))
    clear hb
    obtain ⟨qd, cd, rfl⟩ := own_sliceH HO.out
    go_wp2_with (first | ((with_reducible refine ldId 25 (.tmp 7) ?_); refine wpList_load_row (by rfl) 25 (.tmp 7) (by rfl) (g7) (by rfl) 25 (#[.slice p (longH i).length c]) (0, 0) _ (by exact T.out) Try.underlying25 (by rfl) (by kernel_rfl) ?_))
    refine (isarr_fr (long_ok i) (long_keys i) FR.out.rd (atL i)).mono ?_; rintro e w6 ⟨rfl, hb⟩
    rw [arrE_long (by omega), arrV_long (by omega)]
    replace T := hidB (T.out.on hb)
    replace FR := hidB (FR.out.on hb)
    replace HO := hidB (own_onH HO.out hb)
    replace B := hidB (B.out.trans (hb.mono B.out.size))
    clear hb
    rcases Nat.eq_zero_or_pos i with h0 | h0
    · subst h0
      go_wp2_with fail
      go_ret
      exact ⟨rfl, B.out⟩
    obtain ⟨g2, c2', hsl⟩ := own_some HO.out h0
    simp only [Value.slice.injEq] at hsl
    obtain ⟨rfl, _, rfl⟩ := hsl
    have l0 : w6.cell? ⟨g2, i - 1, none⟩ = some (.int .i64 0) := own_at HO.out (nats_at (dwn_lastL (by omega) h0))
    obtain ⟨j, rfl⟩ : ∃ j, i = j + 1 := ⟨i - 1, by omega⟩
    have e1 : ((j + 1 : Nat) : Int) - 1 = (j : Int) := by omega
    rw [Nat.add_sub_cancel] at l0
    have hj0 : (0 : Int) ≤ (j : Int) := by omega
    have hjp : (0 : Int) < ((j + 1 : Nat) : Int) := by omega
    skip
    rcases Nat.lt_or_ge 64 (j + 1) with h64 | h64
    · have h64n := h64
      rw [if_pos h64]
      have h64a : ¬ ((j + 1 : Nat) : Int) ≤ 64 := by omega
      have h64b : (64 : Int) < ((j + 1 : Nat) : Int) := by omega
      clear h64 h64n
      obtain ⟨cc, t, d, ht, hcc, hd, rv1, as1, dw1, cu1, ar1⟩ := long_rv (cu := cu) (j := j) HC.out (by omega)
      have hj1 : ((j + 1 : Nat) : Int) ≠ 0 := by omega
      have hjb : (((j + 1 : Nat) : Int) == 0) = false := by rw [beq_eq_false_iff_ne]; exact hj1
      have RV1 := hidB rv1
      have AS1 := hidB as1
      have DW1 := hidB dw1
      have CU1 := hidB cu1
      have AR1 := hidB ar1
      have HD := hidB hd
      have HT1 := hidB ht
      have HCC := hidB hcc
      clear rv1 as1 dw1 cu1 ar1 hd ht hcc
      go_upto_region 22 with fail
      rw [HCC.out, HT1.out]
      clear HCC hj1 hjb
      go_wp2_with (first | ((with_reducible refine ldId 25 (.tmp 7) ?_); refine wpList_load_row (by rfl) 25 (.tmp 7) (by rfl) (g7) (by rfl) 25 (#[.slice p (longH (j + 1)).length c]) (0, 0) _ (by exact T.out) Try.underlying25 (by rfl) (by kernel_rfl) ?_))
      refine (revoke_fr (long_ok (j + 1)) (long_keys (j + 1)) FR.out.rd (cc : Int)).mono ?_; rintro e u1 ⟨hb, ⟨hne, _⟩ | ⟨_, vr, rfl, hfr⟩⟩
      · exact absurd RV1.out hne
      rw [Int.toNat_natCast] at hfr
      have okr := (long_ok (j + 1)).rev cc
      have kyr := (long_keys (j + 1)).rev cc
      generalize hHR : revH (longH (j + 1)) cc = HR at *
      clear hHR
      have FH := hidB hfr.rd
      replace B := hidB (B.out.trans (hb.mono B.out.size))
      clear hb hfr T FR HO
      obtain ⟨pr, cr, rfl⟩ := FH.out.form
      have TB := hidB (show Bk (u1.alloc (.cells #[(.slice pr HR.length cr)] 25)) u1.heap.size 25 #[(.slice pr HR.length cr)] from Bk.new u1 _ _)
      replace FH := hidB (show RdB HR (.slice pr HR.length cr) (u1.alloc (.cells #[(.slice pr HR.length cr)] 25)) from FH.out.on (box_one u1 _))
      replace B := hidB (show Below w.heap.size w (u1.alloc (.cells #[(.slice pr HR.length cr)] 25)) from B.out.alloc B.out.size _)
      go_upto_region 23 with (first | ((with_reducible refine wpId ?_); refine wpList_store_new (by rfl) 25 (.tmp 21) (.tmp 128) (by rfl) #[(.slice pr HR.length cr)] 25 _ (by rfl) (by rfl) (by kernel_rfl) (by rfl) (by rfl) ?_))
      generalize (u1.alloc (.cells #[(.slice pr HR.length cr)] 25)) = u2 at *
      generalize u1.heap.size = g21 at *
      go_wp2_with (first | ((with_reducible refine ldId 25 (.tmp 21) ?_); refine wpList_load_row (by rfl) 25 (.tmp 21) (by rfl) (g21) (by rfl) 25 (#[(.slice pr HR.length cr)]) (0, 0) _ (by exact TB.out) Try.underlying25 (by rfl) (by kernel_rfl) ?_))
      refine (down_fr okr kyr FH.out (t : Int)).mono ?_; rintro e u3 ⟨hb, ⟨hne, _⟩ | ⟨_, vd, rfl, hown⟩⟩
      · exact absurd AS1.out hne
      rw [Int.toNat_natCast] at hown
      rw [Int.toNat_natCast, CU1.out]
      have HO := hidB (own_len hown DW1.out)
      clear hown
      replace TB := hidB (TB.out.on hb)
      replace FH := hidB (FH.out.on hb)
      replace B := hidB (B.out.trans (hb.mono B.out.size))
      clear hb
      obtain ⟨qe, ce, rfl⟩ := own_sliceH HO.out
      clear HO
      go_wp2_with (first | ((with_reducible refine ldId 25 (.tmp 21) ?_); refine wpList_load_row (by rfl) 25 (.tmp 21) (by rfl) (g21) (by rfl) 25 (#[(.slice pr HR.length cr)]) (0, 0) _ (by exact TB.out) Try.underlying25 (by rfl) (by kernel_rfl) ?_))
      refine (isarr_fr okr kyr FH.out (t : Int)).mono ?_; rintro e u4 ⟨rfl, hb⟩
      rw [AR1.out]
      replace B := hidB (B.out.trans (hb.mono B.out.size))
      clear hb
      have hd := HD.out
      go_wp2_with fail
      go_ret
      exact ⟨rfl, B.out⟩
    · have h64n : ¬ 64 < j + 1 := by omega
      rw [if_neg h64n]
      have h64a : ((j + 1 : Nat) : Int) ≤ 64 := by omega
      have h64b : ¬ (64 : Int) < ((j + 1 : Nat) : Int) := by omega
      clear h64 h64n
      obtain ⟨cc, t, d, ht, hcc, hd, rv1, as1, dw1, cu1, ar1⟩ := long_rv (cu := cu) (j := j) HC.out (by omega)
      have hj1 : ((j + 1 : Nat) : Int) ≠ 0 := by omega
      have hjb : (((j + 1 : Nat) : Int) == 0) = false := by rw [beq_eq_false_iff_ne]; exact hj1
      have RV1 := hidB rv1
      have AS1 := hidB as1
      have DW1 := hidB dw1
      have CU1 := hidB cu1
      have AR1 := hidB ar1
      have HD := hidB hd
      have HT1 := hidB ht
      have HCC := hidB hcc
      clear rv1 as1 dw1 cu1 ar1 hd ht hcc
      go_upto_region 22 with fail
      rw [HCC.out, HT1.out]
      clear HCC hj1 hjb
      go_wp2_with (first | ((with_reducible refine ldId 25 (.tmp 7) ?_); refine wpList_load_row (by rfl) 25 (.tmp 7) (by rfl) (g7) (by rfl) 25 (#[.slice p (longH (j + 1)).length c]) (0, 0) _ (by exact T.out) Try.underlying25 (by rfl) (by kernel_rfl) ?_))
      refine (revoke_fr (long_ok (j + 1)) (long_keys (j + 1)) FR.out.rd (cc : Int)).mono ?_; rintro e u1 ⟨hb, ⟨hne, _⟩ | ⟨_, vr, rfl, hfr⟩⟩
      · exact absurd RV1.out hne
      rw [Int.toNat_natCast] at hfr
      have okr := (long_ok (j + 1)).rev cc
      have kyr := (long_keys (j + 1)).rev cc
      generalize hHR : revH (longH (j + 1)) cc = HR at *
      clear hHR
      have FH := hidB hfr.rd
      replace B := hidB (B.out.trans (hb.mono B.out.size))
      clear hb hfr T FR HO
      obtain ⟨pr, cr, rfl⟩ := FH.out.form
      have TB := hidB (show Bk (u1.alloc (.cells #[(.slice pr HR.length cr)] 25)) u1.heap.size 25 #[(.slice pr HR.length cr)] from Bk.new u1 _ _)
      replace FH := hidB (show RdB HR (.slice pr HR.length cr) (u1.alloc (.cells #[(.slice pr HR.length cr)] 25)) from FH.out.on (box_one u1 _))
      replace B := hidB (show Below w.heap.size w (u1.alloc (.cells #[(.slice pr HR.length cr)] 25)) from B.out.alloc B.out.size _)
      go_upto_region 23 with (first | ((with_reducible refine wpId ?_); refine wpList_store_new (by rfl) 25 (.tmp 21) (.tmp 128) (by rfl) #[(.slice pr HR.length cr)] 25 _ (by rfl) (by rfl) (by kernel_rfl) (by rfl) (by rfl) ?_))
      generalize (u1.alloc (.cells #[(.slice pr HR.length cr)] 25)) = u2 at *
      generalize u1.heap.size = g21 at *
      go_wp2_with (first | ((with_reducible refine ldId 25 (.tmp 21) ?_); refine wpList_load_row (by rfl) 25 (.tmp 21) (by rfl) (g21) (by rfl) 25 (#[(.slice pr HR.length cr)]) (0, 0) _ (by exact TB.out) Try.underlying25 (by rfl) (by kernel_rfl) ?_))
      refine (down_fr okr kyr FH.out (t : Int)).mono ?_; rintro e u3 ⟨hb, ⟨hne, _⟩ | ⟨_, vd, rfl, hown⟩⟩
      · exact absurd AS1.out hne
      rw [Int.toNat_natCast] at hown
      rw [Int.toNat_natCast, CU1.out]
      have HO := hidB (own_len hown DW1.out)
      clear hown
      replace TB := hidB (TB.out.on hb)
      replace FH := hidB (FH.out.on hb)
      replace B := hidB (B.out.trans (hb.mono B.out.size))
      clear hb
      obtain ⟨qe, ce, rfl⟩ := own_sliceH HO.out
      clear HO
      go_wp2_with (first | ((with_reducible refine ldId 25 (.tmp 21) ?_); refine wpList_load_row (by rfl) 25 (.tmp 21) (by rfl) (g21) (by rfl) 25 (#[(.slice pr HR.length cr)]) (0, 0) _ (by exact TB.out) Try.underlying25 (by rfl) (by kernel_rfl) ?_))
      refine (isarr_fr okr kyr FH.out (t : Int)).mono ?_; rintro e u4 ⟨rfl, hb⟩
      rw [AR1.out]
      replace B := hidB (B.out.trans (hb.mono B.out.size))
      clear hb
      have hd := HD.out
      go_wp2_with fail
      go_ret
      exact ⟨rfl, B.out⟩

end Go.Proofs.Ytnidamkgfgddfaa
