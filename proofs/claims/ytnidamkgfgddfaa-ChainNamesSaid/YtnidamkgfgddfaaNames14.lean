/-
  The chapter's examples: the walk of ChainNames.
-/
import Derived.Test.YtnidamkgfgddfaaChain6
namespace Go.Proofs.Ytnidamkgfgddfaa
open Go.RowKit

def rvkH : HI := revH fourH 2
theorem rvkH_ok : HOk rvkH := fourH_ok.rev 2
theorem rvkH_keys : HKeys rvkH := fourH_keys.rev 2
theorem rv_four : rvE fourH 2 = 0 := by kernel_rfl
theorem ask_rvk : askE rvkH [3] = 0 := by kernel_rfl
theorem ask_rvk2 : askE rvkH [2] = 0 := by kernel_rfl
theorem dwn_rvk : dwn rvkH 3 = [2] := by kernel_rfl
theorem cut_rvk : cutB rvkH 3 = true := by kernel_rfl
theorem arrE_rvk : arrE rvkH 3 = 140 := by kernel_rfl
theorem arrV_rvk : arrV rvkH 3 = false := by kernel_rfl
theorem live_rvk3 : liveV rvkH 3 = true := by kernel_rfl
theorem live_rvk2 : liveV rvkH 2 = false := by kernel_rfl
theorem mk_rvk : mkE rvkH 2 0 = 140 := by kernel_rfl
theorem mk_two5 : mkE twoH 0 5 = 2 := by kernel_rfl
theorem rv_two : rvE twoH 0 = 2 := by kernel_rfl
theorem deep_two : deepV twoH 0 = 0 := by kernel_rfl
theorem ask_two : askE twoH [0] = 0 := by kernel_rfl
theorem arrE_two : arrE twoH 0 = 0 := by kernel_rfl
theorem arrV_two : arrV twoH 0 = false := by kernel_rfl

set_option maxHeartbeats 8000000 in
set_option maxRecDepth 100000 in
theorem law_names14 (w : World) : Calls Try.prog 4 #[] w fun e w' => e = .returned (.bool true) ∧ Below w.heap.size w w' := by
  go_enter Try.func4, Try.ntmps4
  have B := hidB (Below.refl w.heap.size w)
  go_wp2_with fail
  refine (four_any _).mono ?_; rintro e u1 ⟨vu1, rfl, hfr, hb⟩
  have FR := hidB hfr
  clear hfr
  replace B := hidB (B.out.trans (hb.mono B.out.size))
  clear hb
  go_wp2_with fail
  refine (revoke_fr fourH_ok fourH_keys FR.out.rd 2).mono ?_; rintro e u2 ⟨hb, ⟨hne, _⟩ | ⟨_, vr, rfl, hfr⟩⟩
  · exact absurd rv_four hne
  have FH := hidB (show RdB rvkH vr u2 from hfr.rd)
  clear hfr FR
  replace B := hidB (B.out.trans (hb.mono B.out.size))
  clear hb
  obtain ⟨pr, cr, rfl⟩ := FH.out.form
  have TB := hidB (show Bk (u2.alloc (.cells #[(.slice pr rvkH.length cr)] 25)) u2.heap.size 25 #[(.slice pr rvkH.length cr)] from Bk.new u2 _ _)
  replace FH := hidB (show RdB rvkH (.slice pr rvkH.length cr) (u2.alloc (.cells #[(.slice pr rvkH.length cr)] 25)) from FH.out.on (box_one u2 _))
  replace B := hidB (show Below w.heap.size w (u2.alloc (.cells #[(.slice pr rvkH.length cr)] 25)) from B.out.alloc B.out.size _)
  go_upto_region 2 with (first | ((with_reducible refine wpId ?_); refine wpList_store_new (by rfl) 25 (.tmp 1) (.tmp 27) (by rfl) #[(.slice pr rvkH.length cr)] 25 _ (by rfl) (by rfl) (by kernel_rfl) (by rfl) (by rfl) ?_))
  generalize (u2.alloc (.cells #[(.slice pr rvkH.length cr)] 25)) = wh at *
  generalize u2.heap.size = gh at *
  go_wp2_with (first | ((with_reducible refine ldId 25 (.tmp 1) ?_); refine wpList_load_row (by rfl) 25 (.tmp 1) (by rfl) (gh) (by rfl) 25 (#[(.slice pr rvkH.length cr)]) (0, 0) _ (by exact TB.out) Try.underlying25 (by rfl) (by kernel_rfl) ?_))
  refine (down_fr rvkH_ok rvkH_keys FH.out 3).mono ?_; rintro e u3 ⟨hb, ⟨hne, _⟩ | ⟨_, vd, rfl, hown⟩⟩
  · exact absurd ask_rvk hne
  rw [show ((3 : Int).toNat) = 3 from rfl, dwn_rvk] at hown
  rw [show ((3 : Int).toNat) = 3 from rfl, cut_rvk]
  have HO := hidB hown
  clear hown
  replace FH := hidB (FH.out.on hb)
  replace TB := hidB (TB.out.on hb)
  replace B := hidB (B.out.trans (hb.mono B.out.size))
  clear hb
  obtain ⟨gd, cd, rfl⟩ := own_some HO.out (by decide)
  go_wp2_with (first | ((with_reducible refine ldId 25 (.tmp 1) ?_); refine wpList_load_row (by rfl) 25 (.tmp 1) (by rfl) (gh) (by rfl) 25 (#[(.slice pr rvkH.length cr)]) (0, 0) _ (by exact TB.out) Try.underlying25 (by rfl) (by kernel_rfl) ?_))
  refine (isarr_fr rvkH_ok rvkH_keys FH.out 3).mono ?_; rintro e u4 ⟨rfl, hb⟩
  rw [arrE_rvk, arrV_rvk]
  replace FH := hidB (FH.out.on hb)
  replace TB := hidB (TB.out.on hb)
  replace HO := hidB (own_onH HO.out hb)
  replace B := hidB (B.out.trans (hb.mono B.out.size))
  clear hb
  go_wp2_with (first | ((with_reducible refine ldId 25 (.tmp 1) ?_); refine wpList_load_row (by rfl) 25 (.tmp 1) (by rfl) (gh) (by rfl) 25 (#[(.slice pr rvkH.length cr)]) (0, 0) _ (by exact TB.out) Try.underlying25 (by rfl) (by kernel_rfl) ?_))
  refine (live_fr rvkH_ok rvkH_keys FH.out 3).mono ?_; rintro e u5 ⟨rfl, hb⟩
  rw [live_rvk3, ask_rvk]
  replace FH := hidB (FH.out.on hb)
  replace TB := hidB (TB.out.on hb)
  replace HO := hidB (own_onH HO.out hb)
  replace B := hidB (B.out.trans (hb.mono B.out.size))
  clear hb
  go_wp2_with (first | ((with_reducible refine ldId 25 (.tmp 1) ?_); refine wpList_load_row (by rfl) 25 (.tmp 1) (by rfl) (gh) (by rfl) 25 (#[(.slice pr rvkH.length cr)]) (0, 0) _ (by exact TB.out) Try.underlying25 (by rfl) (by kernel_rfl) ?_))
  refine (live_fr rvkH_ok rvkH_keys FH.out 2).mono ?_; rintro e u6 ⟨rfl, hb⟩
  rw [live_rvk2, ask_rvk2]
  replace FH := hidB (FH.out.on hb)
  replace TB := hidB (TB.out.on hb)
  replace HO := hidB (own_onH HO.out hb)
  replace B := hidB (B.out.trans (hb.mono B.out.size))
  clear hb
  go_wp2_with (first | ((with_reducible refine ldId 25 (.tmp 1) ?_); refine wpList_load_row (by rfl) 25 (.tmp 1) (by rfl) (gh) (by rfl) 25 (#[(.slice pr rvkH.length cr)]) (0, 0) _ (by exact TB.out) Try.underlying25 (by rfl) (by kernel_rfl) ?_))
  refine (make_fr rvkH_ok rvkH_keys FH.out 2 0).mono ?_; rintro e u7 ⟨hb, ⟨_, rfl⟩ | ⟨h0, _⟩⟩
  rotate_left
  · rw [mk_rvk] at h0; cases h0
  rw [mk_rvk]
  replace FH := hidB (FH.out.on hb)
  replace TB := hidB (TB.out.on hb)
  replace HO := hidB (own_onH HO.out hb)
  replace B := hidB (B.out.trans (hb.mono B.out.size))
  clear hb
  replace FH := hidB (FH.out.on (box_one u7 (.cells #[.slice none 0 0] 25)))
  replace TB := hidB (TB.out.on (box_one u7 (.cells #[.slice none 0 0] 25)))
  replace HO := hidB (own_onH HO.out (box_one u7 (.cells #[.slice none 0 0] 25)))
  replace B := hidB (show Below w.heap.size w (u7.alloc (.cells #[.slice none 0 0] 25)) from B.out.alloc B.out.size _)
  go_upto_region 7 with (first | ((with_reducible refine wpId ?_); refine wpList_store_new (by rfl) 25 (.tmp 12) (.tmp 53) (by rfl) #[.slice none 0 0] 25 _ (by rfl) (by rfl) (by kernel_rfl) (by rfl) (by rfl) ?_))
  generalize (u7.alloc (.cells #[.slice none 0 0] 25)) = wu7 at *
  clear FH TB
  go_wp2_with fail
  refine (two_any _).mono ?_; rintro e u8 ⟨vu8, rfl, hfr, hb⟩
  have FR := hidB hfr
  clear hfr
  replace HO := hidB (own_onH HO.out hb)
  replace B := hidB (B.out.trans (hb.mono B.out.size))
  clear hb
  go_wp2_with fail
  refine (make_fr twoH_ok twoH_keys FR.out.rd 0 5).mono ?_; rintro e u9 ⟨hb, ⟨_, rfl⟩ | ⟨h0, _⟩⟩
  rotate_left
  · rw [mk_two5] at h0; cases h0
  rw [mk_two5]
  clear FR
  replace HO := hidB (own_onH HO.out hb)
  replace B := hidB (B.out.trans (hb.mono B.out.size))
  clear hb
  replace HO := hidB (own_onH HO.out (box_one u9 (.cells #[.slice none 0 0] 25)))
  replace B := hidB (show Below w.heap.size w (u9.alloc (.cells #[.slice none 0 0] 25)) from B.out.alloc B.out.size _)
  go_upto_region 8 with (first | ((with_reducible refine wpId ?_); refine wpList_store_new (by rfl) 25 (.tmp 15) (.tmp 59) (by rfl) #[.slice none 0 0] 25 _ (by rfl) (by rfl) (by kernel_rfl) (by rfl) (by rfl) ?_))
  generalize (u9.alloc (.cells #[.slice none 0 0] 25)) = wu9 at *
  go_wp2_with fail
  refine (two_any _).mono ?_; rintro e u10 ⟨vu10, rfl, hfr, hb⟩
  have FR := hidB hfr
  clear hfr
  replace HO := hidB (own_onH HO.out hb)
  replace B := hidB (B.out.trans (hb.mono B.out.size))
  clear hb
  go_wp2_with fail
  refine (revoke_fr twoH_ok twoH_keys FR.out.rd 0).mono ?_; rintro e u11 ⟨hb, ⟨_, rfl⟩ | ⟨h0, _⟩⟩
  rotate_left
  · rw [rv_two] at h0; cases h0
  rw [rv_two]
  clear FR
  replace HO := hidB (own_onH HO.out hb)
  replace B := hidB (B.out.trans (hb.mono B.out.size))
  clear hb
  replace HO := hidB (own_onH HO.out (box_one u11 (.cells #[.slice none 0 0] 25)))
  replace B := hidB (show Below w.heap.size w (u11.alloc (.cells #[.slice none 0 0] 25)) from B.out.alloc B.out.size _)
  go_upto_region 9 with (first | ((with_reducible refine wpId ?_); refine wpList_store_new (by rfl) 25 (.tmp 18) (.tmp 65) (by rfl) #[.slice none 0 0] 25 _ (by rfl) (by rfl) (by kernel_rfl) (by rfl) (by rfl) ?_))
  generalize (u11.alloc (.cells #[.slice none 0 0] 25)) = wu11 at *
  go_wp2_with fail
  refine (two_any _).mono ?_; rintro e u12 ⟨vu12, rfl, hfr, hb⟩
  have FR := hidB hfr
  clear hfr
  replace HO := hidB (own_onH HO.out hb)
  replace B := hidB (B.out.trans (hb.mono B.out.size))
  clear hb
  go_wp2_with fail
  refine (deep_fr twoH_ok twoH_keys FR.out.rd 0).mono ?_; rintro e u13 ⟨rfl, hb⟩
  rw [deep_two, ask_two]
  replace HO := hidB (own_onH HO.out hb)
  replace FR := hidB (FR.out.on hb)
  replace B := hidB (B.out.trans (hb.mono B.out.size))
  clear hb
  clear FR
  go_wp2_with fail
  refine (two_any _).mono ?_; rintro e u14 ⟨vu14, rfl, hfr, hb⟩
  have FR := hidB hfr
  clear hfr
  replace HO := hidB (own_onH HO.out hb)
  replace B := hidB (B.out.trans (hb.mono B.out.size))
  clear hb
  go_wp2_with fail
  refine (isarr_fr twoH_ok twoH_keys FR.out.rd 0).mono ?_; rintro e u15 ⟨rfl, hb⟩
  rw [arrE_two, arrV_two]
  replace HO := hidB (own_onH HO.out hb)
  replace FR := hidB (FR.out.on hb)
  replace B := hidB (B.out.trans (hb.mono B.out.size))
  clear hb
  clear FR
  go_wp2_with fail
  refine (alive14_any _).mono ?_; rintro e u16 ⟨rfl, hb⟩
  replace HO := hidB (own_onH HO.out hb)
  replace B := hidB (B.out.trans (hb.mono B.out.size))
  clear hb
  have c0 : u16.cell? ⟨gd, 0, none⟩ = some (.int .i64 2) := own_at HO.out rfl
  go_wp2_with fail
  go_ret
  exact ⟨rfl, B.out⟩

end Go.Proofs.Ytnidamkgfgddfaa
