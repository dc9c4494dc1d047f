/-
  A proxy without traps is its target: the walk of alive.
-/
import Derived.Test.YtbmaodlghglopaaGreatDoorMxOA
namespace Go.Proofs.YtbmaodlghglopaaGreatDoor
open Go.RowKit

theorem liv_fresh {B : Nat} {m : Nat} {h : HI} {v : Value} {w : World} (ho : w.ownsRow B 42 18 v m (flatH h)) (hl : m = h.length) (hp : ∀ e ∈ h, e.2 = [] ∧ e.1.props = .slice none 0 0) : FreshH B h v w :=
  ⟨hl ▸ ho, fun e he => by
    rw [(hp e he).1, (hp e he).2]
    exact ⟨⟨none, 0, rfl, Nat.le_refl _, by unfold maxLen; omega, fun h0 => absurd h0 (by simp)⟩, fun h0 => absurd h0 (by simp)⟩⟩
theorem flatH_app (a b : HI) : flatH (a ++ b) = flatH a ++ flatH b := by unfold flatH; rw [List.flatMap_append]
theorem flatH_1 (o : OJ) : flatH [(o, [])] = o.cs.toList := by simp [flatH, objF]
set_option maxHeartbeats 8000000 in
set_option maxRecDepth 100000 in
theorem aliveT_any (w : World) : Calls Tryz.prog 5 #[] w fun e w' => e = .returned (.bool true) ∧ Below w.heap.size w w' := by
  have N := hidB (show Bk (w.alloc (.cells nullV.cells.toArray 29)) w.heap.size 29 nullV.cells.toArray from Bk.new w _ _)
  have B := hidB (box_one w (.cells nullV.cells.toArray 29))
  go_enter Tryz.func5, Tryz.ntmps5
  go_upto_region 2 with (first | ((with_reducible refine wpId ?_); refine wpList_build_to (by rfl) 29 _ (by rfl) (nullV.cells.toArray) (by kernel_rfl) ?_) | ((with_reducible refine wpId ?_); refine wpList_store_new (by rfl) 29 (.tmp 1) (.tmp 10) (by rfl) nullV.cells.toArray 29 _ (by rfl) (by rfl) (by kernel_rfl) (by rfl) (by exact vi_one1 nullV) ?_))
  generalize hW : (w.alloc (.cells nullV.cells.toArray 29)) = w1 at *
  clear hW
  skip
  have BK := hidB (show Bk (w1.alloc (.cells (liv0.cs.toList ++ liv1.cs.toList).toArray 42)) w1.heap.size 42 (liv0.cs.toList ++ liv1.cs.toList).toArray from Bk.new w1 _ _)
  have B2 := hidB (box_one w1 (.cells (liv0.cs.toList ++ liv1.cs.toList).toArray 42))
  go_upto_region 3 with (first | ((with_reducible refine ldId 29 (.tmp 1) ?_); refine wpList_load_row (by rfl) 29 (.tmp 1) (by rfl) (w.heap.size) (by rfl) 29 (nullV.cells.toArray) (0, 0) _ (by exact N.out) Tryz.underlying29 (by rfl) (by kernel_rfl) ?_) | ((with_reducible refine wpId ?_); refine wpList_build_to (by rfl) 42 #[(0, .const (.int .u8 1)), (1, .tmp 11), (2, .const (.bool true))] (by rfl) (liv0.cs) (by kernel_rfl) ?_) | ((with_reducible refine wpId ?_); refine wpList_build_to (by rfl) 42 #[(0, .const (.int .u8 5)), (1, .tmp 13), (2, .const (.bool true)), (7, .const (.bool true))] (by rfl) (liv1.cs) (by kernel_rfl) ?_) | ((with_reducible refine wpId ?_); refine wpList_build_to (by rfl) 29 #[(0, .const (.int .u8 6))] (by rfl) ((thV 0).cells.toArray) (by kernel_rfl) ?_) | ((with_reducible refine wpId ?_); refine wpList_mkSliceH (by rfl) 22 42 2 18 _ (by rfl) [(0, liv0.a), (1, liv1.a)] (by kernel_rfl) (.agg zeroObjH) (liv0.cs.toList ++ liv1.cs.toList).toArray Tryz.underlying22 (by kernel_rfl) (by decide) (by decide) (by kernel_rfl) ?_; generalize hW3 : (w1.alloc (.cells (liv0.cs.toList ++ liv1.cs.toList).toArray 42)) = w2 at *) | ((with_reducible refine wpId ?_); refine wpList_store_new (by rfl) 24 (.tmp 2) (.tmp 16) (by rfl) #[(.slice (some ⟨w1.heap.size, 0, none⟩) 2 2)] 24 _ (by rfl) (by rfl) (by kernel_rfl) (by rfl) (by rfl) ?_))
  clear hW3
  have B3 := hidB (box_one w2 (.cells #[(.slice (some ⟨w1.heap.size, 0, none⟩) 2 2)] 24))
  have HH := hidB (show Bk (w2.alloc (.cells #[(.slice (some ⟨w1.heap.size, 0, none⟩) 2 2)] 24)) w2.heap.size 24 #[(.slice (some ⟨w1.heap.size, 0, none⟩) 2 2)] from Bk.new w2 _ _)
  have HG1 := hidB B.out.size
  have HG2 := hidB (Nat.le_of_lt BK.out.lt)
  have HO := hidB (show (w2.alloc (.cells #[(.slice (some ⟨w1.heap.size, 0, none⟩) 2 2)] 24)).ownsRow w.heap.size 42 18 (.slice (some ⟨w1.heap.size, 0, none⟩) 2 2) 2 (flatH (livN 0)) from ⟨rfl, Or.inr ⟨w1.heap.size, 2, _, rfl, B.out.size, BK.out.on B3.out, Nat.le_refl _, by unfold maxLen; omega, rfl, rfl⟩⟩)
  have N3 := hidB (show Bk (w2.alloc (.cells #[(.slice (some ⟨w1.heap.size, 0, none⟩) 2 2)] 24)) w.heap.size 29 nullV.cells.toArray from (N.out.on B2.out).on B3.out)
  have hb3 : Below w.heap.size w (w2.alloc (.cells #[(.slice (some ⟨w1.heap.size, 0, none⟩) 2 2)] 24)) := (B.out.trans (B2.out.mono B.out.size)).trans (B3.out.mono (Nat.le_trans HG1.out HG2.out))
  have BA := hidB hb3
  have HGH := hidB (show w.heap.size ≤ w2.heap.size from Nat.le_trans HG1.out HG2.out)
  have HNH := hidB (show w.heap.size ≠ w2.heap.size from Nat.ne_of_lt (N.out.on B2.out).lt)
  clear hb3 B B2 B3 BK N HG2 HG1
  generalize hW : (w2.alloc (.cells #[(.slice (some ⟨w1.heap.size, 0, none⟩) 2 2)] 24)) = w3 at *
  generalize hG : w2.heap.size = gH at *
  generalize hG1 : w1.heap.size = g1 at *
  clear hW hG hG1
  obtain ⟨i0, hi, hz0, hz1, hz2⟩ := info_parts info_objH
  go_wp2_with fail
  go_loopw [3] (fun s3 wr => ∃ (m : Nat) (q : Option Addr) (c : Nat), m ≤ 10 ∧ s3 = .int .i64 ((m : Int) + 2) ∧ Bk wr gH 24 #[.slice q (m + 2) c] ∧ wr.ownsRow w.heap.size 42 18 (.slice q (m + 2) c) (m + 2) (flatH (livN m)) ∧ Bk wr w.heap.size 29 nullV.cells.toArray ∧ Below w.heap.size w wr) (fun s3 _ => 12 - (intOf s3).toNat)
  case atStart => exact ⟨0, _, 2, by omega, rfl, HH.out, HO.out, N3.out, BA.out⟩
  case round =>
    clear HH HO N3 BA
    obtain ⟨m, q, c, hm, rfl, hH, hO, hN, hB⟩ := hrel
    have HH := hidB hH
    have HO := hidB hO
    have N := hidB hN
    have B := hidB hB
    clear hH hO hN hB
    have hm0 : (0 : Int) ≤ (m : Int) := by omega
    have t0 : wr.cell? ⟨gH, 0, none⟩ = some (.slice q (m + 2) c) := HH.out.cell 0
    by_cases hlt : m < 10
    · have hi1 : (m : Int) + 2 < 12 := by omega
      go_upto_region 6 with fail
      have MB := hidB (show Bk (wr.alloc (.cells livP.cs 42)) wr.heap.size 42 livP.cs from Bk.new wr _ _)
      have MO := hidB (box_one wr (.cells livP.cs 42))
      have HO2 := hidB (own_on HO.out MO.out)
      have HS2 := hidB (Nat.le_trans B.out.size MO.out.size)
      have HH2 := hidB (HH.out.on MO.out)
      have N2 := hidB (N.out.on MO.out)
      have B2 := hidB (B.out.trans (MO.out.mono B.out.size))
      go_wp2_with (first | ((with_reducible refine wpId ?_); refine wpList_build_to (by rfl) 29 #[(0, .const (.int .u8 6))] (by rfl) ((thV 0).cells.toArray) (by kernel_rfl) ?_) | ((with_reducible refine wpId ?_); refine wpList_build_to (by rfl) 42 #[(0, .const (.int .u8 1)), (1, .tmp 23)] (by rfl) (livP.cs) (by kernel_rfl) ?_) | ((with_reducible refine wpId ?_); refine wpList_mkSliceH (by rfl) 22 42 1 18 _ (by rfl) [(0, livP.a)] (by kernel_rfl) (.agg zeroObjH) livP.cs Tryz.underlying22 (by kernel_rfl) (by decide) (by decide) (by kernel_rfl) ?_; generalize hWa : (wr.alloc (.cells livP.cs 42)) = w5 at *; generalize hGs : wr.heap.size = g5 at *) | (at_builtin; refine wpList_append_own _ (by rfl) (.tmp 22) (.tmp 25) 22 (by rfl) w.heap.size 42 i0 (.agg zeroObjH) 18 184 Tryz.underlying22 hi hz0 hz1 hz2 (by rfl) (by decide) _ (m + 2) _ (by rfl) HO2.out ⟨g5, 0, none⟩ 1 1 livP.cs.toList (by rfl) (by rfl) (bk_cells MB.out) (fun u hu => (Array.all_eq_true_iff_forall_mem.1 (oj_one livP rfl)) u (Array.mem_toList_iff.1 hu)) (by unfold maxLen; omega) (by omega) HS2.out ?_))
      intro v' w6 hown' hgrow _
      obtain ⟨q2, c2, rfl⟩ := own_slice hown'
      have HH3 := hidB (HH2.out.grown hgrow (own_ne_typeH HO2.out (by decide) HH2.out))
      have N3 := hidB (N2.out.grown hgrow (own_ne_typeH HO2.out (by decide) N2.out))
      have B3 := hidB (show Below w.heap.size w w6 from B2.out.grown hgrow HS2.out (fun k hk => (HO2.out.lt k hk).1))
      have HO3 := hidB hown'
      clear hown' hgrow HO2 HH2 N2 B2 MB MO HS2 t0 HH N HO B
      have t0 : w6.cell? ⟨gH, 0, none⟩ = some (.slice q (m + 2) c) := HH3.out.cell 0
      have tf : w6.frozen? ⟨gH, 0, none⟩ = false := HH3.out.free 0
      have HH7 := hidB (show Bk (w6.setCell ⟨gH, 0, none⟩ (.slice q2 (m + 2 + 1) c2)) gH 24 #[(.slice q2 (m + 2 + 1) c2)] from HH3.out.set 0 _)
      have N7 := hidB (show Bk (w6.setCell ⟨gH, 0, none⟩ (.slice q2 (m + 2 + 1) c2)) w.heap.size 29 nullV.cells.toArray from N3.out.far (p := ⟨gH, 0, none⟩) HNH.out _)
      have B7 := hidB (show Below w.heap.size w (w6.setCell ⟨gH, 0, none⟩ (.slice q2 (m + 2 + 1) c2)) from B3.out.setCell (p := ⟨gH, 0, none⟩) HGH.out _)
      have HO7 := hidB (show ((w6.setCell ⟨gH, 0, none⟩ (.slice q2 (m + 2 + 1) c2))).ownsRow w.heap.size 42 18 (.slice q2 (m + 2 + 1) c2) (m + 1 + 2) (flatH (livN (m + 1))) from by rw [← livN_more, flatH_app, flatH_1]; exact HO3.out.kept (set_grownH w6 _ _) (Or.inr (own_ne_typeH HO3.out (by decide) HH3.out)))
      go_wp2_with fail
      go_roundw
      case rel => exact ⟨m + 1, q2, c2, by omega, by go_num, HH7.out, HO7.out, N7.out, B7.out⟩
      case measure => simp [intOf]; omega
    obtain rfl : m = 10 := by omega
    clear hlt hm hm0
    go_upto_region 7 with fail
    have MB := hidB (show Bk (wr.alloc (.cells livX.cs 42)) wr.heap.size 42 livX.cs from Bk.new wr _ _)
    have MO := hidB (box_one wr (.cells livX.cs 42))
    have HO2 := hidB (own_on HO.out MO.out)
    have HS2 := hidB (Nat.le_trans B.out.size MO.out.size)
    have HH2 := hidB (HH.out.on MO.out)
    have N2 := hidB (N.out.on MO.out)
    have B2 := hidB (B.out.trans (MO.out.mono B.out.size))
    go_wp2_with (first | ((with_reducible refine ldId 29 (.tmp 1) ?_); refine wpList_load_row (by rfl) 29 (.tmp 1) (by rfl) (w.heap.size) (by rfl) 29 (nullV.cells.toArray) (0, 0) _ (by exact N.out) Tryz.underlying29 (by rfl) (by kernel_rfl) ?_) | ((with_reducible refine wpId ?_); refine wpList_build_to (by rfl) 29 #[(0, .const (.int .u8 6)), (3, .const (.int .i64 11))] (by rfl) ((thV 11).cells.toArray) (by kernel_rfl) ?_) | ((with_reducible refine wpId ?_); refine wpList_build_to (by rfl) 29 #[(0, .const (.int .u8 6)), (3, .const (.int .i64 2))] (by rfl) ((thV 2).cells.toArray) (by kernel_rfl) ?_) | ((with_reducible refine wpId ?_); refine wpList_build_to (by rfl) 42 #[(0, .const (.int .u8 6)), (1, .tmp 30), (4, .tmp 31), (5, .tmp 32)] (by rfl) (livX.cs) (by kernel_rfl) ?_) | ((with_reducible refine wpId ?_); refine wpList_mkSliceH (by rfl) 22 42 1 18 _ (by rfl) [(0, livX.a)] (by kernel_rfl) (.agg zeroObjH) livX.cs Tryz.underlying22 (by kernel_rfl) (by decide) (by decide) (by kernel_rfl) ?_; generalize hWa : (wr.alloc (.cells livX.cs 42)) = w5 at *; generalize hGs : wr.heap.size = g5 at *) | (at_builtin; refine wpList_append_own _ (by rfl) (.tmp 29) (.tmp 34) 22 (by rfl) w.heap.size 42 i0 (.agg zeroObjH) 18 184 Tryz.underlying22 hi hz0 hz1 hz2 (by rfl) (by decide) _ (10 + 2) _ (by rfl) HO2.out ⟨g5, 0, none⟩ 1 1 livX.cs.toList (by rfl) (by rfl) (bk_cells MB.out) (fun u hu => (Array.all_eq_true_iff_forall_mem.1 (oj_one livX rfl)) u (Array.mem_toList_iff.1 hu)) (by unfold maxLen; omega) (by omega) HS2.out ?_))
    intro v' w6 hown' hgrow _
    obtain ⟨q2, c2, rfl⟩ := own_slice hown'
    have HH3 := hidB (HH2.out.grown hgrow (own_ne_typeH HO2.out (by decide) HH2.out))
    have N3 := hidB (N2.out.grown hgrow (own_ne_typeH HO2.out (by decide) N2.out))
    have B3 := hidB (show Below w.heap.size w w6 from B2.out.grown hgrow HS2.out (fun k hk => (HO2.out.lt k hk).1))
    have HO3 := hidB hown'
    clear hown' hgrow HO2 HH2 N2 B2 MB MO HS2 t0 HH N HO B
    have t0 : w6.cell? ⟨gH, 0, none⟩ = some (.slice q (10 + 2) c) := HH3.out.cell 0
    have tf : w6.frozen? ⟨gH, 0, none⟩ = false := HH3.out.free 0
    have HH7 := hidB (show Bk (w6.setCell ⟨gH, 0, none⟩ (.slice q2 13 c2)) gH 24 #[(.slice q2 13 c2)] from HH3.out.set 0 _)
    have B7 := hidB (show Below w.heap.size w (w6.setCell ⟨gH, 0, none⟩ (.slice q2 13 c2)) from B3.out.setCell (p := ⟨gH, 0, none⟩) HGH.out _)
    have HO7 := hidB (show ((w6.setCell ⟨gH, 0, none⟩ (.slice q2 13 c2))).ownsRow w.heap.size 42 18 (.slice q2 13 c2) 13 (flatH livH) from by rw [show livH = livN 10 ++ [(livX, [])] from rfl, flatH_app, flatH_1]; exact HO3.out.kept (set_grownH w6 _ _) (Or.inr (own_ne_typeH HO3.out (by decide) HH3.out)))
    have FR := hidB (liv_fresh HO7.out livH_len.symm (fun e he => ⟨(livH_in he).1, (livH_in he).2.1⟩))
    clear HO3 HO7 B3 N3
    go_upto_region 8 with fail
    generalize hW : (w6.setCell ⟨gH, 0, none⟩ (.slice q2 13 c2)) = w8 at *
    clear hW t0 tf HH3
    go_wp2_with (first | ((with_reducible refine ldId 24 (.tmp 2) ?_); refine wpList_load_row (by rfl) 24 (.tmp 2) (by rfl) (gH) (by rfl) 24 (#[(.slice q2 13 c2)]) (0, 0) _ (by exact HH7.out) Tryz.underlying24 (by rfl) (by kernel_rfl) ?_) | ((with_reducible refine wpId ?_); refine wpList_build_to (by rfl) 34 #[(0, .const (.int .u8 3)), (1, .const (.int .i64 12))] (by rfl) ((extA 12).cs) (by kernel_rfl) ?_))
    refine (startR_any livH livH_ok livH_keys (.slice q2 13 c2) (extA 12) (.inl rfl) (Int.le_refl 0) (Int.le_refl 0) rfl [] (fun v hv => by cases hv) (by rw [livH_len]; decide) (fun _ => livH_props) w8 FR.out.rd ⟨none, 0, rfl, Nat.le_refl _, by unfold maxLen; omega, fun h0 => absurd h0 (by decide)⟩).mono ?_; rintro e w9 ⟨er, hb, _, hz, _, hs⟩
    obtain rfl : er = 0 := hz livH_chk (by rw [livH_len]; decide) livH_first (by decide) (by rw [livH_len]; decide) rfl rfl (by kernel_rfl) rfl (by kernel_rfl) rfl
    obtain ⟨h', hv', av, gw, T, rfl, hbare, hT, hW, hRd, hgT, hgw, hgw2, hav1, hav⟩ := hs rfl
    obtain rfl := hav rfl
    have HT2 := hidB hT
    have HW2 := hidB hW
    have HRD := hidB hRd
    have HBA := hidB hbare
    have HGT := hidB hgT
    have HGW2 := hidB hgw2
    have HGW1 := hidB hgw
    have B7S := hidB B7.out.size
    have HH9 := hidB (HH7.out.on hb)
    have B9 := hidB (B7.out.trans (hb.mono B7.out.size))
    clear hT hW hRd hbare hgT hgw hgw2 hz hs hav hav1 HH7 B7 FR
    go_wp2_with (first | ((with_reducible refine ldId 24 (.tmp 2) ?_); refine wpList_load_row (by rfl) 24 (.tmp 2) (by rfl) (gH) (by rfl) 24 (#[(.slice q2 13 c2)]) (0, 0) _ (by exact HH9.out) Tryz.underlying24 (by rfl) (by kernel_rfl) ?_) | ((with_reducible refine ldId 24 (.tmp 2) ?_); refine wpList_load_row (by rfl) 24 (.tmp 2) (by rfl) (gH) (by rfl) 24 (#[(.slice q2 13 c2)]) (0, 0) _ (by exact HH9.out) Tryz.underlying24 (by rfl) (by kernel_rfl) ?_))
    refine (next1_any h' hv' w9 gw gw T (extA 12) 1 200 (yesI false) 4 livR OI.zero (.slice q2 13 c2) w9 HRD.out (by rw [bareH_length HBA.out, livH_len]; decide) (bare_props HBA.out livH_props) (livH_beg.bare HBA.out) (by decide) (by decide) (fun tk ht => (livH_good tk ht).bare HBA.out) rfl HGT.out HT2.out HW2.out (Below.refl _ _) HGW2.out).mono ?_; rintro e w10 ⟨hx, vx, qx, cx, rfl, _, hrx, hbx, _⟩
    obtain ⟨⟨pa, cx2, rfl, _⟩, _⟩ := hrx
    have HBX := hidB hbx
    have HS10 := hidB (show w.heap.size ≤ w10.heap.size from Nat.le_trans B9.out.size hbx.size)
    have RW := hidB (show Bk ((w10.alloc (.cells #[(.slice pa hx.length cx2)] 24)).alloc (.cells Tryz.zeroCells51 51)) (w10.heap.size + 1) 51 WI.zero.cs from Bk.new2 w10 _ _ _)
    have BX := hidB (show Below w10.heap.size w10 (((w10.alloc (.cells #[(.slice pa hx.length cx2)] 24)).alloc (.cells Tryz.zeroCells51 51)).setRow (w10.heap.size + 1) (endW (yesI false)).cs) from below_setRow ((box_one w10 _).alloc (by simp) _) (Nat.le_succ _) _)
    go_upto_region 12 with (first | ((with_reducible refine stId 51 (.tmp 7) (.tmp 55) ?_); refine wpList_store_row (by rfl) 51 (.tmp 7) (.tmp 55) (by rfl) (w10.heap.size + 1) ((endW (yesI false)).cs) (by rfl) (by rfl) 51 (WI.zero.cs) (by exact RW.out) (by kernel_rfl) (by rfl) (by exact (WI.one _ rfl rfl rfl rfl)) ?_))
    have RW2 := hidB (show Bk (((w10.alloc (.cells #[(.slice pa hx.length cx2)] 24)).alloc (.cells Tryz.zeroCells51 51)).setRow (w10.heap.size + 1) (endW (yesI false)).cs) (w10.heap.size + 1) 51 (endW (yesI false)).cs from RW.out.setRow _)
    clear RW
    generalize hW : (((w10.alloc (.cells #[(.slice pa hx.length cx2)] 24)).alloc (.cells Tryz.zeroCells51 51)).setRow (w10.heap.size + 1) (endW (yesI false)).cs) = w11 at *
    clear hW
    have z0 : w11.cell? ⟨w10.heap.size + 1, 0, none⟩ = some (.int .u8 7) := RW2.out.cell 0
    have z61 : w11.cell? ⟨w10.heap.size + 1, 61, none⟩ = some (.int .u8 1) := RW2.out.cell 61
    have z66 : w11.cell? ⟨w10.heap.size + 1, 66, none⟩ = some (.bool false) := RW2.out.cell 66
    go_wp2_with fail
    go_ret
    exact ⟨rfl, (B9.out.trans (HBX.out.mono (Nat.le_trans B7S.out HGW1.out))).trans (BX.out.mono HS10.out)⟩

end Go.Proofs.YtbmaodlghglopaaGreatDoor
