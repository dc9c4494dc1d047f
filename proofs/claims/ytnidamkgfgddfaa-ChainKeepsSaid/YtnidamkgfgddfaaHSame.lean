/-
  A heap is the same as one that reads alike: heap.Same, heap.alike, heap.like.
-/
import Derived.Test.YtnidamkgfgddfaaChainQ
import Derived.Deep.LoopGhost
namespace Go.Proofs.Ytnidamkgfgddfaa
open Go.RowKit

theorem eqV_self {k : Int} {x : Nat} {s : ByteArray} {r : Int} (h : Fl.isNaN x = false) : eqV k k x x s s r r = true := by
  unfold eqV
  rw [ordE h]
  simp
theorem KI.eq_self (k : KI) : KI.eq k k = true := by unfold KI.eq; simp
theorem eqV_zeroed {k : Int} {s : ByteArray} {r : Int} : eqV k k 0 0 s s r r = true := eqV_self (by decide)

set_option maxHeartbeats 8000000 in
set_option maxRecDepth 100000 in
theorem like_self (v : VI) (w : World) : Calls Try.prog 28 #[v.a, v.a] w fun e w' => e = .returned (.bool true) ∧ Below w.heap.size w w' := by
  obtain ⟨k, x, s, r⟩ := v
  have z1 : Try.prog.eqGuardType Try.prog.depth 46 = false := guard_val
  have X := hidB (show Bk ((w.alloc (.cells (#[.int .u8 k, .float .f64 x, .string s, .int .i64 r]) 46)).alloc (.cells (#[.int .u8 k, .float .f64 x, .string s, .int .i64 r]) 46)) (w.heap.size) 46 (#[.int .u8 k, .float .f64 x, .string s, .int .i64 r]) from (Bk.new w _ _).alloc _)
  have Y := hidB (show Bk ((w.alloc (.cells (#[.int .u8 k, .float .f64 x, .string s, .int .i64 r]) 46)).alloc (.cells (#[.int .u8 k, .float .f64 x, .string s, .int .i64 r]) 46)) (w.heap.size + 1) 46 (#[.int .u8 k, .float .f64 x, .string s, .int .i64 r]) from Bk.new2 w _ _ _)
  have B := hidB (show Below w.heap.size w ((w.alloc (.cells (#[.int .u8 k, .float .f64 x, .string s, .int .i64 r]) 46)).alloc (.cells (#[.int .u8 k, .float .f64 x, .string s, .int .i64 r]) 46)) from (box_one w _).alloc (by simp) _)
  go_enter Try.func28, Try.ntmps28
  go_upto_region 1 with fail
  generalize hW : ((w.alloc (.cells (#[.int .u8 k, .float .f64 x, .string s, .int .i64 r]) 46)).alloc (.cells (#[.int .u8 k, .float .f64 x, .string s, .int .i64 r]) 46)) = w1 at *
  clear hW
  have x1 : w1.cell? ⟨w.heap.size, 1, none⟩ = some (.float .f64 x) := X.out.cell 1
  have y1 : w1.cell? ⟨w.heap.size + 1, 1, none⟩ = some (.float .f64 x) := Y.out.cell 1
  cases hn : Fl.isNaN x
  · have o1 := ordE hn
    have E0 := equal_val 9998 k k x x s s r r w1
    rw [eqV_self hn] at E0
    clear hn
    go_upto_region 3 with fail
    clear x1 y1
    go_wp2_with (first | ((with_reducible refine ldId 46 (.tmp 2) ?_); refine wpList_load_row (by rfl) 46 (.tmp 2) (by rfl) (w.heap.size) (by rfl) 46 (#[.int .u8 k, .float .f64 x, .string s, .int .i64 r]) (0, 0) _ (by exact X.out) Try.underlying46 (by rfl) (by kernel_rfl) ?_) | ((with_reducible refine ldId 46 (.tmp 3) ?_); refine wpList_load_row (by rfl) 46 (.tmp 3) (by rfl) (w.heap.size + 1) (by rfl) 46 (#[.int .u8 k, .float .f64 x, .string s, .int .i64 r]) (0, 0) _ (by exact Y.out) Try.underlying46 (by rfl) (by kernel_rfl) ?_))
    go_ret
    exact ⟨rfl, B.out⟩
  · have o1 := ordN hn x
    have f1 : w1.frozen? ⟨w.heap.size, 1, none⟩ = false := X.out.free 1
    have f2 : w1.frozen? ⟨w.heap.size + 1, 1, none⟩ = false := Y.out.free 1
    have X2 := hidB (show Bk ((w1.setCell ⟨w.heap.size, 1, none⟩ (.float .f64 0)).setCell ⟨w.heap.size + 1, 1, none⟩ (.float .f64 0)) (w.heap.size) 46 #[.int .u8 k, .float .f64 0, .string s, .int .i64 r] from (X.out.set 1 _).far (p := ⟨w.heap.size + 1, 1, none⟩) (by simp) _)
    have Y2 := hidB (show Bk ((w1.setCell ⟨w.heap.size, 1, none⟩ (.float .f64 0)).setCell ⟨w.heap.size + 1, 1, none⟩ (.float .f64 0)) (w.heap.size + 1) 46 #[.int .u8 k, .float .f64 0, .string s, .int .i64 r] from (Y.out.far (p := ⟨w.heap.size, 1, none⟩) (by simp) _).set 1 _)
    have B2 := hidB (show Below w.heap.size w ((w1.setCell ⟨w.heap.size, 1, none⟩ (.float .f64 0)).setCell ⟨w.heap.size + 1, 1, none⟩ (.float .f64 0)) from (B.out.setCell (p := ⟨w.heap.size, 1, none⟩) (Nat.le_refl _) _).setCell (p := ⟨w.heap.size + 1, 1, none⟩) (Nat.le_succ _) _)
    go_upto_region 3 with fail
    clear x1 y1 o1 f1 f2 hn X Y B
    generalize ((w1.setCell ⟨w.heap.size, 1, none⟩ (.float .f64 0)).setCell ⟨w.heap.size + 1, 1, none⟩ (.float .f64 0)) = w2 at *
    have E0 := equal_val 9998 k k 0 0 s s r r w2
    rw [eqV_zeroed] at E0
    go_wp2_with (first | ((with_reducible refine ldId 46 (.tmp 2) ?_); refine wpList_load_row (by rfl) 46 (.tmp 2) (by rfl) (w.heap.size) (by rfl) 46 (#[.int .u8 k, .float .f64 0, .string s, .int .i64 r]) (0, 0) _ (by exact X2.out) Try.underlying46 (by rfl) (by kernel_rfl) ?_) | ((with_reducible refine ldId 46 (.tmp 3) ?_); refine wpList_load_row (by rfl) 46 (.tmp 3) (by rfl) (w.heap.size + 1) (by rfl) 46 (#[.int .u8 k, .float .f64 0, .string s, .int .i64 r]) (0, 0) _ (by exact Y2.out) Try.underlying46 (by rfl) (by kernel_rfl) ?_))
    go_ret
    exact ⟨rfl, B2.out⟩
set_option maxHeartbeats 8000000 in
set_option maxRecDepth 100000 in
theorem alike_self (q : PI) (w : World) : Calls Try.prog 30 #[q.a, q.a] w fun e w' => e = .returned (.bool true) ∧ Below w.heap.size w w' := by
  have z1 : Try.prog.eqGuardType Try.prog.depth 61 = false := by kernel_rfl
  have X := hidB (show Bk ((w.alloc (.cells (q.cs) 65)).alloc (.cells (q.cs) 65)) (w.heap.size) 65 (q.cs) from (Bk.new w _ _).alloc _)
  have Y := hidB (show Bk ((w.alloc (.cells (q.cs) 65)).alloc (.cells (q.cs) 65)) (w.heap.size + 1) 65 (q.cs) from Bk.new2 w _ _ _)
  have B := hidB (show Below w.heap.size w ((w.alloc (.cells (q.cs) 65)).alloc (.cells (q.cs) 65)) from (box_one w _).alloc (by simp) _)
  go_enter Try.func30, Try.ntmps30
  go_upto_region 1 with fail
  generalize hW : ((w.alloc (.cells (q.cs) 65)).alloc (.cells (q.cs) 65)) = w1 at *
  clear hW
  go_cut [5, 6] from 7 to 64 (fun s5 s6 wx => ∃ g1 g2, s5 = .pointer (some ⟨g1, 0, none⟩) ∧ s6 = .pointer (some ⟨g2, 0, none⟩) ∧ Bk wx g1 63 q.d.cs ∧ Bk wx g2 63 q.d.cs ∧ Below w1.heap.size w1 wx)
  case first =>
    refine wp_region_noPanic ?_
    refine wp_region_held_drew (S := fun W => Below w1.heap.size w1 W) (by kernel_rfl) ?_ (fun hHeld => ?_)
    · exact (Below.refl _ _).drew
    generalize hWd : w1.drew = wd at *
    clear hWd
    first | (refine wpAnyH_take (i := 0) (v := undef) (by simp only [List.getElem?_toArray, List.getElem?_cons_zero]; exact rfl) (by kernel_rfl) (by kernel_rfl) (by kernel_rfl) (fun _ _ _ h => h) (Or.inr ⟨?_, rfl⟩) (by assumption) ?_; (rfl); try simp only [Act.put, List.setIfInBounds_toArray, List.set_cons_zero, List.set_cons_succ]) | (refine wpAnyH_take (i := 0) (v := ?_) (by simp only [List.getElem?_toArray, List.getElem?_cons_zero]; exact rfl) (by kernel_rfl) (by kernel_rfl) (by kernel_rfl) (fun _ _ _ h => h) (Or.inl ⟨?_, ?_⟩) (by assumption) ?_; rotate_left; (rfl); (focus (intro w hSw; (try dsimp only at hSw); go_simp; try with_reducible rfl)); try simp only [Act.put, List.setIfInBounds_toArray, List.set_cons_zero, List.set_cons_succ])
    (refine wpAnyH_take (i := 1) (v := q.d.a) (by simp only [List.getElem?_toArray, List.getElem?_cons_succ, List.getElem?_cons_zero]; exact rfl) (by kernel_rfl) (by kernel_rfl) (by kernel_rfl) (fun _ _ _ h => h) (yieldsIf_load_mid (by rfl) 63 (.tmp 7) (by rfl) (w.heap.size) (2) (by rfl) (q.d.cs.toList) _ (fun W hS => Bk.mid (X.out.on hS) 2 _ rfl) Try.underlying63 (by rfl) (by kernel_rfl)) (by assumption) ?_; try simp only [Act.put, List.setIfInBounds_toArray, List.set_cons_zero, List.set_cons_succ])
    first | (refine wpAnyH_take (i := 2) (v := undef) (by simp only [List.getElem?_toArray, List.getElem?_cons_succ, List.getElem?_cons_zero]; exact rfl) (by kernel_rfl) (by kernel_rfl) (by kernel_rfl) (fun _ _ _ h => h) (Or.inr ⟨?_, rfl⟩) (by assumption) ?_; (rfl); try simp only [Act.put, List.setIfInBounds_toArray, List.set_cons_zero, List.set_cons_succ]) | (refine wpAnyH_take (i := 2) (v := ?_) (by simp only [List.getElem?_toArray, List.getElem?_cons_succ, List.getElem?_cons_zero]; exact rfl) (by kernel_rfl) (by kernel_rfl) (by kernel_rfl) (fun _ _ _ h => h) (Or.inl ⟨?_, ?_⟩) (by assumption) ?_; rotate_left; (rfl); (focus (intro w hSw; (try dsimp only at hSw); go_simp; try with_reducible rfl)); try simp only [Act.put, List.setIfInBounds_toArray, List.set_cons_zero, List.set_cons_succ])
    (refine wpAnyH_take (i := 3) (v := q.d.a) (by simp only [List.getElem?_toArray, List.getElem?_cons_succ, List.getElem?_cons_zero]; exact rfl) (by kernel_rfl) (by kernel_rfl) (by kernel_rfl) (fun _ _ _ h => h) (yieldsIf_load_mid (by rfl) 63 (.tmp 9) (by rfl) (w.heap.size + 1) (2) (by rfl) (q.d.cs.toList) _ (fun W hS => Bk.mid (Y.out.on hS) 2 _ rfl) Try.underlying63 (by rfl) (by kernel_rfl)) (by assumption) ?_; try simp only [Act.put, List.setIfInBounds_toArray, List.set_cons_zero, List.set_cons_succ])
    refine wpAnyH_ready (rs := [4, 5]) (by kernel_rfl) (by simp) ?_
    refine AllReadyH.cons rfl (fun K hK => ?_) ?_
    · skip
      go_simp
      have RA := hidB (Bk.new wd 63 #[.int .u8 0, .int .u8 0, .float .f64 0, .string ⟨#[]⟩, .int .i64 0, .int .u8 0, .float .f64 0, .string ⟨#[]⟩, .int .i64 0, .int .u8 0, .float .f64 0, .string ⟨#[]⟩, .int .i64 0, .bool false, .bool false, .bool false])
      have hgB_gA := hHeld.size
      replace hHeld := hHeld.alloc hHeld.size (.cells #[.int .u8 0, .int .u8 0, .float .f64 0, .string ⟨#[]⟩, .int .i64 0, .int .u8 0, .float .f64 0, .string ⟨#[]⟩, .int .i64 0, .int .u8 0, .float .f64 0, .string ⟨#[]⟩, .int .i64 0, .bool false, .bool false, .bool false] 63)
      refine hK.out _ _ hHeld (fun _ => ?_)
      clear hK K
      try simp only [Act.put, List.setIfInBounds_toArray, List.set_cons_zero, List.set_cons_succ]
      generalize hWn : (wd.alloc (.cells #[.int .u8 0, .int .u8 0, .float .f64 0, .string ⟨#[]⟩, .int .i64 0, .int .u8 0, .float .f64 0, .string ⟨#[]⟩, .int .i64 0, .int .u8 0, .float .f64 0, .string ⟨#[]⟩, .int .i64 0, .bool false, .bool false, .bool false] 63)) = v1 at *
      clear hWn
      generalize hGn : wd.heap.size = gA at *
      clear hGn
      refine wpAnyH_ready (rs := [5]) (by kernel_rfl) (by simp) ?_
      refine AllReadyH.cons rfl (fun K hK => ?_) AllReadyH.nil
      go_simp
      have hne_gA_gB : gA ≠ v1.heap.size := Nat.ne_of_lt RA.out.lt
      replace RA := hidB (RA.out.alloc (.cells #[.int .u8 0, .int .u8 0, .float .f64 0, .string ⟨#[]⟩, .int .i64 0, .int .u8 0, .float .f64 0, .string ⟨#[]⟩, .int .i64 0, .int .u8 0, .float .f64 0, .string ⟨#[]⟩, .int .i64 0, .bool false, .bool false, .bool false] 63))
      have RB := hidB (Bk.new v1 63 #[.int .u8 0, .int .u8 0, .float .f64 0, .string ⟨#[]⟩, .int .i64 0, .int .u8 0, .float .f64 0, .string ⟨#[]⟩, .int .i64 0, .int .u8 0, .float .f64 0, .string ⟨#[]⟩, .int .i64 0, .bool false, .bool false, .bool false])
      have hgB_gB := hHeld.size
      replace hHeld := hHeld.alloc hHeld.size (.cells #[.int .u8 0, .int .u8 0, .float .f64 0, .string ⟨#[]⟩, .int .i64 0, .int .u8 0, .float .f64 0, .string ⟨#[]⟩, .int .i64 0, .int .u8 0, .float .f64 0, .string ⟨#[]⟩, .int .i64 0, .bool false, .bool false, .bool false] 63)
      refine hK.out _ _ hHeld (fun _ => ?_)
      clear hK K
      try simp only [Act.put, List.setIfInBounds_toArray, List.set_cons_zero, List.set_cons_succ]
      generalize hWn : (v1.alloc (.cells #[.int .u8 0, .int .u8 0, .float .f64 0, .string ⟨#[]⟩, .int .i64 0, .int .u8 0, .float .f64 0, .string ⟨#[]⟩, .int .i64 0, .int .u8 0, .float .f64 0, .string ⟨#[]⟩, .int .i64 0, .bool false, .bool false, .bool false] 63)) = v2 at *
      clear hWn
      generalize hGn : v1.heap.size = gB at *
      clear hGn
      refine wpAnyH_ready (rs := [6]) (by kernel_rfl) (by simp) ?_
      refine AllReadyH.cons rfl (fun K hK => ?_) AllReadyH.nil
      rw [if_pos (by kernel_rfl)]
      refine wp_store_row 63 (.tmp 5) (.tmp 8) (by rfl) gA q.d.cs (by rfl) (by rfl) 63 #[.int .u8 0, .int .u8 0, .float .f64 0, .string ⟨#[]⟩, .int .i64 0, .int .u8 0, .float .f64 0, .string ⟨#[]⟩, .int .i64 0, .int .u8 0, .float .f64 0, .string ⟨#[]⟩, .int .i64 0, .bool false, .bool false, .bool false] (by exact RA.out) (by kernel_rfl) (by rfl) (by exact (DI.one q.d)) ?_
      replace RB := hidB (RB.out.setRow_far (show gA ≠ gB by omega) q.d.cs)
      replace RA := hidB (RA.out.setRow q.d.cs)
      replace hHeld := below_setRow hHeld hgB_gA q.d.cs
      refine put_none_K (by first | rfl | kernel_rfl) ?_
      refine hK.out _ _ hHeld (fun _ => ?_)
      clear hK K
      generalize hWn : v2.setRow gA q.d.cs = v3 at *
      clear hWn
      refine wpAnyH_ready (rs := [7]) (by kernel_rfl) (by simp) ?_
      refine AllReadyH.cons rfl (fun K hK => ?_) AllReadyH.nil
      rw [if_pos (by kernel_rfl)]
      refine wp_store_row 63 (.tmp 6) (.tmp 10) (by rfl) gB q.d.cs (by rfl) (by rfl) 63 #[.int .u8 0, .int .u8 0, .float .f64 0, .string ⟨#[]⟩, .int .i64 0, .int .u8 0, .float .f64 0, .string ⟨#[]⟩, .int .i64 0, .int .u8 0, .float .f64 0, .string ⟨#[]⟩, .int .i64 0, .bool false, .bool false, .bool false] (by exact RB.out) (by kernel_rfl) (by rfl) (by exact (DI.one q.d)) ?_
      replace RA := hidB (RA.out.setRow_far (show gB ≠ gA by omega) q.d.cs)
      replace RB := hidB (RB.out.setRow q.d.cs)
      replace hHeld := below_setRow hHeld hgB_gB q.d.cs
      refine put_none_K (by first | rfl | kernel_rfl) ?_
      refine hK.out _ _ hHeld (fun _ => ?_)
      clear hK K
      generalize hWn : v3.setRow gB q.d.cs = v4 at *
      clear hWn
      refine wpAnyH_done (by kernel_rfl) ?_ _
      refine NoPanic.normal ?_
      go_wp2_with fail
      go_meet
      case rel => exact ⟨_, _, rfl, rfl, RA.out, RB.out, hHeld⟩
    refine AllReadyH.cons rfl (fun K hK => ?_) AllReadyH.nil
    go_simp
    have RB := hidB (Bk.new wd 63 #[.int .u8 0, .int .u8 0, .float .f64 0, .string ⟨#[]⟩, .int .i64 0, .int .u8 0, .float .f64 0, .string ⟨#[]⟩, .int .i64 0, .int .u8 0, .float .f64 0, .string ⟨#[]⟩, .int .i64 0, .bool false, .bool false, .bool false])
    have hgB_gB := hHeld.size
    replace hHeld := hHeld.alloc hHeld.size (.cells #[.int .u8 0, .int .u8 0, .float .f64 0, .string ⟨#[]⟩, .int .i64 0, .int .u8 0, .float .f64 0, .string ⟨#[]⟩, .int .i64 0, .int .u8 0, .float .f64 0, .string ⟨#[]⟩, .int .i64 0, .bool false, .bool false, .bool false] 63)
    refine hK.out _ _ hHeld (fun _ => ?_)
    clear hK K
    try simp only [Act.put, List.setIfInBounds_toArray, List.set_cons_zero, List.set_cons_succ]
    generalize hWn : (wd.alloc (.cells #[.int .u8 0, .int .u8 0, .float .f64 0, .string ⟨#[]⟩, .int .i64 0, .int .u8 0, .float .f64 0, .string ⟨#[]⟩, .int .i64 0, .int .u8 0, .float .f64 0, .string ⟨#[]⟩, .int .i64 0, .bool false, .bool false, .bool false] 63)) = v1 at *
    clear hWn
    generalize hGn : wd.heap.size = gB at *
    clear hGn
    refine wpAnyH_ready (rs := [4]) (by kernel_rfl) (by simp) ?_
    refine AllReadyH.cons rfl (fun K hK => ?_) AllReadyH.nil
    go_simp
    have hne_gB_gA : gB ≠ v1.heap.size := Nat.ne_of_lt RB.out.lt
    replace RB := hidB (RB.out.alloc (.cells #[.int .u8 0, .int .u8 0, .float .f64 0, .string ⟨#[]⟩, .int .i64 0, .int .u8 0, .float .f64 0, .string ⟨#[]⟩, .int .i64 0, .int .u8 0, .float .f64 0, .string ⟨#[]⟩, .int .i64 0, .bool false, .bool false, .bool false] 63))
    have RA := hidB (Bk.new v1 63 #[.int .u8 0, .int .u8 0, .float .f64 0, .string ⟨#[]⟩, .int .i64 0, .int .u8 0, .float .f64 0, .string ⟨#[]⟩, .int .i64 0, .int .u8 0, .float .f64 0, .string ⟨#[]⟩, .int .i64 0, .bool false, .bool false, .bool false])
    have hgB_gA := hHeld.size
    replace hHeld := hHeld.alloc hHeld.size (.cells #[.int .u8 0, .int .u8 0, .float .f64 0, .string ⟨#[]⟩, .int .i64 0, .int .u8 0, .float .f64 0, .string ⟨#[]⟩, .int .i64 0, .int .u8 0, .float .f64 0, .string ⟨#[]⟩, .int .i64 0, .bool false, .bool false, .bool false] 63)
    refine hK.out _ _ hHeld (fun _ => ?_)
    clear hK K
    try simp only [Act.put, List.setIfInBounds_toArray, List.set_cons_zero, List.set_cons_succ]
    generalize hWn : (v1.alloc (.cells #[.int .u8 0, .int .u8 0, .float .f64 0, .string ⟨#[]⟩, .int .i64 0, .int .u8 0, .float .f64 0, .string ⟨#[]⟩, .int .i64 0, .int .u8 0, .float .f64 0, .string ⟨#[]⟩, .int .i64 0, .bool false, .bool false, .bool false] 63)) = v2 at *
    clear hWn
    generalize hGn : v1.heap.size = gA at *
    clear hGn
    refine wpAnyH_ready (rs := [6]) (by kernel_rfl) (by simp) ?_
    refine AllReadyH.cons rfl (fun K hK => ?_) AllReadyH.nil
    rw [if_pos (by kernel_rfl)]
    refine wp_store_row 63 (.tmp 5) (.tmp 8) (by rfl) gA q.d.cs (by rfl) (by rfl) 63 #[.int .u8 0, .int .u8 0, .float .f64 0, .string ⟨#[]⟩, .int .i64 0, .int .u8 0, .float .f64 0, .string ⟨#[]⟩, .int .i64 0, .int .u8 0, .float .f64 0, .string ⟨#[]⟩, .int .i64 0, .bool false, .bool false, .bool false] (by exact RA.out) (by kernel_rfl) (by rfl) (by exact (DI.one q.d)) ?_
    replace RB := hidB (RB.out.setRow_far (show gA ≠ gB by omega) q.d.cs)
    replace RA := hidB (RA.out.setRow q.d.cs)
    replace hHeld := below_setRow hHeld hgB_gA q.d.cs
    refine put_none_K (by first | rfl | kernel_rfl) ?_
    refine hK.out _ _ hHeld (fun _ => ?_)
    clear hK K
    generalize hWn : v2.setRow gA q.d.cs = v3 at *
    clear hWn
    refine wpAnyH_ready (rs := [7]) (by kernel_rfl) (by simp) ?_
    refine AllReadyH.cons rfl (fun K hK => ?_) AllReadyH.nil
    rw [if_pos (by kernel_rfl)]
    refine wp_store_row 63 (.tmp 6) (.tmp 10) (by rfl) gB q.d.cs (by rfl) (by rfl) 63 #[.int .u8 0, .int .u8 0, .float .f64 0, .string ⟨#[]⟩, .int .i64 0, .int .u8 0, .float .f64 0, .string ⟨#[]⟩, .int .i64 0, .int .u8 0, .float .f64 0, .string ⟨#[]⟩, .int .i64 0, .bool false, .bool false, .bool false] (by exact RB.out) (by kernel_rfl) (by rfl) (by exact (DI.one q.d)) ?_
    replace RA := hidB (RA.out.setRow_far (show gB ≠ gA by omega) q.d.cs)
    replace RB := hidB (RB.out.setRow q.d.cs)
    replace hHeld := below_setRow hHeld hgB_gB q.d.cs
    refine put_none_K (by first | rfl | kernel_rfl) ?_
    refine hK.out _ _ hHeld (fun _ => ?_)
    clear hK K
    generalize hWn : v3.setRow gB q.d.cs = v4 at *
    clear hWn
    refine wpAnyH_done (by kernel_rfl) ?_ _
    refine NoPanic.normal ?_
    go_wp2_with fail
    go_meet
    case rel => exact ⟨_, _, rfl, rfl, RA.out, RB.out, hHeld⟩
  case rest =>
  obtain ⟨g1, g2, rfl, rfl, hA, hB, hb⟩ := hcut
  have DA := hidB hA
  have DB := hidB hB
  replace X := hidB (X.out.on hb)
  replace Y := hidB (Y.out.on hb)
  replace B := hidB (B.out.trans (hb.mono B.out.size))
  clear hA hB hb
  have E0 := equal_key 9998 q.k q.k wc
  rw [KI.eq_self] at E0
  have da_0 : wc.cell? ⟨g1, 0, none⟩ = some (.int .u8 q.d.has) := DA.out.cell 0
  have da_13 : wc.cell? ⟨g1, 13, none⟩ = some (.bool q.d.wr) := DA.out.cell 13
  have da_14 : wc.cell? ⟨g1, 14, none⟩ = some (.bool q.d.en) := DA.out.cell 14
  have da_15 : wc.cell? ⟨g1, 15, none⟩ = some (.bool q.d.cf) := DA.out.cell 15
  have db_0 : wc.cell? ⟨g2, 0, none⟩ = some (.int .u8 q.d.has) := DB.out.cell 0
  have db_13 : wc.cell? ⟨g2, 13, none⟩ = some (.bool q.d.wr) := DB.out.cell 13
  have db_14 : wc.cell? ⟨g2, 14, none⟩ = some (.bool q.d.en) := DB.out.cell 14
  have db_15 : wc.cell? ⟨g2, 15, none⟩ = some (.bool q.d.cf) := DB.out.cell 15
  go_wp2_with (first | ((with_reducible refine ldId 61 (.tmp 11) ?_); refine wpList_load_mid (by rfl) 61 (.tmp 11) (by rfl) (w.heap.size) 0 (by rfl) (q.k.cells) _ (by exact Bk.mid X.out 0 _ rfl) Try.underlying61 (by rfl) (by kernel_rfl) ?_) | ((with_reducible refine ldId 61 (.tmp 13) ?_); refine wpList_load_mid (by rfl) 61 (.tmp 13) (by rfl) (w.heap.size + 1) 0 (by rfl) (q.k.cells) _ (by exact Bk.mid Y.out 0 _ rfl) Try.underlying61 (by rfl) (by kernel_rfl) ?_) | ((with_reducible refine ldId 46 (.tmp 45) ?_); refine wpList_wload_mid 46 (.tmp 45) (by rfl) (by rfl) (g1) 1 (by rfl) (q.d.v.cells) _ (by exact Bk.mid DA.out 1 _ rfl) Try.underlying46 (by rfl) (by kernel_rfl) ?_) | ((with_reducible refine ldId 46 (.tmp 47) ?_); refine wpList_wload_mid 46 (.tmp 47) (by rfl) (by rfl) (g2) 1 (by rfl) (q.d.v.cells) _ (by exact Bk.mid DB.out 1 _ rfl) Try.underlying46 (by rfl) (by kernel_rfl) ?_))
  refine (like_self q.d.v _).mono ?_; rintro e w3 ⟨rfl, hb⟩
  replace DA := hidB (DA.out.on hb)
  replace DB := hidB (DB.out.on hb)
  replace B := hidB (B.out.trans (hb.mono B.out.size))
  clear hb
  clear da_0 da_13 da_14 da_15 db_0 db_13 db_14 db_15 E0
  go_wp2_with (first | ((with_reducible refine ldId 46 (.tmp 52) ?_); refine wpList_wload_mid 46 (.tmp 52) (by rfl) (by rfl) (g1) 5 (by rfl) (q.d.g.cells) _ (by exact Bk.mid DA.out 5 _ rfl) Try.underlying46 (by rfl) (by kernel_rfl) ?_) | ((with_reducible refine ldId 46 (.tmp 54) ?_); refine wpList_wload_mid 46 (.tmp 54) (by rfl) (by rfl) (g2) 5 (by rfl) (q.d.g.cells) _ (by exact Bk.mid DB.out 5 _ rfl) Try.underlying46 (by rfl) (by kernel_rfl) ?_))
  refine (like_self q.d.g _).mono ?_; rintro e w4 ⟨rfl, hb⟩
  replace DA := hidB (DA.out.on hb)
  replace DB := hidB (DB.out.on hb)
  replace B := hidB (B.out.trans (hb.mono B.out.size))
  clear hb
  go_wp2_with (first | ((with_reducible refine ldId 46 (.tmp 59) ?_); refine wpList_wload_mid 46 (.tmp 59) (by rfl) (by rfl) (g1) 9 (by rfl) (q.d.t.cells) _ (by exact Bk.mid DA.out 9 _ rfl) Try.underlying46 (by rfl) (by kernel_rfl) ?_) | ((with_reducible refine ldId 46 (.tmp 61) ?_); refine wpList_wload_mid 46 (.tmp 61) (by rfl) (by rfl) (g2) 9 (by rfl) (q.d.t.cells) _ (by exact Bk.mid DB.out 9 _ rfl) Try.underlying46 (by rfl) (by kernel_rfl) ?_))
  refine (like_self q.d.t _).mono ?_; rintro e w5 ⟨rfl, hb⟩
  replace DA := hidB (DA.out.on hb)
  replace DB := hidB (DB.out.on hb)
  replace B := hidB (B.out.trans (hb.mono B.out.size))
  clear hb
  go_wp2_with fail
  go_ret
  exact ⟨rfl, B.out⟩
set_option maxHeartbeats 8000000 in
set_option maxRecDepth 100000 in
theorem equalP_self (l : List PI) (v1 v2 : Value) (w : World) (hr1 : RdP l v1 w) (hr2 : RdP l v2 w) : Calls Try.prog 29 #[v1, v2, .func (.func 30) #[] #[]] w fun e w' => e = .returned (.bool true) ∧ Below w.heap.size w w' := by
  obtain ⟨pa, c, rfl, k1, k2, k3⟩ := hr1
  obtain ⟨pa2, c2, rfl, k4, k5, k6⟩ := hr2
  unfold maxLen at k2 k5
  have hlm : l.length ≤ 9223372036854775807 := by omega
  have HC1 := hidB k3
  have HC2 := hidB k6
  clear k3 k6
  go_enter Try.func29, Try.ntmps29
  go_wp2_with fail
  go_loopg [17] l.length (fun n s17 wr => ∃ i : Nat, n = l.length - i ∧ i ≤ l.length ∧ s17 = .int .i64 i ∧ Below w.heap.size w wr)
  case atStart => exact ⟨0, rfl, Nat.zero_le _, rfl, Below.refl _ _⟩
  case round =>
    obtain ⟨i, rfl, hi, rfl, hb⟩ := hrel
    have B := hidB hb
    clear hb
    have hi0 : (0 : Int) ≤ (i : Int) := by omega
    by_cases hlt : i < l.length
    rotate_left
    · obtain rfl : i = l.length := by omega
      have hx4 : ¬ ((l.length : Int) < (l.length : Int)) := by omega
      go_wp2_with fail
      go_ret
      exact ⟨rfl, B.out⟩
    have hi1 : (i : Int) < (l.length : Int) := by omega
    obtain ⟨g, o, rfl, hg, hrow⟩ := HC1.out (by omega)
    obtain ⟨g2, o2, rfl, hg2, hrow2⟩ := HC2.out (by first | omega | (rw [HL2.out]; omega))
    have HR1 := hidB (rangeOn B.out hg (hrow i hlt))
    have HR2 := hidB (rangeOn B.out hg2 (hrow2 i hlt))
    have HG2 := hidB (Nat.lt_of_lt_of_le hg2 B.out.size)
    clear hrow hrow2 hg hg2
    generalize (l[i]'hlt) = q at *
    have X := hidB (show Bk (wr.alloc (.cells q.cs 65)) wr.heap.size 65 q.cs from Bk.new wr _ _)
    have B1 := hidB (show Below w.heap.size w (wr.alloc (.cells q.cs 65)) from B.out.alloc B.out.size _)
    have HR2b := hidB (rangeOn (box_one wr (.cells q.cs 65)) HG2.out HR2.out)
    clear HR2 HG2 B
    go_upto_region 6 with (first | ((with_reducible refine ldId 65 (.tmp 20) ?_); refine wpList_load_mid (by rfl) 65 (.tmp 20) (by rfl) g (o + i * 18) (by rfl) q.cs.toList _ (by exact HR1.out) Try.underlying65 (by rfl) (by kernel_rfl) ?_) | ((with_reducible refine wpId ?_); refine wpList_store_new (by rfl) 65 (.tmp 8) (.tmp 21) (by rfl) q.cs 65 _ (by rfl) (by rfl) (by kernel_rfl) (by rfl) (by exact PI.one q) ?_))
    generalize (wr.alloc (.cells q.cs 65)) = w5 at *
    generalize wr.heap.size = gx at *
    clear HR1
    have X2 := hidB (show Bk (w5.alloc (.cells q.cs 65)) gx 65 q.cs from X.out.alloc _)
    have Y2 := hidB (show Bk (w5.alloc (.cells q.cs 65)) w5.heap.size 65 q.cs from Bk.new w5 _ _)
    have B2 := hidB (show Below w.heap.size w (w5.alloc (.cells q.cs 65)) from B1.out.alloc B1.out.size _)
    clear X B1
    go_upto_region 7 with (first | ((with_reducible refine ldId 65 (.tmp 24) ?_); refine wpList_load_mid (by rfl) 65 (.tmp 24) (by rfl) g2 (o2 + i * 18) (by rfl) q.cs.toList _ (by exact HR2b.out) Try.underlying65 (by rfl) (by kernel_rfl) ?_) | ((with_reducible refine wpId ?_); refine wpList_store_new (by rfl) 65 (.tmp 9) (.tmp 25) (by rfl) q.cs 65 _ (by rfl) (by rfl) (by kernel_rfl) (by rfl) (by exact PI.one q) ?_))
    generalize (w5.alloc (.cells q.cs 65)) = w6 at *
    generalize w5.heap.size = gy at *
    clear HR2b
    go_wp2_with (first | ((with_reducible refine ldId 65 (.tmp 8) ?_); refine wpList_load_row (by rfl) 65 (.tmp 8) (by rfl) (gx) (by rfl) 65 (q.cs) (0, 0) _ (by exact X2.out) Try.underlying65 (by rfl) (by kernel_rfl) ?_) | ((with_reducible refine ldId 65 (.tmp 9) ?_); refine wpList_load_row (by rfl) 65 (.tmp 9) (by rfl) (gy) (by rfl) 65 (q.cs) (0, 0) _ (by exact Y2.out) Try.underlying65 (by rfl) (by kernel_rfl) ?_))
    refine (alike_self q _).mono ?_; rintro e w7 ⟨rfl, hb⟩
    replace B2 := hidB (B2.out.trans (hb.mono B2.out.size))
    clear hb
    go_wp2_with fail
    go_roundg (l.length - (i + 1))
    case measure => omega
    case rel => exact ⟨i + 1, rfl, by omega, by go_num, B2.out⟩
set_option maxHeartbeats 8000000 in
set_option maxRecDepth 100000 in
theorem same1_self (o o2 : OJ) (l : List PI) (ho : bareO o2 = bareO o) (w : World) (hr1 : RdP l o.props w) (hr2 : RdP l o2.props w) : Calls Try.prog 27 #[o.a, o2.a] w fun e w' => e = .returned (.bool true) ∧ Below w.heap.size w w' := by
  have EQP := hidB (fun W (hb : Below w.heap.size w W) => equalP_self l o.props o2.props W (hr1.on hb) (hr2.on hb))
  obtain ⟨kd, pr, ext, ps, tg, hd, tx, ca, ma⟩ := o
  obtain ⟨kd2, pr2, ext2, ps2, tg2, hd2, tx2, ca2, ma2⟩ := o2
  simp only [bareO, OJ.mk.injEq] at ho
  obtain ⟨rfl, rfl, rfl, _, rfl, rfl, rfl, rfl, rfl⟩ := ho
  clear hr1 hr2
  have X := hidB (show Bk ((w.alloc (.cells ((OJ.mk kd2 pr2 ext2 ps tg2 hd2 tx2 ca2 ma2).cs) 49)).alloc (.cells ((OJ.mk kd2 pr2 ext2 ps2 tg2 hd2 tx2 ca2 ma2).cs) 49)) (w.heap.size) 49 ((OJ.mk kd2 pr2 ext2 ps tg2 hd2 tx2 ca2 ma2).cs) from (Bk.new w _ _).alloc _)
  have Y := hidB (show Bk ((w.alloc (.cells ((OJ.mk kd2 pr2 ext2 ps tg2 hd2 tx2 ca2 ma2).cs) 49)).alloc (.cells ((OJ.mk kd2 pr2 ext2 ps2 tg2 hd2 tx2 ca2 ma2).cs) 49)) (w.heap.size + 1) 49 ((OJ.mk kd2 pr2 ext2 ps2 tg2 hd2 tx2 ca2 ma2).cs) from Bk.new2 w _ _ _)
  have B := hidB (show Below w.heap.size w ((w.alloc (.cells ((OJ.mk kd2 pr2 ext2 ps tg2 hd2 tx2 ca2 ma2).cs) 49)).alloc (.cells ((OJ.mk kd2 pr2 ext2 ps2 tg2 hd2 tx2 ca2 ma2).cs) 49)) from (box_one w _).alloc (by simp) _)
  go_enter Try.func27, Try.ntmps27
  go_upto_region 1 with fail
  generalize hW : ((w.alloc (.cells ((OJ.mk kd2 pr2 ext2 ps tg2 hd2 tx2 ca2 ma2).cs) 49)).alloc (.cells ((OJ.mk kd2 pr2 ext2 ps2 tg2 hd2 tx2 ca2 ma2).cs) 49)) = w1 at *
  clear hW
  have x_0 : w1.cell? ⟨w.heap.size, 0, none⟩ = some (.int .u8 kd2) := X.out.cell 0
  have x_5 : w1.cell? ⟨w.heap.size, 5, none⟩ = some (.bool ext2) := X.out.cell 5
  have x_15 : w1.cell? ⟨w.heap.size, 15, none⟩ = some (.string tx2) := X.out.cell 15
  have x_16 : w1.cell? ⟨w.heap.size, 16, none⟩ = some (.bool ca2) := X.out.cell 16
  have x_17 : w1.cell? ⟨w.heap.size, 17, none⟩ = some (.bool ma2) := X.out.cell 17
  have x_6 : w1.cell? ⟨w.heap.size, 6, none⟩ = some (ps) := X.out.cell 6
  have y_0 : w1.cell? ⟨w.heap.size + 1, 0, none⟩ = some (.int .u8 kd2) := Y.out.cell 0
  have y_5 : w1.cell? ⟨w.heap.size + 1, 5, none⟩ = some (.bool ext2) := Y.out.cell 5
  have y_15 : w1.cell? ⟨w.heap.size + 1, 15, none⟩ = some (.string tx2) := Y.out.cell 15
  have y_16 : w1.cell? ⟨w.heap.size + 1, 16, none⟩ = some (.bool ca2) := Y.out.cell 16
  have y_17 : w1.cell? ⟨w.heap.size + 1, 17, none⟩ = some (.bool ma2) := Y.out.cell 17
  have y_6 : w1.cell? ⟨w.heap.size + 1, 6, none⟩ = some (ps2) := Y.out.cell 6
  go_wp2_with (first | ((with_reducible refine ldId 46 (.tmp 11) ?_); refine wpList_wload_mid 46 (.tmp 11) (by rfl) (by rfl) (w.heap.size) 1 (by rfl) (pr2.cells) _ (by exact Bk.mid X.out 1 _ rfl) Try.underlying46 (by rfl) (by kernel_rfl) ?_) | ((with_reducible refine ldId 46 (.tmp 13) ?_); refine wpList_wload_mid 46 (.tmp 13) (by rfl) (by rfl) (w.heap.size + 1) 1 (by rfl) (pr2.cells) _ (by exact Bk.mid Y.out 1 _ rfl) Try.underlying46 (by rfl) (by kernel_rfl) ?_))
  refine (like_self pr2 _).mono ?_; rintro e w2 ⟨rfl, hb⟩
  replace X := hidB (X.out.on hb)
  replace Y := hidB (Y.out.on hb)
  replace B := hidB (B.out.trans (hb.mono B.out.size))
  clear hb
  clear x_0 x_5 x_15 x_16 x_17 x_6 y_0 y_5 y_15 y_16 y_17 y_6
  have x_0 : w2.cell? ⟨w.heap.size, 0, none⟩ = some (.int .u8 kd2) := X.out.cell 0
  have x_5 : w2.cell? ⟨w.heap.size, 5, none⟩ = some (.bool ext2) := X.out.cell 5
  have x_15 : w2.cell? ⟨w.heap.size, 15, none⟩ = some (.string tx2) := X.out.cell 15
  have x_16 : w2.cell? ⟨w.heap.size, 16, none⟩ = some (.bool ca2) := X.out.cell 16
  have x_17 : w2.cell? ⟨w.heap.size, 17, none⟩ = some (.bool ma2) := X.out.cell 17
  have x_6 : w2.cell? ⟨w.heap.size, 6, none⟩ = some (ps) := X.out.cell 6
  have y_0 : w2.cell? ⟨w.heap.size + 1, 0, none⟩ = some (.int .u8 kd2) := Y.out.cell 0
  have y_5 : w2.cell? ⟨w.heap.size + 1, 5, none⟩ = some (.bool ext2) := Y.out.cell 5
  have y_15 : w2.cell? ⟨w.heap.size + 1, 15, none⟩ = some (.string tx2) := Y.out.cell 15
  have y_16 : w2.cell? ⟨w.heap.size + 1, 16, none⟩ = some (.bool ca2) := Y.out.cell 16
  have y_17 : w2.cell? ⟨w.heap.size + 1, 17, none⟩ = some (.bool ma2) := Y.out.cell 17
  have y_6 : w2.cell? ⟨w.heap.size + 1, 6, none⟩ = some (ps2) := Y.out.cell 6
  go_wp2_with (first | ((with_reducible refine ldId 46 (.tmp 25) ?_); refine wpList_wload_mid 46 (.tmp 25) (by rfl) (by rfl) (w.heap.size) 7 (by rfl) (tg2.cells) _ (by exact Bk.mid X.out 7 _ rfl) Try.underlying46 (by rfl) (by kernel_rfl) ?_) | ((with_reducible refine ldId 46 (.tmp 27) ?_); refine wpList_wload_mid 46 (.tmp 27) (by rfl) (by rfl) (w.heap.size + 1) 7 (by rfl) (tg2.cells) _ (by exact Bk.mid Y.out 7 _ rfl) Try.underlying46 (by rfl) (by kernel_rfl) ?_))
  refine (like_self tg2 _).mono ?_; rintro e w3 ⟨rfl, hb⟩
  replace X := hidB (X.out.on hb)
  replace Y := hidB (Y.out.on hb)
  replace B := hidB (B.out.trans (hb.mono B.out.size))
  clear hb
  clear x_0 x_5 x_15 x_16 x_17 x_6 y_0 y_5 y_15 y_16 y_17 y_6
  have x_0 : w3.cell? ⟨w.heap.size, 0, none⟩ = some (.int .u8 kd2) := X.out.cell 0
  have x_5 : w3.cell? ⟨w.heap.size, 5, none⟩ = some (.bool ext2) := X.out.cell 5
  have x_15 : w3.cell? ⟨w.heap.size, 15, none⟩ = some (.string tx2) := X.out.cell 15
  have x_16 : w3.cell? ⟨w.heap.size, 16, none⟩ = some (.bool ca2) := X.out.cell 16
  have x_17 : w3.cell? ⟨w.heap.size, 17, none⟩ = some (.bool ma2) := X.out.cell 17
  have x_6 : w3.cell? ⟨w.heap.size, 6, none⟩ = some (ps) := X.out.cell 6
  have y_0 : w3.cell? ⟨w.heap.size + 1, 0, none⟩ = some (.int .u8 kd2) := Y.out.cell 0
  have y_5 : w3.cell? ⟨w.heap.size + 1, 5, none⟩ = some (.bool ext2) := Y.out.cell 5
  have y_15 : w3.cell? ⟨w.heap.size + 1, 15, none⟩ = some (.string tx2) := Y.out.cell 15
  have y_16 : w3.cell? ⟨w.heap.size + 1, 16, none⟩ = some (.bool ca2) := Y.out.cell 16
  have y_17 : w3.cell? ⟨w.heap.size + 1, 17, none⟩ = some (.bool ma2) := Y.out.cell 17
  have y_6 : w3.cell? ⟨w.heap.size + 1, 6, none⟩ = some (ps2) := Y.out.cell 6
  go_wp2_with (first | ((with_reducible refine ldId 46 (.tmp 32) ?_); refine wpList_wload_mid 46 (.tmp 32) (by rfl) (by rfl) (w.heap.size) 11 (by rfl) (hd2.cells) _ (by exact Bk.mid X.out 11 _ rfl) Try.underlying46 (by rfl) (by kernel_rfl) ?_) | ((with_reducible refine ldId 46 (.tmp 34) ?_); refine wpList_wload_mid 46 (.tmp 34) (by rfl) (by rfl) (w.heap.size + 1) 11 (by rfl) (hd2.cells) _ (by exact Bk.mid Y.out 11 _ rfl) Try.underlying46 (by rfl) (by kernel_rfl) ?_))
  refine (like_self hd2 _).mono ?_; rintro e w4 ⟨rfl, hb⟩
  replace X := hidB (X.out.on hb)
  replace Y := hidB (Y.out.on hb)
  replace B := hidB (B.out.trans (hb.mono B.out.size))
  clear hb
  clear x_0 x_5 x_15 x_16 x_17 x_6 y_0 y_5 y_15 y_16 y_17 y_6
  have x_0 : w4.cell? ⟨w.heap.size, 0, none⟩ = some (.int .u8 kd2) := X.out.cell 0
  have x_5 : w4.cell? ⟨w.heap.size, 5, none⟩ = some (.bool ext2) := X.out.cell 5
  have x_15 : w4.cell? ⟨w.heap.size, 15, none⟩ = some (.string tx2) := X.out.cell 15
  have x_16 : w4.cell? ⟨w.heap.size, 16, none⟩ = some (.bool ca2) := X.out.cell 16
  have x_17 : w4.cell? ⟨w.heap.size, 17, none⟩ = some (.bool ma2) := X.out.cell 17
  have x_6 : w4.cell? ⟨w.heap.size, 6, none⟩ = some (ps) := X.out.cell 6
  have y_0 : w4.cell? ⟨w.heap.size + 1, 0, none⟩ = some (.int .u8 kd2) := Y.out.cell 0
  have y_5 : w4.cell? ⟨w.heap.size + 1, 5, none⟩ = some (.bool ext2) := Y.out.cell 5
  have y_15 : w4.cell? ⟨w.heap.size + 1, 15, none⟩ = some (.string tx2) := Y.out.cell 15
  have y_16 : w4.cell? ⟨w.heap.size + 1, 16, none⟩ = some (.bool ca2) := Y.out.cell 16
  have y_17 : w4.cell? ⟨w.heap.size + 1, 17, none⟩ = some (.bool ma2) := Y.out.cell 17
  have y_6 : w4.cell? ⟨w.heap.size + 1, 6, none⟩ = some (ps2) := Y.out.cell 6
  go_wp2_with fail
  refine (EQP.out _ B.out).mono ?_; rintro e w5 ⟨rfl, hb⟩
  replace B := hidB (B.out.trans (hb.mono B.out.size))
  clear hb
  clear x_0 x_5 x_15 x_16 x_17 x_6 y_0 y_5 y_15 y_16 y_17 y_6
  go_wp2_with fail
  go_ret
  exact ⟨rfl, B.out⟩
set_option maxHeartbeats 8000000 in
set_option maxRecDepth 100000 in
theorem equalH_self (h h2 : HI) (he : bareH h2 = bareH h) (v1 v2 : Value) (w : World) (hr1 : RdH h v1 w) (hr2 : RdH h2 v2 w) : Calls Try.prog 26 #[v1, v2, .func (.func 27) #[] #[]] w fun e w' => e = .returned (.bool true) ∧ Below w.heap.size w w' := by
  have hl2 := bareH_length he
  have PR1 := hidB (fun W (hb : Below w.heap.size w W) => (hr1.on hb).props)
  have PR2 := hidB (fun W (hb : Below w.heap.size w W) => (hr2.on hb).props)
  have HE := hidB he
  obtain ⟨hq1, _⟩ := hr1
  obtain ⟨hq2, _⟩ := hr2
  obtain ⟨pa, c, rfl, k1, k2, k3⟩ := hq1
  obtain ⟨pa2, c2, rfl, k4, k5, k6⟩ := hq2
  unfold maxLen at k2 k5
  have hlm : h.length ≤ 9223372036854775807 := by omega
  have HC1 := hidB k3
  have HC2 := hidB k6
  clear k3 k6
  rw [hl2] at k4 ⊢
  have HL2 := hidB hl2
  clear hl2
  go_enter Try.func26, Try.ntmps26
  go_wp2_with fail
  go_loopg [17] h.length (fun n s17 wr => ∃ i : Nat, n = h.length - i ∧ i ≤ h.length ∧ s17 = .int .i64 i ∧ Below w.heap.size w wr)
  case atStart => exact ⟨0, rfl, Nat.zero_le _, rfl, Below.refl _ _⟩
  case round =>
    obtain ⟨i, rfl, hi, rfl, hb⟩ := hrel
    have B := hidB hb
    clear hb
    have hi0 : (0 : Int) ≤ (i : Int) := by omega
    by_cases hlt : i < h.length
    rotate_left
    · obtain rfl : i = h.length := by omega
      have hx4 : ¬ ((h.length : Int) < (h.length : Int)) := by omega
      go_wp2_with fail
      go_ret
      exact ⟨rfl, B.out⟩
    have hi1 : (i : Int) < (h.length : Int) := by omega
    obtain ⟨g, o, rfl, hg, hrow⟩ := HC1.out (by omega)
    obtain ⟨g2, o2, rfl, hg2, hrow2⟩ := HC2.out (by first | omega | (rw [HL2.out]; omega))
    have hlt2 : i < h2.length := by rw [HL2.out]; exact hlt
    have HR1 := hidB (rangeOn B.out hg (hrow i hlt))
    have HR2 := hidB (rangeOn B.out hg2 (hrow2 i hlt2))
    have HG2 := hidB (Nat.lt_of_lt_of_le hg2 B.out.size)
    have HBE := hidB (bareE_two (bareH_at HE.out hlt2 hlt))
    have HP1 := hidB (PR1.out _ B.out _ (List.getElem_mem hlt))
    have HP2 := hidB (PR2.out _ B.out _ (List.getElem_mem hlt2))
    clear hrow hrow2 hg hg2
    generalize (h[i]'hlt) = e1 at *
    generalize (h2[i]'hlt2) = e2 at *
    have HBO := hidB (show bareO e2.1 = bareO e1.1 by rw [HBE.out.2]; rfl)
    rw [HBE.out.1] at HP2
    have HPS1 := hidB HP1.out.one
    have HPS2 := hidB HP2.out.one
    have HPF1 := hidB (fun W (hb : Below wr.heap.size wr W) => HP1.out.on hb)
    have HPF2 := hidB (fun W (hb : Below wr.heap.size wr W) => HP2.out.on hb)
    have BW := hidB (box_one wr (.cells e1.1.cs 49))
    have X := hidB (show Bk (wr.alloc (.cells e1.1.cs 49)) wr.heap.size 49 e1.1.cs from Bk.new wr _ _)
    have B1 := hidB (show Below w.heap.size w (wr.alloc (.cells e1.1.cs 49)) from B.out.alloc B.out.size _)
    have HR2b := hidB (rangeOn (box_one wr (.cells e1.1.cs 49)) HG2.out HR2.out)
    clear HR2 HG2 B
    go_upto_region 6 with (first | ((with_reducible refine ldId 49 (.tmp 20) ?_); refine wpList_load_mid (by rfl) 49 (.tmp 20) (by rfl) g (o + i * 18) (by rfl) e1.1.cs.toList _ (by exact HR1.out) Try.underlying49 (by rfl) (by kernel_rfl) ?_) | ((with_reducible refine wpId ?_); refine wpList_store_new (by rfl) 49 (.tmp 8) (.tmp 21) (by rfl) e1.1.cs 49 _ (by rfl) (by rfl) (by kernel_rfl) (by rfl) (by exact OJ.one _ HPS1.out) ?_))
    generalize (wr.alloc (.cells e1.1.cs 49)) = w5 at *
    generalize wr.heap.size = gx at *
    clear HR1
    have BW2 := hidB (show Below gx wr (w5.alloc (.cells e2.1.cs 49)) from BW.out.alloc (Nat.le_of_lt X.out.lt) _)
    have X2 := hidB (show Bk (w5.alloc (.cells e2.1.cs 49)) gx 49 e1.1.cs from X.out.alloc _)
    have Y2 := hidB (show Bk (w5.alloc (.cells e2.1.cs 49)) w5.heap.size 49 e2.1.cs from Bk.new w5 _ _)
    have B2 := hidB (show Below w.heap.size w (w5.alloc (.cells e2.1.cs 49)) from B1.out.alloc B1.out.size _)
    clear X B1
    go_upto_region 7 with (first | ((with_reducible refine ldId 49 (.tmp 24) ?_); refine wpList_load_mid (by rfl) 49 (.tmp 24) (by rfl) g2 (o2 + i * 18) (by rfl) e2.1.cs.toList _ (by exact HR2b.out) Try.underlying49 (by rfl) (by kernel_rfl) ?_) | ((with_reducible refine wpId ?_); refine wpList_store_new (by rfl) 49 (.tmp 9) (.tmp 25) (by rfl) e2.1.cs 49 _ (by rfl) (by rfl) (by kernel_rfl) (by rfl) (by exact OJ.one _ HPS2.out) ?_))
    generalize (w5.alloc (.cells e2.1.cs 49)) = w6 at *
    generalize w5.heap.size = gy at *
    clear HR2b
    go_wp2_with (first | ((with_reducible refine ldId 49 (.tmp 8) ?_); refine wpList_load_row (by rfl) 49 (.tmp 8) (by rfl) (gx) (by rfl) 49 (e1.1.cs) (0, 0) _ (by exact X2.out) Try.underlying49 (by rfl) (by kernel_rfl) ?_) | ((with_reducible refine ldId 49 (.tmp 9) ?_); refine wpList_load_row (by rfl) 49 (.tmp 9) (by rfl) (gy) (by rfl) 49 (e2.1.cs) (0, 0) _ (by exact Y2.out) Try.underlying49 (by rfl) (by kernel_rfl) ?_))
    refine (same1_self e1.1 e2.1 e1.2 HBO.out w6 (HPF1.out _ BW2.out) (HPF2.out _ BW2.out)).mono ?_; rintro e w7 ⟨rfl, hb⟩
    replace B2 := hidB (B2.out.trans (hb.mono B2.out.size))
    clear hb
    go_wp2_with fail
    go_roundg (h.length - (i + 1))
    case measure => omega
    case rel => exact ⟨i + 1, rfl, by omega, by go_num, B2.out⟩
set_option maxHeartbeats 8000000 in
set_option maxRecDepth 100000 in
theorem sameH_self (h h2 : HI) (he : bareH h2 = bareH h) (v1 v2 : Value) (w : World) (hr1 : RdH h v1 w) (hr2 : RdH h2 v2 w) : Calls Try.prog 17 #[.agg #[v1], .agg #[v2]] w fun e w' => e = .returned (.bool true) ∧ Below w.heap.size w w' := by
  have EQ := hidB (fun W (hb : Below w.heap.size w W) => equalH_self h h2 he v1 v2 W (hr1.on hb) (hr2.on hb))
  obtain ⟨⟨pa, c, rfl, _⟩, _⟩ := hr1
  obtain ⟨⟨pa2, c2, rfl, _⟩, _⟩ := hr2
  clear he
  have X := hidB (show Bk ((w.alloc (.cells (#[.slice pa h.length c]) 25)).alloc (.cells (#[.slice pa2 h2.length c2]) 25)) (w.heap.size) 25 (#[.slice pa h.length c]) from (Bk.new w _ _).alloc _)
  have Y := hidB (show Bk ((w.alloc (.cells (#[.slice pa h.length c]) 25)).alloc (.cells (#[.slice pa2 h2.length c2]) 25)) (w.heap.size + 1) 25 (#[.slice pa2 h2.length c2]) from Bk.new2 w _ _ _)
  have B := hidB (show Below w.heap.size w ((w.alloc (.cells (#[.slice pa h.length c]) 25)).alloc (.cells (#[.slice pa2 h2.length c2]) 25)) from (box_one w _).alloc (by simp) _)
  go_enter Try.func17, Try.ntmps17
  go_upto_region 1 with fail
  generalize hW : ((w.alloc (.cells (#[.slice pa h.length c]) 25)).alloc (.cells (#[.slice pa2 h2.length c2]) 25)) = w1 at *
  clear hW
  have x0 : w1.cell? ⟨w.heap.size, 0, none⟩ = some (.slice pa h.length c) := X.out.cell 0
  have y0 : w1.cell? ⟨w.heap.size + 1, 0, none⟩ = some (.slice pa2 h2.length c2) := Y.out.cell 0
  go_wp2_with fail
  refine (EQ.out _ B.out).mono ?_; rintro e w2 ⟨rfl, hb⟩
  replace B := hidB (B.out.trans (hb.mono B.out.size))
  clear hb x0 y0
  go_wp2_with fail
  go_ret
  exact ⟨rfl, B.out⟩

end Go.Proofs.Ytnidamkgfgddfaa
