/-
  The reference's words on values in heaps.
-/
import Derived.Test.YtnidamkgfgddfaaGreatRefTab
import Derived.Test.YtnidamkgfgddfaaGreatHeap1
namespace Go.Proofs.YtnidamkgfgddfaaGreat
open Go.RowKit

/-- An object's value. -/
def valO (o : OJ) (n : Int) : VI := ⟨kindO o, 0, ⟨#[]⟩, n⟩
theorem VI.one (v : VI) : v.cells.toArray.all (·.oneCell') = true := by
  rw [Array.all_eq_true_iff_forall_mem]
  intro u hu
  simp only [List.mem_toArray, List.mem_cons, List.not_mem_nil, or_false] at hu
  rcases hu with rfl | rfl | rfl | rfl <;> rfl
theorem isN_eq0 {x : Nat} (h : isN x = true) : (FloatKind.f64.format.order 0 x == some .eq) = true := by
  unfold isN at h
  rw [Bool.and_eq_true] at h
  have hf := Fl.fin_of_isZ h.1
  rw [Fl.eq_fin (by decide +kernel) hf, (Fl.sc_zero_iff x).2 h.1]
  decide +kernel
theorem valO_eq {o : OJ} {v : VI} (hm : v.may = true) (ho : isObj v.k = true) : eqV (kindO o) v.k 0 v.x ⟨#[]⟩ v.s v.r v.r = (kindO o == v.k) := by
  have h : isN v.x = true ∧ v.s.toList.isEmpty = true := by
    unfold VI.may mayV at hm
    unfold isObj at ho
    rw [Bool.and_eq_true, decide_eq_true_eq, decide_eq_true_eq] at ho
    rw [if_neg (by omega), if_neg (by omega), if_neg (by omega), if_neg (by omega), if_pos (by omega)] at hm
    simp only [Bool.and_eq_true] at hm
    exact hm.1
  unfold eqV
  rw [isN_eq0 h.1, show ((⟨#[]⟩ : ByteArray).toList == v.s.toList) = true from by
    rw [show (⟨#[]⟩ : ByteArray).toList = [] from by rw [ByteArray.toList_eq]]
    have := h.2
    cases hq : v.s.toList with
    | nil => rfl
    | cons a l => rw [hq] at this; cases this]
  simp
set_option maxHeartbeats 8000000 in
set_option maxRecDepth 100000 in
theorem rvalue_any (o : OJ) (n : Int) (w : World) : Calls Tryz.prog 38 #[o.a, .int .i64 n] w fun e w' => e = .returned ((valO o n).a) ∧ Below w.heap.size w w' := by
  have HK := hidB (show kindO o = if o.ma then 8 else if o.ca then 7 else 6 from rfl)
  cases hca : o.ca <;> cases hma : o.ma
  all_goals
    rw [hca, hma] at HK
    have X := hidB (show Bk ((w.alloc (.cells (o.cs) 46)).alloc (.cells (#[.int .u8 0, .float .f64 0, .string ⟨#[]⟩, .int .i64 0]) 43)) (w.heap.size) 46 (o.cs) from (Bk.new w _ _).alloc _)
    have R := hidB (show Bk ((w.alloc (.cells (o.cs) 46)).alloc (.cells (#[.int .u8 0, .float .f64 0, .string ⟨#[]⟩, .int .i64 0]) 43)) (w.heap.size + 1) 43 (#[.int .u8 0, .float .f64 0, .string ⟨#[]⟩, .int .i64 0]) from Bk.new2 w _ _ _)
    have B := hidB (show Below w.heap.size w ((w.alloc (.cells (o.cs) 46)).alloc (.cells (#[.int .u8 0, .float .f64 0, .string ⟨#[]⟩, .int .i64 0]) 43)) from (box_one w _).alloc (by simp) _)
    go_enter Tryz.func38, Tryz.ntmps38
    go_upto_region 1 with fail
    generalize hW : ((w.alloc (.cells (o.cs) 46)).alloc (.cells (#[.int .u8 0, .float .f64 0, .string ⟨#[]⟩, .int .i64 0]) 43)) = w1 at *
    clear hW
    have y7 : w1.cell? ⟨w.heap.size, 16, none⟩ = some (.bool o.ca) := X.out.cell 16
    have y8 : w1.cell? ⟨w.heap.size, 17, none⟩ = some (.bool o.ma) := X.out.cell 17
    rw [hca] at y7
    rw [hma] at y8
  · go_wp2_with (first | ((with_reducible refine wpId ?_); refine wpList_build_to (by rfl) 43 _ (by rfl) (#[.int .u8 6, .float .f64 0, .string ⟨#[]⟩, .int .i64 n]) (by kernel_rfl) ?_) | ((with_reducible refine stId 43 (.tmp 4) (.tmp 12) ?_); refine wpList_store_row (by rfl) 43 (.tmp 4) (.tmp 12) (by rfl) (w.heap.size + 1) (#[.int .u8 6, .float .f64 0, .string ⟨#[]⟩, .int .i64 n]) (by rfl) (by rfl) 43 (#[.int .u8 0, .float .f64 0, .string ⟨#[]⟩, .int .i64 0]) (by exact R.out) (by kernel_rfl) (by rfl) (by exact VI.one ⟨6, 0, ⟨#[]⟩, n⟩) ?_))
    rw [show valO o n = ⟨6, 0, ⟨#[]⟩, n⟩ from by unfold valO; rw [HK.out]; rfl]
    exact bodyPost_ret (v := .agg (#[.int .u8 6, .float .f64 0, .string ⟨#[]⟩, .int .i64 n])) (results_cell_row Tryz.results38 _ _ (w.heap.size + 1) 43 (#[.int .u8 6, .float .f64 0, .string ⟨#[]⟩, .int .i64 n]) (0, 0) _ rfl (R.out.setRow _) Tryz.underlying43 rfl (by kernel_rfl)) rfl (⟨rfl, below_setRow B.out (Nat.le_succ _) _⟩)
  · go_wp2_with (first | ((with_reducible refine wpId ?_); refine wpList_build_to (by rfl) 43 _ (by rfl) (#[.int .u8 8, .float .f64 0, .string ⟨#[]⟩, .int .i64 n]) (by kernel_rfl) ?_) | ((with_reducible refine stId 43 (.tmp 4) (.tmp 12) ?_); refine wpList_store_row (by rfl) 43 (.tmp 4) (.tmp 12) (by rfl) (w.heap.size + 1) (#[.int .u8 8, .float .f64 0, .string ⟨#[]⟩, .int .i64 n]) (by rfl) (by rfl) 43 (#[.int .u8 0, .float .f64 0, .string ⟨#[]⟩, .int .i64 0]) (by exact R.out) (by kernel_rfl) (by rfl) (by exact VI.one ⟨8, 0, ⟨#[]⟩, n⟩) ?_))
    rw [show valO o n = ⟨8, 0, ⟨#[]⟩, n⟩ from by unfold valO; rw [HK.out]; rfl]
    exact bodyPost_ret (v := .agg (#[.int .u8 8, .float .f64 0, .string ⟨#[]⟩, .int .i64 n])) (results_cell_row Tryz.results38 _ _ (w.heap.size + 1) 43 (#[.int .u8 8, .float .f64 0, .string ⟨#[]⟩, .int .i64 n]) (0, 0) _ rfl (R.out.setRow _) Tryz.underlying43 rfl (by kernel_rfl)) rfl (⟨rfl, below_setRow B.out (Nat.le_succ _) _⟩)
  · go_wp2_with (first | ((with_reducible refine wpId ?_); refine wpList_build_to (by rfl) 43 _ (by rfl) (#[.int .u8 7, .float .f64 0, .string ⟨#[]⟩, .int .i64 n]) (by kernel_rfl) ?_) | ((with_reducible refine stId 43 (.tmp 4) (.tmp 12) ?_); refine wpList_store_row (by rfl) 43 (.tmp 4) (.tmp 12) (by rfl) (w.heap.size + 1) (#[.int .u8 7, .float .f64 0, .string ⟨#[]⟩, .int .i64 n]) (by rfl) (by rfl) 43 (#[.int .u8 0, .float .f64 0, .string ⟨#[]⟩, .int .i64 0]) (by exact R.out) (by kernel_rfl) (by rfl) (by exact VI.one ⟨7, 0, ⟨#[]⟩, n⟩) ?_))
    rw [show valO o n = ⟨7, 0, ⟨#[]⟩, n⟩ from by unfold valO; rw [HK.out]; rfl]
    exact bodyPost_ret (v := .agg (#[.int .u8 7, .float .f64 0, .string ⟨#[]⟩, .int .i64 n])) (results_cell_row Tryz.results38 _ _ (w.heap.size + 1) 43 (#[.int .u8 7, .float .f64 0, .string ⟨#[]⟩, .int .i64 n]) (0, 0) _ rfl (R.out.setRow _) Tryz.underlying43 rfl (by kernel_rfl)) rfl (⟨rfl, below_setRow B.out (Nat.le_succ _) _⟩)
  · go_wp2_with (first | ((with_reducible refine wpId ?_); refine wpList_build_to (by rfl) 43 _ (by rfl) (#[.int .u8 8, .float .f64 0, .string ⟨#[]⟩, .int .i64 n]) (by kernel_rfl) ?_) | ((with_reducible refine stId 43 (.tmp 4) (.tmp 12) ?_); refine wpList_store_row (by rfl) 43 (.tmp 4) (.tmp 12) (by rfl) (w.heap.size + 1) (#[.int .u8 8, .float .f64 0, .string ⟨#[]⟩, .int .i64 n]) (by rfl) (by rfl) 43 (#[.int .u8 0, .float .f64 0, .string ⟨#[]⟩, .int .i64 0]) (by exact R.out) (by kernel_rfl) (by rfl) (by exact VI.one ⟨8, 0, ⟨#[]⟩, n⟩) ?_))
    rw [show valO o n = ⟨8, 0, ⟨#[]⟩, n⟩ from by unfold valO; rw [HK.out]; rfl]
    exact bodyPost_ret (v := .agg (#[.int .u8 8, .float .f64 0, .string ⟨#[]⟩, .int .i64 n])) (results_cell_row Tryz.results38 _ _ (w.heap.size + 1) 43 (#[.int .u8 8, .float .f64 0, .string ⟨#[]⟩, .int .i64 n]) (0, 0) _ rfl (R.out.setRow _) Tryz.underlying43 rfl (by kernel_rfl)) rfl (⟨rfl, below_setRow B.out (Nat.le_succ _) _⟩)
set_option maxHeartbeats 8000000 in
set_option maxRecDepth 100000 in
theorem rnone_any (v : VI) (h0 : 0 ≤ v.k) (w : World) : Calls Tryz.prog 53 #[v.a] w fun e w' => e = .returned (.bool (isV v 0)) ∧ Below w.heap.size w w' := by
  have MA := hidB (fun W => rmay_any v.k v.x v.s v.r h0 W)
  clear h0
  have X := hidB (show Bk (w.alloc (.cells (v.cells.toArray) 43)) (w.heap.size) 43 (v.cells.toArray) from Bk.new w _ _)
  have B := hidB (show Below w.heap.size w (w.alloc (.cells (v.cells.toArray) 43)) from box_one w _)
  go_enter Tryz.func53, Tryz.ntmps53
  go_upto_region 1 with fail
  generalize hW : (w.alloc (.cells (v.cells.toArray) 43)) = w1 at *
  clear hW
  obtain ⟨p0, p1, p2, p3, _⟩ := X.out.four
  by_cases hk : v.k = 0
  rotate_left
  · have hk1 : (v.k == 0) = false := by rw [beq_eq_false_iff_ne]; exact hk
    have HK := hidB hk1
    go_wp2_with fail
    go_ret
    exact ⟨ret_bool (by unfold isV; rw [HK.out]; rfl), B.out⟩
  have hk1 : (v.k == 0) = true := by rw [beq_iff_eq]; exact hk
  have HK := hidB hk1
  clear hk
  go_wp2_with (first | ((with_reducible refine ldId 43 (.tmp 1) ?_); refine wpList_wload_mid 43 (.tmp 1) (by rfl) (by rfl) (w.heap.size) 0 (by rfl) (v.cells) _ (by exact Bk.mid X.out 0 _ rfl) Tryz.underlying43 (by rfl) (by kernel_rfl) ?_))
  refine (MA.out _).mono ?_; rintro e w2 ⟨rfl, hb⟩
  replace B := hidB (B.out.trans (hb.mono B.out.size))
  clear hb p0 p1 p2 p3 hk1
  have HM := hidB (show v.may = mayV v.k v.x v.s v.r from rfl)
  generalize mayV v.k v.x v.s v.r = m at *
  go_wp2_with fail
  go_ret
  exact ⟨ret_bool (by unfold isV; rw [HK.out, HM.out]; first | rfl | simp), B.out⟩
set_option maxHeartbeats 8000000 in
set_option maxRecDepth 100000 in
theorem rnull_any (v : VI) (h0 : 0 ≤ v.k) (w : World) : Calls Tryz.prog 70 #[v.a] w fun e w' => e = .returned (.bool (isV v 1)) ∧ Below w.heap.size w w' := by
  have MA := hidB (fun W => rmay_any v.k v.x v.s v.r h0 W)
  clear h0
  have X := hidB (show Bk (w.alloc (.cells (v.cells.toArray) 43)) (w.heap.size) 43 (v.cells.toArray) from Bk.new w _ _)
  have B := hidB (show Below w.heap.size w (w.alloc (.cells (v.cells.toArray) 43)) from box_one w _)
  go_enter Tryz.func70, Tryz.ntmps70
  go_upto_region 1 with fail
  generalize hW : (w.alloc (.cells (v.cells.toArray) 43)) = w1 at *
  clear hW
  obtain ⟨p0, p1, p2, p3, _⟩ := X.out.four
  by_cases hk : v.k = 1
  rotate_left
  · have hk1 : (v.k == 1) = false := by rw [beq_eq_false_iff_ne]; exact hk
    have HK := hidB hk1
    go_wp2_with fail
    go_ret
    exact ⟨ret_bool (by unfold isV; rw [HK.out]; rfl), B.out⟩
  have hk1 : (v.k == 1) = true := by rw [beq_iff_eq]; exact hk
  have HK := hidB hk1
  clear hk
  go_wp2_with (first | ((with_reducible refine ldId 43 (.tmp 1) ?_); refine wpList_wload_mid 43 (.tmp 1) (by rfl) (by rfl) (w.heap.size) 0 (by rfl) (v.cells) _ (by exact Bk.mid X.out 0 _ rfl) Tryz.underlying43 (by rfl) (by kernel_rfl) ?_))
  refine (MA.out _).mono ?_; rintro e w2 ⟨rfl, hb⟩
  replace B := hidB (B.out.trans (hb.mono B.out.size))
  clear hb p0 p1 p2 p3 hk1
  have HM := hidB (show v.may = mayV v.k v.x v.s v.r from rfl)
  generalize mayV v.k v.x v.s v.r = m at *
  go_wp2_with fail
  go_ret
  exact ⟨ret_bool (by unfold isV; rw [HK.out, HM.out]; first | rfl | simp), B.out⟩
set_option maxHeartbeats 8000000 in
set_option maxRecDepth 100000 in
theorem rmayin_any (h : HI) (hv : Value) (v : VI) (h0 : 0 ≤ v.k) (w : World) (hr : RdH h hv w) : Calls Tryz.prog 56 #[.agg #[hv], v.a] w fun e w' => e = .returned (.bool (inB h v)) ∧ Below w.heap.size w w' := by
  obtain ⟨⟨pa, c, rfl, h1, h2, h3⟩, _⟩ := hr
  unfold maxLen at h2
  have hlm : h.length ≤ 9223372036854775807 := by omega
  have MA := hidB (fun W => rmay_any v.k v.x v.s v.r h0 W)
  have HC := hidB h3
  clear h0 h3
  have Y := hidB (show Bk ((w.alloc (.cells (#[.slice pa h.length c]) 24)).alloc (.cells (v.cells.toArray) 43)) (w.heap.size) 24 (#[.slice pa h.length c]) from (Bk.new w _ _).alloc _)
  have X := hidB (show Bk ((w.alloc (.cells (#[.slice pa h.length c]) 24)).alloc (.cells (v.cells.toArray) 43)) (w.heap.size + 1) 43 (v.cells.toArray) from Bk.new2 w _ _ _)
  have B := hidB (show Below w.heap.size w ((w.alloc (.cells (#[.slice pa h.length c]) 24)).alloc (.cells (v.cells.toArray) 43)) from (box_one w _).alloc (by simp) _)
  go_enter Tryz.func56, Tryz.ntmps56
  go_upto_region 1 with fail
  generalize hW : ((w.alloc (.cells (#[.slice pa h.length c]) 24)).alloc (.cells (v.cells.toArray) 43)) = w1 at *
  clear hW
  go_wp2_with (first | ((with_reducible refine ldId 43 (.tmp 3) ?_); refine wpList_load_row (by rfl) 43 (.tmp 3) (by rfl) (w.heap.size + 1) (by rfl) 43 (v.cells.toArray) (0, 0) _ (by exact X.out) Tryz.underlying43 (by rfl) (by kernel_rfl) ?_))
  refine (MA.out _).mono ?_; rintro e w2 ⟨rfl, hb⟩
  replace X := hidB (X.out.on hb); replace Y := hidB (Y.out.on hb); replace B := hidB (B.out.trans (hb.mono B.out.size)); clear hb
  cases hm : mayV v.k v.x v.s v.r
  · have HK := hidB (show inB h v = false by unfold inB VI.may; rw [hm]; rfl)
    clear hm
    go_wp2_with fail
    go_ret
    exact ⟨by rw [HK.out]; rfl, B.out⟩
  have HM := hidB (show v.may = true from hm)
  clear hm
  go_wp2_with (first | ((with_reducible refine ldId 43 (.tmp 3) ?_); refine wpList_load_row (by rfl) 43 (.tmp 3) (by rfl) (w.heap.size + 1) (by rfl) 43 (v.cells.toArray) (0, 0) _ (by exact X.out) Tryz.underlying43 (by rfl) (by kernel_rfl) ?_))
  refine (refObj_any v.k v.x v.s v.r _).mono ?_; rintro e w3 ⟨rfl, hb1⟩
  have hb := hb1 ▸ box_one _ (.cells v.cells.toArray 43)
  replace X := hidB (X.out.on hb); replace Y := hidB (Y.out.on hb); replace B := hidB (B.out.trans (hb.mono B.out.size)); clear hb; clear hb1
  cases ho : isObj v.k
  · have HK := hidB (show inB h v = true by unfold inB; rw [HM.out, ho]; rfl)
    clear ho
    go_wp2_with fail
    go_ret
    exact ⟨by rw [HK.out]; rfl, B.out⟩
  have HO := hidB ho
  have hr0 := may_ref HM.out ho
  clear ho
  go_upto_region 5 with fail
  by_cases hlt : v.r < (h.length : Int)
  rotate_left
  · have hd : decide (v.r < (h.length : Int)) = false := decide_eq_false hlt
    have HK := hidB (show inB h v = false by unfold inB; rw [HM.out, HO.out, hd]; rfl)
    refine wp_region_noPanic ?_
    refine wp_region_held_drew (S := fun W => Below w.heap.size w W ∧ Bk W w.heap.size 24 #[.slice pa h.length c] ∧ Bk W (w.heap.size + 1) 43 v.cells.toArray) (by kernel_rfl) ?_ (fun hHeld => ?_)
    · exact ⟨B.out.drew, Y.out.drew, X.out.drew⟩
    generalize hWd : w3.drew = wd at *
    clear hWd
    first | (refine wpAnyH_take (i := 0) (v := undef) (by simp only [List.getElem?_toArray, List.getElem?_cons_zero]; exact rfl) (by kernel_rfl) (by kernel_rfl) (by kernel_rfl) (fun _ _ _ h => h) (Or.inr ⟨?_, rfl⟩) (by assumption) ?_; (rfl); try simp only [Act.put, List.setIfInBounds_toArray, List.set_cons_zero, List.set_cons_succ]) | (refine wpAnyH_take (i := 0) (v := ?_) (by simp only [List.getElem?_toArray, List.getElem?_cons_zero]; exact rfl) (by kernel_rfl) (by kernel_rfl) (by kernel_rfl) (fun _ _ _ h => h) (Or.inl ⟨?_, ?_⟩) (by assumption) ?_; rotate_left; (rfl); (focus (intro w hSw; (try dsimp only at hSw); go_simp; try with_reducible rfl)); try simp only [Act.put, List.setIfInBounds_toArray, List.set_cons_zero, List.set_cons_succ])
    first | (refine wpAnyH_take (i := 1) (v := undef) (by simp only [List.getElem?_toArray, List.getElem?_cons_succ, List.getElem?_cons_zero]; exact rfl) (by kernel_rfl) (by kernel_rfl) (by kernel_rfl) (fun _ _ _ h => h) (Or.inr ⟨?_, rfl⟩) (by assumption) ?_; (rfl); try simp only [Act.put, List.setIfInBounds_toArray, List.set_cons_zero, List.set_cons_succ]) | (refine wpAnyH_take (i := 1) (v := ?_) (by simp only [List.getElem?_toArray, List.getElem?_cons_succ, List.getElem?_cons_zero]; exact rfl) (by kernel_rfl) (by kernel_rfl) (by kernel_rfl) (fun _ _ _ h => h) (Or.inl ⟨?_, ?_⟩) (by assumption) ?_; rotate_left; (rfl); (focus (intro W hSw; have hc0 := (show W.cell? ⟨w.heap.size + 1, 3, none⟩ = some (.int .i64 v.r) from hSw.2.2.cell 3); clear hSw; go_simp; try with_reducible rfl)); try simp only [Act.put, List.setIfInBounds_toArray, List.set_cons_zero, List.set_cons_succ])
    first | (refine wpAnyH_take (i := 2) (v := undef) (by simp only [List.getElem?_toArray, List.getElem?_cons_succ, List.getElem?_cons_zero]; exact rfl) (by kernel_rfl) (by kernel_rfl) (by kernel_rfl) (fun _ _ _ h => h) (Or.inr ⟨?_, rfl⟩) (by assumption) ?_; (rfl); try simp only [Act.put, List.setIfInBounds_toArray, List.set_cons_zero, List.set_cons_succ]) | (refine wpAnyH_take (i := 2) (v := ?_) (by simp only [List.getElem?_toArray, List.getElem?_cons_succ, List.getElem?_cons_zero]; exact rfl) (by kernel_rfl) (by kernel_rfl) (by kernel_rfl) (fun _ _ _ h => h) (Or.inl ⟨?_, ?_⟩) (by assumption) ?_; rotate_left; (rfl); (focus (intro w hSw; (try dsimp only at hSw); go_simp; try with_reducible rfl)); try simp only [Act.put, List.setIfInBounds_toArray, List.set_cons_zero, List.set_cons_succ])
    first | (refine wpAnyH_take (i := 3) (v := undef) (by simp only [List.getElem?_toArray, List.getElem?_cons_succ, List.getElem?_cons_zero]; exact rfl) (by kernel_rfl) (by kernel_rfl) (by kernel_rfl) (fun _ _ _ h => h) (Or.inr ⟨?_, rfl⟩) (by assumption) ?_; (rfl); try simp only [Act.put, List.setIfInBounds_toArray, List.set_cons_zero, List.set_cons_succ]) | (refine wpAnyH_take (i := 3) (v := ?_) (by simp only [List.getElem?_toArray, List.getElem?_cons_succ, List.getElem?_cons_zero]; exact rfl) (by kernel_rfl) (by kernel_rfl) (by kernel_rfl) (fun _ _ _ h => h) (Or.inl ⟨?_, ?_⟩) (by assumption) ?_; rotate_left; (rfl); (focus (intro W hSw; have hc0 := (show W.cell? ⟨w.heap.size, 0, none⟩ = some (.slice pa h.length c) from hSw.2.1.cell 0); clear hSw; go_simp; try with_reducible rfl)); try simp only [Act.put, List.setIfInBounds_toArray, List.set_cons_zero, List.set_cons_succ])
    first | (refine wpAnyH_take (i := 4) (v := undef) (by simp only [List.getElem?_toArray, List.getElem?_cons_succ, List.getElem?_cons_zero]; exact rfl) (by kernel_rfl) (by kernel_rfl) (by kernel_rfl) (fun _ _ _ h => h) (Or.inr ⟨?_, rfl⟩) (by assumption) ?_; (rfl); try simp only [Act.put, List.setIfInBounds_toArray, List.set_cons_zero, List.set_cons_succ]) | (refine wpAnyH_take (i := 4) (v := ?_) (by simp only [List.getElem?_toArray, List.getElem?_cons_succ, List.getElem?_cons_zero]; exact rfl) (by kernel_rfl) (by kernel_rfl) (by kernel_rfl) (fun _ _ _ h => h) (Or.inl ⟨?_, ?_⟩) (by assumption) ?_; rotate_left; (rfl); (focus (intro w hSw; (try dsimp only at hSw); go_simp; try with_reducible rfl)); try simp only [Act.put, List.setIfInBounds_toArray, List.set_cons_zero, List.set_cons_succ])
    first | (refine wpAnyH_take (i := 5) (v := undef) (by simp only [List.getElem?_toArray, List.getElem?_cons_succ, List.getElem?_cons_zero]; exact rfl) (by kernel_rfl) (by kernel_rfl) (by kernel_rfl) (fun _ _ _ h => h) (Or.inr ⟨?_, rfl⟩) (by assumption) ?_; (rfl); try simp only [Act.put, List.setIfInBounds_toArray, List.set_cons_zero, List.set_cons_succ]) | (refine wpAnyH_take (i := 5) (v := ?_) (by simp only [List.getElem?_toArray, List.getElem?_cons_succ, List.getElem?_cons_zero]; exact rfl) (by kernel_rfl) (by kernel_rfl) (by kernel_rfl) (fun _ _ _ h => h) (Or.inl ⟨?_, ?_⟩) (by assumption) ?_; rotate_left; (rfl); (focus (intro W hSw; have hc0 := hd; clear hSw; go_simp; try with_reducible rfl)); try simp only [Act.put, List.setIfInBounds_toArray, List.set_cons_zero, List.set_cons_succ])
    first | (refine wpAnyH_take (i := 6) (v := undef) (by simp only [List.getElem?_toArray, List.getElem?_cons_succ, List.getElem?_cons_zero]; exact rfl) (by kernel_rfl) (by kernel_rfl) (by kernel_rfl) (fun _ _ _ h => h) (Or.inr ⟨?_, rfl⟩) (by assumption) ?_; (rfl); try simp only [Act.put, List.setIfInBounds_toArray, List.set_cons_zero, List.set_cons_succ]) | (refine wpAnyH_take (i := 6) (v := ?_) (by simp only [List.getElem?_toArray, List.getElem?_cons_succ, List.getElem?_cons_zero]; exact rfl) (by kernel_rfl) (by kernel_rfl) (by kernel_rfl) (fun _ _ _ h => h) (Or.inl ⟨?_, ?_⟩) (by assumption) ?_; rotate_left; (rfl); (focus (intro w hSw; (try dsimp only at hSw); go_simp; try with_reducible rfl)); try simp only [Act.put, List.setIfInBounds_toArray, List.set_cons_zero, List.set_cons_succ])
    (refine wpAnyH_take (i := 7) (v := undef) (by simp only [List.getElem?_toArray, List.getElem?_cons_succ, List.getElem?_cons_zero]; exact rfl) (by kernel_rfl) (by kernel_rfl) (by kernel_rfl) (fun _ _ _ h => h) (Or.inr ⟨?_, rfl⟩) (by assumption) ?_; (rfl); try simp only [Act.put, List.setIfInBounds_toArray, List.set_cons_zero, List.set_cons_succ])
    (refine wpAnyH_take (i := 8) (v := undef) (by simp only [List.getElem?_toArray, List.getElem?_cons_succ, List.getElem?_cons_zero]; exact rfl) (by kernel_rfl) (by kernel_rfl) (by kernel_rfl) (fun _ _ _ h => h) (Or.inr ⟨?_, rfl⟩) (by assumption) ?_; (rfl); try simp only [Act.put, List.setIfInBounds_toArray, List.set_cons_zero, List.set_cons_succ])
    (refine wpAnyH_take (i := 9) (v := undef) (by simp only [List.getElem?_toArray, List.getElem?_cons_succ, List.getElem?_cons_zero]; exact rfl) (by kernel_rfl) (by kernel_rfl) (by kernel_rfl) (fun _ _ _ h => h) (Or.inr ⟨?_, rfl⟩) (by assumption) ?_; (rfl); try simp only [Act.put, List.setIfInBounds_toArray, List.set_cons_zero, List.set_cons_succ])
    (refine wpAnyH_take (i := 10) (v := undef) (by simp only [List.getElem?_toArray, List.getElem?_cons_succ, List.getElem?_cons_zero]; exact rfl) (by kernel_rfl) (by kernel_rfl) (by kernel_rfl) (fun _ _ _ h => h) (Or.inr ⟨?_, rfl⟩) (by assumption) ?_; (rfl); try simp only [Act.put, List.setIfInBounds_toArray, List.set_cons_zero, List.set_cons_succ])
    (refine wpAnyH_take (i := 11) (v := undef) (by simp only [List.getElem?_toArray, List.getElem?_cons_succ, List.getElem?_cons_zero]; exact rfl) (by kernel_rfl) (by kernel_rfl) (by kernel_rfl) (fun _ _ _ h => h) (Or.inr ⟨?_, rfl⟩) (by assumption) ?_; (rfl); try simp only [Act.put, List.setIfInBounds_toArray, List.set_cons_zero, List.set_cons_succ])
    (refine wpAnyH_take (i := 12) (v := undef) (by simp only [List.getElem?_toArray, List.getElem?_cons_succ, List.getElem?_cons_zero]; exact rfl) (by kernel_rfl) (by kernel_rfl) (by kernel_rfl) (fun _ _ _ h => h) (Or.inr ⟨?_, rfl⟩) (by assumption) ?_; (rfl); try simp only [Act.put, List.setIfInBounds_toArray, List.set_cons_zero, List.set_cons_succ])
    (refine wpAnyH_take (i := 13) (v := undef) (by simp only [List.getElem?_toArray, List.getElem?_cons_succ, List.getElem?_cons_zero]; exact rfl) (by kernel_rfl) (by kernel_rfl) (by kernel_rfl) (fun _ _ _ h => h) (Or.inr ⟨?_, rfl⟩) (by assumption) ?_; (rfl); try simp only [Act.put, List.setIfInBounds_toArray, List.set_cons_zero, List.set_cons_succ])
    (refine wpAnyH_take (i := 14) (v := undef) (by simp only [List.getElem?_toArray, List.getElem?_cons_succ, List.getElem?_cons_zero]; exact rfl) (by kernel_rfl) (by kernel_rfl) (by kernel_rfl) (fun _ _ _ h => h) (Or.inr ⟨?_, rfl⟩) (by assumption) ?_; (rfl); try simp only [Act.put, List.setIfInBounds_toArray, List.set_cons_zero, List.set_cons_succ])
    (refine wpAnyH_take (i := 15) (v := undef) (by simp only [List.getElem?_toArray, List.getElem?_cons_succ, List.getElem?_cons_zero]; exact rfl) (by kernel_rfl) (by kernel_rfl) (by kernel_rfl) (fun _ _ _ h => h) (Or.inr ⟨?_, rfl⟩) (by assumption) ?_; (rfl); try simp only [Act.put, List.setIfInBounds_toArray, List.set_cons_zero, List.set_cons_succ])
    (refine wpAnyH_take (i := 16) (v := undef) (by simp only [List.getElem?_toArray, List.getElem?_cons_succ, List.getElem?_cons_zero]; exact rfl) (by kernel_rfl) (by kernel_rfl) (by kernel_rfl) (fun _ _ _ h => h) (Or.inr ⟨?_, rfl⟩) (by assumption) ?_; (rfl); try simp only [Act.put, List.setIfInBounds_toArray, List.set_cons_zero, List.set_cons_succ])
    (refine wpAnyH_take (i := 17) (v := undef) (by simp only [List.getElem?_toArray, List.getElem?_cons_succ, List.getElem?_cons_zero]; exact rfl) (by kernel_rfl) (by kernel_rfl) (by kernel_rfl) (fun _ _ _ h => h) (Or.inr ⟨?_, rfl⟩) (by assumption) ?_; (rfl); try simp only [Act.put, List.setIfInBounds_toArray, List.set_cons_zero, List.set_cons_succ])
    first | (refine wpAnyH_take (i := 18) (v := undef) (by simp only [List.getElem?_toArray, List.getElem?_cons_succ, List.getElem?_cons_zero]; exact rfl) (by kernel_rfl) (by kernel_rfl) (by kernel_rfl) (fun _ _ _ h => h) (Or.inr ⟨?_, rfl⟩) (by assumption) ?_; (rfl); try simp only [Act.put, List.setIfInBounds_toArray, List.set_cons_zero, List.set_cons_succ]) | (refine wpAnyH_take (i := 18) (v := ?_) (by simp only [List.getElem?_toArray, List.getElem?_cons_succ, List.getElem?_cons_zero]; exact rfl) (by kernel_rfl) (by kernel_rfl) (by kernel_rfl) (fun _ _ _ h => h) (Or.inl ⟨?_, ?_⟩) (by assumption) ?_; rotate_left; (rfl); (focus (intro w hSw; (try dsimp only at hSw); go_simp; try with_reducible rfl)); try simp only [Act.put, List.setIfInBounds_toArray, List.set_cons_zero, List.set_cons_succ])
    first | (refine wpAnyH_take (i := 19) (v := undef) (by simp only [List.getElem?_toArray, List.getElem?_cons_succ, List.getElem?_cons_zero]; exact rfl) (by kernel_rfl) (by kernel_rfl) (by kernel_rfl) (fun _ _ _ h => h) (Or.inr ⟨?_, rfl⟩) (by assumption) ?_; (rfl); try simp only [Act.put, List.setIfInBounds_toArray, List.set_cons_zero, List.set_cons_succ]) | (refine wpAnyH_take (i := 19) (v := ?_) (by simp only [List.getElem?_toArray, List.getElem?_cons_succ, List.getElem?_cons_zero]; exact rfl) (by kernel_rfl) (by kernel_rfl) (by kernel_rfl) (fun _ _ _ h => h) (Or.inl ⟨?_, ?_⟩) (by assumption) ?_; rotate_left; (rfl); (focus (intro w hSw; (try dsimp only at hSw); go_simp; try with_reducible rfl)); try simp only [Act.put, List.setIfInBounds_toArray, List.set_cons_zero, List.set_cons_succ])
    refine wpAnyH_done (by kernel_rfl) ?_ _
    refine NoPanic.normal ?_
    go_wp2_with fail
    go_ret
    exact ⟨by rw [HK.out]; first | rfl | simp, hHeld.1⟩
  have hd : decide (v.r < (h.length : Int)) = true := decide_eq_true hlt
  have hn : v.r.toNat < h.length := by omega
  obtain ⟨g, o, rfl, hg, hcell⟩ := HC.out (by omega)
  have HG := hidB hg
  have HR := hidB (hcell v.r.toNat hn)
  have HK := hidB (show inB h v = (kindO (h[v.r.toNat]'hn).1 == v.k) by unfold inB; rw [HM.out, HO.out, hd, List.getElem?_eq_getElem hn]; simp)
  clear hcell hg
  generalize (h[v.r.toNat]'hn) = e0 at *
  have z1 : Tryz.prog.eqGuardType Tryz.prog.depth 43 = false := by kernel_rfl
  have V1 : ∀ W : World, (Op.equalIn 10000 43 (valO e0.1 v.r).a v.a).run Tryz.prog W = .ok (kindO e0.1 == v.k) W := fun W => (equal_val 9998 (kindO e0.1) v.k 0 v.x ⟨#[]⟩ v.s v.r v.r W).trans (by rw [valO_eq HM.out HO.out])
  generalize (kindO e0.1 == v.k) = qe at *
  refine wp_region_noPanic ?_
  refine wp_region_held_drew (S := fun W => Below w.heap.size w W ∧ Bk W w.heap.size 24 #[.slice (some ⟨g, o, none⟩) h.length c] ∧ Bk W (w.heap.size + 1) 43 v.cells.toArray) (by kernel_rfl) ?_ (fun hHeld => ?_)
  · exact ⟨B.out.drew, Y.out.drew, X.out.drew⟩
  generalize hWd : w3.drew = wd at *
  clear hWd
  first | (refine wpAnyH_take (i := 0) (v := undef) (by simp only [List.getElem?_toArray, List.getElem?_cons_zero]; exact rfl) (by kernel_rfl) (by kernel_rfl) (by kernel_rfl) (fun _ _ _ h => h) (Or.inr ⟨?_, rfl⟩) (by assumption) ?_; (rfl); try simp only [Act.put, List.setIfInBounds_toArray, List.set_cons_zero, List.set_cons_succ]) | (refine wpAnyH_take (i := 0) (v := ?_) (by simp only [List.getElem?_toArray, List.getElem?_cons_zero]; exact rfl) (by kernel_rfl) (by kernel_rfl) (by kernel_rfl) (fun _ _ _ h => h) (Or.inl ⟨?_, ?_⟩) (by assumption) ?_; rotate_left; (rfl); (focus (intro w hSw; (try dsimp only at hSw); go_simp; try with_reducible rfl)); try simp only [Act.put, List.setIfInBounds_toArray, List.set_cons_zero, List.set_cons_succ])
  first | (refine wpAnyH_take (i := 1) (v := undef) (by simp only [List.getElem?_toArray, List.getElem?_cons_succ, List.getElem?_cons_zero]; exact rfl) (by kernel_rfl) (by kernel_rfl) (by kernel_rfl) (fun _ _ _ h => h) (Or.inr ⟨?_, rfl⟩) (by assumption) ?_; (rfl); try simp only [Act.put, List.setIfInBounds_toArray, List.set_cons_zero, List.set_cons_succ]) | (refine wpAnyH_take (i := 1) (v := ?_) (by simp only [List.getElem?_toArray, List.getElem?_cons_succ, List.getElem?_cons_zero]; exact rfl) (by kernel_rfl) (by kernel_rfl) (by kernel_rfl) (fun _ _ _ h => h) (Or.inl ⟨?_, ?_⟩) (by assumption) ?_; rotate_left; (rfl); (focus (intro W hSw; have hc0 := (show W.cell? ⟨w.heap.size + 1, 3, none⟩ = some (.int .i64 v.r) from hSw.2.2.cell 3); clear hSw; go_simp; try with_reducible rfl)); try simp only [Act.put, List.setIfInBounds_toArray, List.set_cons_zero, List.set_cons_succ])
  first | (refine wpAnyH_take (i := 2) (v := undef) (by simp only [List.getElem?_toArray, List.getElem?_cons_succ, List.getElem?_cons_zero]; exact rfl) (by kernel_rfl) (by kernel_rfl) (by kernel_rfl) (fun _ _ _ h => h) (Or.inr ⟨?_, rfl⟩) (by assumption) ?_; (rfl); try simp only [Act.put, List.setIfInBounds_toArray, List.set_cons_zero, List.set_cons_succ]) | (refine wpAnyH_take (i := 2) (v := ?_) (by simp only [List.getElem?_toArray, List.getElem?_cons_succ, List.getElem?_cons_zero]; exact rfl) (by kernel_rfl) (by kernel_rfl) (by kernel_rfl) (fun _ _ _ h => h) (Or.inl ⟨?_, ?_⟩) (by assumption) ?_; rotate_left; (rfl); (focus (intro w hSw; (try dsimp only at hSw); go_simp; try with_reducible rfl)); try simp only [Act.put, List.setIfInBounds_toArray, List.set_cons_zero, List.set_cons_succ])
  first | (refine wpAnyH_take (i := 3) (v := undef) (by simp only [List.getElem?_toArray, List.getElem?_cons_succ, List.getElem?_cons_zero]; exact rfl) (by kernel_rfl) (by kernel_rfl) (by kernel_rfl) (fun _ _ _ h => h) (Or.inr ⟨?_, rfl⟩) (by assumption) ?_; (rfl); try simp only [Act.put, List.setIfInBounds_toArray, List.set_cons_zero, List.set_cons_succ]) | (refine wpAnyH_take (i := 3) (v := ?_) (by simp only [List.getElem?_toArray, List.getElem?_cons_succ, List.getElem?_cons_zero]; exact rfl) (by kernel_rfl) (by kernel_rfl) (by kernel_rfl) (fun _ _ _ h => h) (Or.inl ⟨?_, ?_⟩) (by assumption) ?_; rotate_left; (rfl); (focus (intro W hSw; have hc0 := (show W.cell? ⟨w.heap.size, 0, none⟩ = some (.slice (some ⟨g, o, none⟩) h.length c) from hSw.2.1.cell 0); clear hSw; go_simp; try with_reducible rfl)); try simp only [Act.put, List.setIfInBounds_toArray, List.set_cons_zero, List.set_cons_succ])
  first | (refine wpAnyH_take (i := 4) (v := undef) (by simp only [List.getElem?_toArray, List.getElem?_cons_succ, List.getElem?_cons_zero]; exact rfl) (by kernel_rfl) (by kernel_rfl) (by kernel_rfl) (fun _ _ _ h => h) (Or.inr ⟨?_, rfl⟩) (by assumption) ?_; (rfl); try simp only [Act.put, List.setIfInBounds_toArray, List.set_cons_zero, List.set_cons_succ]) | (refine wpAnyH_take (i := 4) (v := ?_) (by simp only [List.getElem?_toArray, List.getElem?_cons_succ, List.getElem?_cons_zero]; exact rfl) (by kernel_rfl) (by kernel_rfl) (by kernel_rfl) (fun _ _ _ h => h) (Or.inl ⟨?_, ?_⟩) (by assumption) ?_; rotate_left; (rfl); (focus (intro w hSw; (try dsimp only at hSw); go_simp; try with_reducible rfl)); try simp only [Act.put, List.setIfInBounds_toArray, List.set_cons_zero, List.set_cons_succ])
  first | (refine wpAnyH_take (i := 5) (v := undef) (by simp only [List.getElem?_toArray, List.getElem?_cons_succ, List.getElem?_cons_zero]; exact rfl) (by kernel_rfl) (by kernel_rfl) (by kernel_rfl) (fun _ _ _ h => h) (Or.inr ⟨?_, rfl⟩) (by assumption) ?_; (rfl); try simp only [Act.put, List.setIfInBounds_toArray, List.set_cons_zero, List.set_cons_succ]) | (refine wpAnyH_take (i := 5) (v := ?_) (by simp only [List.getElem?_toArray, List.getElem?_cons_succ, List.getElem?_cons_zero]; exact rfl) (by kernel_rfl) (by kernel_rfl) (by kernel_rfl) (fun _ _ _ h => h) (Or.inl ⟨?_, ?_⟩) (by assumption) ?_; rotate_left; (rfl); (focus (intro W hSw; have hc0 := hd; clear hSw; go_simp; try with_reducible rfl)); try simp only [Act.put, List.setIfInBounds_toArray, List.set_cons_zero, List.set_cons_succ])
  first | (refine wpAnyH_take (i := 6) (v := undef) (by simp only [List.getElem?_toArray, List.getElem?_cons_succ, List.getElem?_cons_zero]; exact rfl) (by kernel_rfl) (by kernel_rfl) (by kernel_rfl) (fun _ _ _ h => h) (Or.inr ⟨?_, rfl⟩) (by assumption) ?_; (rfl); try simp only [Act.put, List.setIfInBounds_toArray, List.set_cons_zero, List.set_cons_succ]) | (refine wpAnyH_take (i := 6) (v := ?_) (by simp only [List.getElem?_toArray, List.getElem?_cons_succ, List.getElem?_cons_zero]; exact rfl) (by kernel_rfl) (by kernel_rfl) (by kernel_rfl) (fun _ _ _ h => h) (Or.inl ⟨?_, ?_⟩) (by assumption) ?_; rotate_left; (rfl); (focus (intro w hSw; (try dsimp only at hSw); go_simp; try with_reducible rfl)); try simp only [Act.put, List.setIfInBounds_toArray, List.set_cons_zero, List.set_cons_succ])
  first | (refine wpAnyH_take (i := 7) (v := undef) (by simp only [List.getElem?_toArray, List.getElem?_cons_succ, List.getElem?_cons_zero]; exact rfl) (by kernel_rfl) (by kernel_rfl) (by kernel_rfl) (fun _ _ _ h => h) (Or.inr ⟨?_, rfl⟩) (by assumption) ?_; (rfl); try simp only [Act.put, List.setIfInBounds_toArray, List.set_cons_zero, List.set_cons_succ]) | (refine wpAnyH_take (i := 7) (v := ?_) (by simp only [List.getElem?_toArray, List.getElem?_cons_succ, List.getElem?_cons_zero]; exact rfl) (by kernel_rfl) (by kernel_rfl) (by kernel_rfl) (fun _ _ _ h => h) (Or.inl ⟨?_, ?_⟩) (by assumption) ?_; rotate_left; (rfl); (focus (intro w hSw; (try dsimp only at hSw); go_simp; try with_reducible rfl)); try simp only [Act.put, List.setIfInBounds_toArray, List.set_cons_zero, List.set_cons_succ])
  first | (refine wpAnyH_take (i := 8) (v := undef) (by simp only [List.getElem?_toArray, List.getElem?_cons_succ, List.getElem?_cons_zero]; exact rfl) (by kernel_rfl) (by kernel_rfl) (by kernel_rfl) (fun _ _ _ h => h) (Or.inr ⟨?_, rfl⟩) (by assumption) ?_; (rfl); try simp only [Act.put, List.setIfInBounds_toArray, List.set_cons_zero, List.set_cons_succ]) | (refine wpAnyH_take (i := 8) (v := ?_) (by simp only [List.getElem?_toArray, List.getElem?_cons_succ, List.getElem?_cons_zero]; exact rfl) (by kernel_rfl) (by kernel_rfl) (by kernel_rfl) (fun _ _ _ h => h) (Or.inl ⟨?_, ?_⟩) (by assumption) ?_; rotate_left; (rfl); (focus (intro W hSw; have hc0 := (show W.cell? ⟨w.heap.size, 0, none⟩ = some (.slice (some ⟨g, o, none⟩) h.length c) from hSw.2.1.cell 0); clear hSw; go_simp; try with_reducible rfl)); try simp only [Act.put, List.setIfInBounds_toArray, List.set_cons_zero, List.set_cons_succ])
  first | (refine wpAnyH_take (i := 9) (v := undef) (by simp only [List.getElem?_toArray, List.getElem?_cons_succ, List.getElem?_cons_zero]; exact rfl) (by kernel_rfl) (by kernel_rfl) (by kernel_rfl) (fun _ _ _ h => h) (Or.inr ⟨?_, rfl⟩) (by assumption) ?_; (rfl); try simp only [Act.put, List.setIfInBounds_toArray, List.set_cons_zero, List.set_cons_succ]) | (refine wpAnyH_take (i := 9) (v := ?_) (by simp only [List.getElem?_toArray, List.getElem?_cons_succ, List.getElem?_cons_zero]; exact rfl) (by kernel_rfl) (by kernel_rfl) (by kernel_rfl) (fun _ _ _ h => h) (Or.inl ⟨?_, ?_⟩) (by assumption) ?_; rotate_left; (rfl); (focus (intro w hSw; (try dsimp only at hSw); go_simp; try with_reducible rfl)); try simp only [Act.put, List.setIfInBounds_toArray, List.set_cons_zero, List.set_cons_succ])
  first | (refine wpAnyH_take (i := 10) (v := undef) (by simp only [List.getElem?_toArray, List.getElem?_cons_succ, List.getElem?_cons_zero]; exact rfl) (by kernel_rfl) (by kernel_rfl) (by kernel_rfl) (fun _ _ _ h => h) (Or.inr ⟨?_, rfl⟩) (by assumption) ?_; (rfl); try simp only [Act.put, List.setIfInBounds_toArray, List.set_cons_zero, List.set_cons_succ]) | (refine wpAnyH_take (i := 10) (v := ?_) (by simp only [List.getElem?_toArray, List.getElem?_cons_succ, List.getElem?_cons_zero]; exact rfl) (by kernel_rfl) (by kernel_rfl) (by kernel_rfl) (fun _ _ _ h => h) (Or.inl ⟨?_, ?_⟩) (by assumption) ?_; rotate_left; (rfl); (focus (intro W hSw; have hc0 := (show W.cell? ⟨w.heap.size + 1, 3, none⟩ = some (.int .i64 v.r) from hSw.2.2.cell 3); clear hSw; go_simp; try with_reducible rfl)); try simp only [Act.put, List.setIfInBounds_toArray, List.set_cons_zero, List.set_cons_succ])
  first | (refine wpAnyH_take (i := 11) (v := undef) (by simp only [List.getElem?_toArray, List.getElem?_cons_succ, List.getElem?_cons_zero]; exact rfl) (by kernel_rfl) (by kernel_rfl) (by kernel_rfl) (fun _ _ _ h => h) (Or.inr ⟨?_, rfl⟩) (by assumption) ?_; (rfl); try simp only [Act.put, List.setIfInBounds_toArray, List.set_cons_zero, List.set_cons_succ]) | (refine wpAnyH_take (i := 11) (v := ?_) (by simp only [List.getElem?_toArray, List.getElem?_cons_succ, List.getElem?_cons_zero]; exact rfl) (by kernel_rfl) (by kernel_rfl) (by kernel_rfl) (fun _ _ _ h => h) (Or.inl ⟨?_, ?_⟩) (by assumption) ?_; rotate_left; (rfl); (focus (intro w hSw; (try dsimp only at hSw); go_simp; try with_reducible rfl)); try simp only [Act.put, List.setIfInBounds_toArray, List.set_cons_zero, List.set_cons_succ])
  (refine wpAnyH_take (i := 12) (v := e0.1.a) (by simp only [List.getElem?_toArray, List.getElem?_cons_succ, List.getElem?_cons_zero]; exact rfl) (by kernel_rfl) (by kernel_rfl) (by kernel_rfl) (fun _ _ _ h => h) (yieldsIf_load_mid (by rfl) 46 (.tmp 22) (by rfl) (g) (o + v.r.toNat * 18) (by rfl) (e0.1.cs.toList) _ (fun W hS => rangeOn hS.1 HG.out HR.out) Tryz.underlying46 (by rfl) (by kernel_rfl)) (by assumption) ?_; try simp only [Act.put, List.setIfInBounds_toArray, List.set_cons_zero, List.set_cons_succ])
  first | (refine wpAnyH_take (i := 13) (v := undef) (by simp only [List.getElem?_toArray, List.getElem?_cons_succ, List.getElem?_cons_zero]; exact rfl) (by kernel_rfl) (by kernel_rfl) (by kernel_rfl) (fun _ _ _ h => h) (Or.inr ⟨?_, rfl⟩) (by assumption) ?_; (rfl); try simp only [Act.put, List.setIfInBounds_toArray, List.set_cons_zero, List.set_cons_succ]) | (refine wpAnyH_take (i := 13) (v := ?_) (by simp only [List.getElem?_toArray, List.getElem?_cons_succ, List.getElem?_cons_zero]; exact rfl) (by kernel_rfl) (by kernel_rfl) (by kernel_rfl) (fun _ _ _ h => h) (Or.inl ⟨?_, ?_⟩) (by assumption) ?_; rotate_left; (rfl); (focus (intro w hSw; (try dsimp only at hSw); go_simp; try with_reducible rfl)); try simp only [Act.put, List.setIfInBounds_toArray, List.set_cons_zero, List.set_cons_succ])
  first | (refine wpAnyH_take (i := 14) (v := undef) (by simp only [List.getElem?_toArray, List.getElem?_cons_succ, List.getElem?_cons_zero]; exact rfl) (by kernel_rfl) (by kernel_rfl) (by kernel_rfl) (fun _ _ _ h => h) (Or.inr ⟨?_, rfl⟩) (by assumption) ?_; (rfl); try simp only [Act.put, List.setIfInBounds_toArray, List.set_cons_zero, List.set_cons_succ]) | (refine wpAnyH_take (i := 14) (v := ?_) (by simp only [List.getElem?_toArray, List.getElem?_cons_succ, List.getElem?_cons_zero]; exact rfl) (by kernel_rfl) (by kernel_rfl) (by kernel_rfl) (fun _ _ _ h => h) (Or.inl ⟨?_, ?_⟩) (by assumption) ?_; rotate_left; (rfl); (focus (intro W hSw; have hc0 := (show W.cell? ⟨w.heap.size + 1, 3, none⟩ = some (.int .i64 v.r) from hSw.2.2.cell 3); clear hSw; go_simp; try with_reducible rfl)); try simp only [Act.put, List.setIfInBounds_toArray, List.set_cons_zero, List.set_cons_succ])
  (refine wpAnyH_take (i := 16) (v := v.a) (by simp only [List.getElem?_toArray, List.getElem?_cons_succ, List.getElem?_cons_zero]; exact rfl) (by kernel_rfl) (by kernel_rfl) (by kernel_rfl) (fun _ _ _ h => h) (yieldsIf_load_mid (by rfl) 43 (.tmp 3) (by rfl) (w.heap.size + 1) (0) (by rfl) (v.cells) _ (fun W hS => Bk.mid hS.2.2 0 _ rfl) Tryz.underlying43 (by rfl) (by kernel_rfl)) (by assumption) ?_; try simp only [Act.put, List.setIfInBounds_toArray, List.set_cons_zero, List.set_cons_succ])
  refine wpAnyH_ready (rs := [15]) (by kernel_rfl) (by simp) ?_
  refine AllReadyH.cons rfl (fun K hK => ?_) AllReadyH.nil
  go_simp
  refine (rvalue_any e0.1 v.r _).mono ?_; rintro e w4 ⟨rfl, hb⟩
  replace hHeld := And.intro (hHeld.1.trans (hb.mono hHeld.1.size)) (And.intro (hHeld.2.1.on hb) (hHeld.2.2.on hb))
  clear hb
  refine hK.out _ _ hHeld (fun _ => ?_)
  clear hK K
  try simp only [Act.put, List.setIfInBounds_toArray, List.set_cons_zero, List.set_cons_succ]
  first | (refine wpAnyH_take (i := 17) (v := undef) (by simp only [List.getElem?_toArray, List.getElem?_cons_succ, List.getElem?_cons_zero]; exact rfl) (by kernel_rfl) (by kernel_rfl) (by kernel_rfl) (fun _ _ _ h => h) (Or.inr ⟨?_, rfl⟩) (by assumption) ?_; (rfl); try simp only [Act.put, List.setIfInBounds_toArray, List.set_cons_zero, List.set_cons_succ]) | (refine wpAnyH_take (i := 17) (v := ?_) (by simp only [List.getElem?_toArray, List.getElem?_cons_succ, List.getElem?_cons_zero]; exact rfl) (by kernel_rfl) (by kernel_rfl) (by kernel_rfl) (fun _ _ _ h => h) (Or.inl ⟨?_, ?_⟩) (by assumption) ?_; rotate_left; (rfl); (focus (intro W hSw; have hc0 := V1 W; clear hSw; go_simp; try with_reducible rfl)); try simp only [Act.put, List.setIfInBounds_toArray, List.set_cons_zero, List.set_cons_succ])
  first | (refine wpAnyH_take (i := 18) (v := undef) (by simp only [List.getElem?_toArray, List.getElem?_cons_succ, List.getElem?_cons_zero]; exact rfl) (by kernel_rfl) (by kernel_rfl) (by kernel_rfl) (fun _ _ _ h => h) (Or.inr ⟨?_, rfl⟩) (by assumption) ?_; (rfl); try simp only [Act.put, List.setIfInBounds_toArray, List.set_cons_zero, List.set_cons_succ]) | (refine wpAnyH_take (i := 18) (v := ?_) (by simp only [List.getElem?_toArray, List.getElem?_cons_succ, List.getElem?_cons_zero]; exact rfl) (by kernel_rfl) (by kernel_rfl) (by kernel_rfl) (fun _ _ _ h => h) (Or.inl ⟨?_, ?_⟩) (by assumption) ?_; rotate_left; (rfl); (focus (intro w hSw; (try dsimp only at hSw); go_simp; try with_reducible rfl)); try simp only [Act.put, List.setIfInBounds_toArray, List.set_cons_zero, List.set_cons_succ])
  first | (refine wpAnyH_take (i := 19) (v := undef) (by simp only [List.getElem?_toArray, List.getElem?_cons_succ, List.getElem?_cons_zero]; exact rfl) (by kernel_rfl) (by kernel_rfl) (by kernel_rfl) (fun _ _ _ h => h) (Or.inr ⟨?_, rfl⟩) (by assumption) ?_; (rfl); try simp only [Act.put, List.setIfInBounds_toArray, List.set_cons_zero, List.set_cons_succ]) | (refine wpAnyH_take (i := 19) (v := ?_) (by simp only [List.getElem?_toArray, List.getElem?_cons_succ, List.getElem?_cons_zero]; exact rfl) (by kernel_rfl) (by kernel_rfl) (by kernel_rfl) (fun _ _ _ h => h) (Or.inl ⟨?_, ?_⟩) (by assumption) ?_; rotate_left; (rfl); (focus (intro w hSw; (try dsimp only at hSw); go_simp; try with_reducible rfl)); try simp only [Act.put, List.setIfInBounds_toArray, List.set_cons_zero, List.set_cons_succ])
  refine wpAnyH_done (by kernel_rfl) ?_ _
  refine NoPanic.normal ?_
  go_wp2_with fail
  go_ret
  exact ⟨by rw [HK.out]; first | rfl | simp, hHeld.1⟩

end Go.Proofs.YtnidamkgfgddfaaGreat
