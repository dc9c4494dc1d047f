/-
  The reference makes proxies, and revokes them.
-/
import Derived.Test.YtnidamkgfgddfaaGreatRefChain
namespace Go.Proofs.YtnidamkgfgddfaaGreat
open Go.RowKit

set_option maxHeartbeats 8000000 in
set_option maxRecDepth 100000 in
theorem rproxied_any (h : HI) (hv : Value) (n m : Nat) (hn : n < h.length) (hm : m < h.length) (w : World) (hr : RdH h hv w) : Calls Tryz.prog 27 #[.agg #[hv], .int .i64 n, .int .i64 m] w fun e w' => e = .returned (prxO h n m).a ∧ Below w.heap.size w w' := by
  have HO1 := hidB (objAt_lt hn)
  have HO2 := hidB (objAt_lt hm)
  have HPN := hidB (hr.props _ (List.getElem_mem hn)).one
  have HPM := hidB (hr.props _ (List.getElem_mem hm)).one
  have HPX := hidB (show prxO h n m = (⟨6, nullI, false, .slice none 0 0, namedI (objAt h n) n, namedI (objAt h m) m, ⟨#[]⟩, (objAt h n).ca, (objAt h n).ma⟩ : OJ) from rfl)
  rw [HO1.out, HO2.out] at HPX
  clear HO1 HO2
  generalize prxO h n m = px at *
  obtain ⟨⟨pa, c, rfl, h1, h2, h3⟩, _⟩ := hr
  unfold maxLen at h2
  have hlm : h.length ≤ 9223372036854775807 := by omega
  obtain ⟨g, o, rfl, hg, hcell⟩ := h3 (by omega)
  have HRN := hidB (fun W (hb : Below w.heap.size w W) => rangeOn hb hg (hcell n hn))
  have HRM := hidB (fun W (hb : Below w.heap.size w W) => rangeOn hb hg (hcell m hm))
  have hx1 : (n : Int) < (h.length : Int) := by omega
  have hx2 : (0 : Int) ≤ (n : Int) := by omega
  have hx3 : (m : Int) < (h.length : Int) := by omega
  have hx4 : (0 : Int) ≤ (m : Int) := by omega
  clear h3 hg hcell
  generalize (h[n]'hn) = e0 at *
  generalize (h[m]'hm) = e1 at *
  obtain ⟨e0, l0⟩ := e0
  obtain ⟨e1, l1⟩ := e1
  have Y := hidB (show Bk ((w.alloc (.cells (#[(.slice (some ⟨g, o, none⟩) h.length c)]) 24)).alloc (.cells (#[.int .u8 0, .int .u8 0, .float .f64 0, .string ⟨#[]⟩, .int .i64 0, .bool false, .slice none 0 0, .int .u8 0, .float .f64 0, .string ⟨#[]⟩, .int .i64 0, .int .u8 0, .float .f64 0, .string ⟨#[]⟩, .int .i64 0, .string ⟨#[]⟩, .bool false, .bool false]) 46)) (w.heap.size) 24 (#[(.slice (some ⟨g, o, none⟩) h.length c)]) from (Bk.new w _ _).alloc _)
  have R := hidB (show Bk ((w.alloc (.cells (#[(.slice (some ⟨g, o, none⟩) h.length c)]) 24)).alloc (.cells (#[.int .u8 0, .int .u8 0, .float .f64 0, .string ⟨#[]⟩, .int .i64 0, .bool false, .slice none 0 0, .int .u8 0, .float .f64 0, .string ⟨#[]⟩, .int .i64 0, .int .u8 0, .float .f64 0, .string ⟨#[]⟩, .int .i64 0, .string ⟨#[]⟩, .bool false, .bool false]) 46)) (w.heap.size + 1) 46 (#[.int .u8 0, .int .u8 0, .float .f64 0, .string ⟨#[]⟩, .int .i64 0, .bool false, .slice none 0 0, .int .u8 0, .float .f64 0, .string ⟨#[]⟩, .int .i64 0, .int .u8 0, .float .f64 0, .string ⟨#[]⟩, .int .i64 0, .string ⟨#[]⟩, .bool false, .bool false]) from Bk.new2 w _ _ _)
  have B := hidB (show Below w.heap.size w ((w.alloc (.cells (#[(.slice (some ⟨g, o, none⟩) h.length c)]) 24)).alloc (.cells (#[.int .u8 0, .int .u8 0, .float .f64 0, .string ⟨#[]⟩, .int .i64 0, .bool false, .slice none 0 0, .int .u8 0, .float .f64 0, .string ⟨#[]⟩, .int .i64 0, .int .u8 0, .float .f64 0, .string ⟨#[]⟩, .int .i64 0, .string ⟨#[]⟩, .bool false, .bool false]) 46)) from (box_one w _).alloc (by simp) _)
  go_enter Tryz.func27, Tryz.ntmps27
  go_upto_region 1 with fail
  generalize hW : ((w.alloc (.cells (#[(.slice (some ⟨g, o, none⟩) h.length c)]) 24)).alloc (.cells (#[.int .u8 0, .int .u8 0, .float .f64 0, .string ⟨#[]⟩, .int .i64 0, .bool false, .slice none 0 0, .int .u8 0, .float .f64 0, .string ⟨#[]⟩, .int .i64 0, .int .u8 0, .float .f64 0, .string ⟨#[]⟩, .int .i64 0, .string ⟨#[]⟩, .bool false, .bool false]) 46)) = w1 at *
  clear hW
  have HRLT := hidB R.out.lt
  go_cut [7, 8] from 9 to 18 (fun s7 s8 wx => ∃ ga gb, s7 = .pointer (some ⟨ga, 0, none⟩) ∧ s8 = .pointer (some ⟨gb, 0, none⟩) ∧ w1.heap.size ≤ ga ∧ w1.heap.size ≤ gb ∧ Bk wx ga 46 e0.cs ∧ Bk wx gb 46 e1.cs ∧ Below w1.heap.size w1 wx)
  case first =>
    refine wp_region_noPanic ?_
    refine wp_region_held_drew (S := fun W => Below w1.heap.size w1 W) (by kernel_rfl) ?_ (fun hHeld => ?_)
    · exact (Below.refl _ _).drew
    generalize hWd : w1.drew = wd at *
    clear hWd
    first | (refine wpAnyH_take (i := 0) (v := undef) (by simp only [List.getElem?_toArray, List.getElem?_cons_zero]; exact rfl) (by kernel_rfl) (by kernel_rfl) (by kernel_rfl) (fun _ _ _ h => h) (Or.inr ⟨?_, rfl⟩) (by assumption) ?_; (rfl); try simp only [Act.put, List.setIfInBounds_toArray, List.set_cons_zero, List.set_cons_succ]) | (refine wpAnyH_take (i := 0) (v := ?_) (by simp only [List.getElem?_toArray, List.getElem?_cons_zero]; exact rfl) (by kernel_rfl) (by kernel_rfl) (by kernel_rfl) (fun _ _ _ h => h) (Or.inl ⟨?_, ?_⟩) (by assumption) ?_; rotate_left; (rfl); (focus (intro w hSw; (try dsimp only at hSw); go_simp; try with_reducible rfl)); try simp only [Act.put, List.setIfInBounds_toArray, List.set_cons_zero, List.set_cons_succ])
    first | (refine wpAnyH_take (i := 1) (v := undef) (by simp only [List.getElem?_toArray, List.getElem?_cons_succ, List.getElem?_cons_zero]; exact rfl) (by kernel_rfl) (by kernel_rfl) (by kernel_rfl) (fun _ _ _ h => h) (Or.inr ⟨?_, rfl⟩) (by assumption) ?_; (rfl); try simp only [Act.put, List.setIfInBounds_toArray, List.set_cons_zero, List.set_cons_succ]) | (refine wpAnyH_take (i := 1) (v := ?_) (by simp only [List.getElem?_toArray, List.getElem?_cons_succ, List.getElem?_cons_zero]; exact rfl) (by kernel_rfl) (by kernel_rfl) (by kernel_rfl) (fun _ _ _ h => h) (Or.inl ⟨?_, ?_⟩) (by assumption) ?_; rotate_left; (rfl); (focus (intro W hSw; have hc0 := (show W.cell? ⟨w.heap.size, 0, none⟩ = some (.slice (some ⟨g, o, none⟩) h.length c) from (Y.out.on hSw).cell 0); clear hSw; go_simp; try with_reducible rfl)); try simp only [Act.put, List.setIfInBounds_toArray, List.set_cons_zero, List.set_cons_succ])
    first | (refine wpAnyH_take (i := 2) (v := undef) (by simp only [List.getElem?_toArray, List.getElem?_cons_succ, List.getElem?_cons_zero]; exact rfl) (by kernel_rfl) (by kernel_rfl) (by kernel_rfl) (fun _ _ _ h => h) (Or.inr ⟨?_, rfl⟩) (by assumption) ?_; (rfl); try simp only [Act.put, List.setIfInBounds_toArray, List.set_cons_zero, List.set_cons_succ]) | (refine wpAnyH_take (i := 2) (v := ?_) (by simp only [List.getElem?_toArray, List.getElem?_cons_succ, List.getElem?_cons_zero]; exact rfl) (by kernel_rfl) (by kernel_rfl) (by kernel_rfl) (fun _ _ _ h => h) (Or.inl ⟨?_, ?_⟩) (by assumption) ?_; rotate_left; (rfl); (focus (intro w hSw; (try dsimp only at hSw); go_simp; try with_reducible rfl)); try simp only [Act.put, List.setIfInBounds_toArray, List.set_cons_zero, List.set_cons_succ])
    first | (refine wpAnyH_take (i := 3) (v := undef) (by simp only [List.getElem?_toArray, List.getElem?_cons_succ, List.getElem?_cons_zero]; exact rfl) (by kernel_rfl) (by kernel_rfl) (by kernel_rfl) (fun _ _ _ h => h) (Or.inr ⟨?_, rfl⟩) (by assumption) ?_; (rfl); try simp only [Act.put, List.setIfInBounds_toArray, List.set_cons_zero, List.set_cons_succ]) | (refine wpAnyH_take (i := 3) (v := ?_) (by simp only [List.getElem?_toArray, List.getElem?_cons_succ, List.getElem?_cons_zero]; exact rfl) (by kernel_rfl) (by kernel_rfl) (by kernel_rfl) (fun _ _ _ h => h) (Or.inl ⟨?_, ?_⟩) (by assumption) ?_; rotate_left; (rfl); (focus (intro w hSw; (try dsimp only at hSw); go_simp; try with_reducible rfl)); try simp only [Act.put, List.setIfInBounds_toArray, List.set_cons_zero, List.set_cons_succ])
    (refine wpAnyH_take (i := 4) (v := e0.a) (by simp only [List.getElem?_toArray, List.getElem?_cons_succ, List.getElem?_cons_zero]; exact rfl) (by kernel_rfl) (by kernel_rfl) (by kernel_rfl) (fun _ _ _ h => h) (yieldsIf_load_mid (by rfl) 46 (.tmp 12) (by rfl) (g) (o + n * 18) (by rfl) (e0.cs.toList) _ (fun W hS => HRN.out W (B.out.trans (hS.mono B.out.size))) Tryz.underlying46 (by rfl) (by kernel_rfl)) (by assumption) ?_; try simp only [Act.put, List.setIfInBounds_toArray, List.set_cons_zero, List.set_cons_succ])
    first | (refine wpAnyH_take (i := 5) (v := undef) (by simp only [List.getElem?_toArray, List.getElem?_cons_succ, List.getElem?_cons_zero]; exact rfl) (by kernel_rfl) (by kernel_rfl) (by kernel_rfl) (fun _ _ _ h => h) (Or.inr ⟨?_, rfl⟩) (by assumption) ?_; (rfl); try simp only [Act.put, List.setIfInBounds_toArray, List.set_cons_zero, List.set_cons_succ]) | (refine wpAnyH_take (i := 5) (v := ?_) (by simp only [List.getElem?_toArray, List.getElem?_cons_succ, List.getElem?_cons_zero]; exact rfl) (by kernel_rfl) (by kernel_rfl) (by kernel_rfl) (fun _ _ _ h => h) (Or.inl ⟨?_, ?_⟩) (by assumption) ?_; rotate_left; (rfl); (focus (intro w hSw; (try dsimp only at hSw); go_simp; try with_reducible rfl)); try simp only [Act.put, List.setIfInBounds_toArray, List.set_cons_zero, List.set_cons_succ])
    first | (refine wpAnyH_take (i := 6) (v := undef) (by simp only [List.getElem?_toArray, List.getElem?_cons_succ, List.getElem?_cons_zero]; exact rfl) (by kernel_rfl) (by kernel_rfl) (by kernel_rfl) (fun _ _ _ h => h) (Or.inr ⟨?_, rfl⟩) (by assumption) ?_; (rfl); try simp only [Act.put, List.setIfInBounds_toArray, List.set_cons_zero, List.set_cons_succ]) | (refine wpAnyH_take (i := 6) (v := ?_) (by simp only [List.getElem?_toArray, List.getElem?_cons_succ, List.getElem?_cons_zero]; exact rfl) (by kernel_rfl) (by kernel_rfl) (by kernel_rfl) (fun _ _ _ h => h) (Or.inl ⟨?_, ?_⟩) (by assumption) ?_; rotate_left; (rfl); (focus (intro W hSw; have hc0 := (show W.cell? ⟨w.heap.size, 0, none⟩ = some (.slice (some ⟨g, o, none⟩) h.length c) from (Y.out.on hSw).cell 0); clear hSw; go_simp; try with_reducible rfl)); try simp only [Act.put, List.setIfInBounds_toArray, List.set_cons_zero, List.set_cons_succ])
    first | (refine wpAnyH_take (i := 7) (v := undef) (by simp only [List.getElem?_toArray, List.getElem?_cons_succ, List.getElem?_cons_zero]; exact rfl) (by kernel_rfl) (by kernel_rfl) (by kernel_rfl) (fun _ _ _ h => h) (Or.inr ⟨?_, rfl⟩) (by assumption) ?_; (rfl); try simp only [Act.put, List.setIfInBounds_toArray, List.set_cons_zero, List.set_cons_succ]) | (refine wpAnyH_take (i := 7) (v := ?_) (by simp only [List.getElem?_toArray, List.getElem?_cons_succ, List.getElem?_cons_zero]; exact rfl) (by kernel_rfl) (by kernel_rfl) (by kernel_rfl) (fun _ _ _ h => h) (Or.inl ⟨?_, ?_⟩) (by assumption) ?_; rotate_left; (rfl); (focus (intro w hSw; (try dsimp only at hSw); go_simp; try with_reducible rfl)); try simp only [Act.put, List.setIfInBounds_toArray, List.set_cons_zero, List.set_cons_succ])
    first | (refine wpAnyH_take (i := 8) (v := undef) (by simp only [List.getElem?_toArray, List.getElem?_cons_succ, List.getElem?_cons_zero]; exact rfl) (by kernel_rfl) (by kernel_rfl) (by kernel_rfl) (fun _ _ _ h => h) (Or.inr ⟨?_, rfl⟩) (by assumption) ?_; (rfl); try simp only [Act.put, List.setIfInBounds_toArray, List.set_cons_zero, List.set_cons_succ]) | (refine wpAnyH_take (i := 8) (v := ?_) (by simp only [List.getElem?_toArray, List.getElem?_cons_succ, List.getElem?_cons_zero]; exact rfl) (by kernel_rfl) (by kernel_rfl) (by kernel_rfl) (fun _ _ _ h => h) (Or.inl ⟨?_, ?_⟩) (by assumption) ?_; rotate_left; (rfl); (focus (intro w hSw; (try dsimp only at hSw); go_simp; try with_reducible rfl)); try simp only [Act.put, List.setIfInBounds_toArray, List.set_cons_zero, List.set_cons_succ])
    (refine wpAnyH_take (i := 9) (v := e1.a) (by simp only [List.getElem?_toArray, List.getElem?_cons_succ, List.getElem?_cons_zero]; exact rfl) (by kernel_rfl) (by kernel_rfl) (by kernel_rfl) (fun _ _ _ h => h) (yieldsIf_load_mid (by rfl) 46 (.tmp 17) (by rfl) (g) (o + m * 18) (by rfl) (e1.cs.toList) _ (fun W hS => HRM.out W (B.out.trans (hS.mono B.out.size))) Tryz.underlying46 (by rfl) (by kernel_rfl)) (by assumption) ?_; try simp only [Act.put, List.setIfInBounds_toArray, List.set_cons_zero, List.set_cons_succ])
    refine wpAnyH_ready (rs := [10, 11]) (by kernel_rfl) (by simp) ?_
    refine AllReadyH.cons rfl (fun K hK => ?_) ?_
    · skip
      go_simp
      have RA := hidB (Bk.new wd 46 #[.int .u8 0, .int .u8 0, .float .f64 0, .string ⟨#[]⟩, .int .i64 0, .bool false, .slice none 0 0, .int .u8 0, .float .f64 0, .string ⟨#[]⟩, .int .i64 0, .int .u8 0, .float .f64 0, .string ⟨#[]⟩, .int .i64 0, .string ⟨#[]⟩, .bool false, .bool false])
      have hgB_gA := hHeld.size
      replace hHeld := hHeld.alloc hHeld.size (.cells #[.int .u8 0, .int .u8 0, .float .f64 0, .string ⟨#[]⟩, .int .i64 0, .bool false, .slice none 0 0, .int .u8 0, .float .f64 0, .string ⟨#[]⟩, .int .i64 0, .int .u8 0, .float .f64 0, .string ⟨#[]⟩, .int .i64 0, .string ⟨#[]⟩, .bool false, .bool false] 46)
      refine hK.out _ _ hHeld (fun _ => ?_)
      clear hK K
      try simp only [Act.put, List.setIfInBounds_toArray, List.set_cons_zero, List.set_cons_succ]
      generalize hWn : (wd.alloc (.cells #[.int .u8 0, .int .u8 0, .float .f64 0, .string ⟨#[]⟩, .int .i64 0, .bool false, .slice none 0 0, .int .u8 0, .float .f64 0, .string ⟨#[]⟩, .int .i64 0, .int .u8 0, .float .f64 0, .string ⟨#[]⟩, .int .i64 0, .string ⟨#[]⟩, .bool false, .bool false] 46)) = v1 at *
      clear hWn
      generalize hGn : wd.heap.size = gA at *
      clear hGn
      refine wpAnyH_ready (rs := [11]) (by kernel_rfl) (by simp) ?_
      refine AllReadyH.cons rfl (fun K hK => ?_) AllReadyH.nil
      go_simp
      have hne_gA_gB : gA ≠ v1.heap.size := Nat.ne_of_lt RA.out.lt
      replace RA := hidB (RA.out.alloc (.cells #[.int .u8 0, .int .u8 0, .float .f64 0, .string ⟨#[]⟩, .int .i64 0, .bool false, .slice none 0 0, .int .u8 0, .float .f64 0, .string ⟨#[]⟩, .int .i64 0, .int .u8 0, .float .f64 0, .string ⟨#[]⟩, .int .i64 0, .string ⟨#[]⟩, .bool false, .bool false] 46))
      have RB := hidB (Bk.new v1 46 #[.int .u8 0, .int .u8 0, .float .f64 0, .string ⟨#[]⟩, .int .i64 0, .bool false, .slice none 0 0, .int .u8 0, .float .f64 0, .string ⟨#[]⟩, .int .i64 0, .int .u8 0, .float .f64 0, .string ⟨#[]⟩, .int .i64 0, .string ⟨#[]⟩, .bool false, .bool false])
      have hgB_gB := hHeld.size
      replace hHeld := hHeld.alloc hHeld.size (.cells #[.int .u8 0, .int .u8 0, .float .f64 0, .string ⟨#[]⟩, .int .i64 0, .bool false, .slice none 0 0, .int .u8 0, .float .f64 0, .string ⟨#[]⟩, .int .i64 0, .int .u8 0, .float .f64 0, .string ⟨#[]⟩, .int .i64 0, .string ⟨#[]⟩, .bool false, .bool false] 46)
      refine hK.out _ _ hHeld (fun _ => ?_)
      clear hK K
      try simp only [Act.put, List.setIfInBounds_toArray, List.set_cons_zero, List.set_cons_succ]
      generalize hWn : (v1.alloc (.cells #[.int .u8 0, .int .u8 0, .float .f64 0, .string ⟨#[]⟩, .int .i64 0, .bool false, .slice none 0 0, .int .u8 0, .float .f64 0, .string ⟨#[]⟩, .int .i64 0, .int .u8 0, .float .f64 0, .string ⟨#[]⟩, .int .i64 0, .string ⟨#[]⟩, .bool false, .bool false] 46)) = v2 at *
      clear hWn
      generalize hGn : v1.heap.size = gB at *
      clear hGn
      refine wpAnyH_ready (rs := [12]) (by kernel_rfl) (by simp) ?_
      refine AllReadyH.cons rfl (fun K hK => ?_) AllReadyH.nil
      rw [if_pos (by kernel_rfl)]
      refine wp_store_row 46 (.tmp 7) (.tmp 13) (by rfl) gA e0.cs (by rfl) (by rfl) 46 #[.int .u8 0, .int .u8 0, .float .f64 0, .string ⟨#[]⟩, .int .i64 0, .bool false, .slice none 0 0, .int .u8 0, .float .f64 0, .string ⟨#[]⟩, .int .i64 0, .int .u8 0, .float .f64 0, .string ⟨#[]⟩, .int .i64 0, .string ⟨#[]⟩, .bool false, .bool false] (by exact RA.out) (by kernel_rfl) (by rfl) (by exact (OJ.one _ HPN.out)) ?_
      replace RB := hidB (RB.out.setRow_far (show gA ≠ gB by omega) e0.cs)
      replace RA := hidB (RA.out.setRow e0.cs)
      replace hHeld := below_setRow hHeld hgB_gA e0.cs
      refine put_none_K (by first | rfl | kernel_rfl) ?_
      refine hK.out _ _ hHeld (fun _ => ?_)
      clear hK K
      generalize hWn : v2.setRow gA e0.cs = v3 at *
      clear hWn
      refine wpAnyH_ready (rs := [13]) (by kernel_rfl) (by simp) ?_
      refine AllReadyH.cons rfl (fun K hK => ?_) AllReadyH.nil
      rw [if_pos (by kernel_rfl)]
      refine wp_store_row 46 (.tmp 8) (.tmp 18) (by rfl) gB e1.cs (by rfl) (by rfl) 46 #[.int .u8 0, .int .u8 0, .float .f64 0, .string ⟨#[]⟩, .int .i64 0, .bool false, .slice none 0 0, .int .u8 0, .float .f64 0, .string ⟨#[]⟩, .int .i64 0, .int .u8 0, .float .f64 0, .string ⟨#[]⟩, .int .i64 0, .string ⟨#[]⟩, .bool false, .bool false] (by exact RB.out) (by kernel_rfl) (by rfl) (by exact (OJ.one _ HPM.out)) ?_
      replace RA := hidB (RA.out.setRow_far (show gB ≠ gA by omega) e1.cs)
      replace RB := hidB (RB.out.setRow e1.cs)
      replace hHeld := below_setRow hHeld hgB_gB e1.cs
      refine put_none_K (by first | rfl | kernel_rfl) ?_
      refine hK.out _ _ hHeld (fun _ => ?_)
      clear hK K
      generalize hWn : v3.setRow gB e1.cs = v4 at *
      clear hWn
      refine wpAnyH_done (by kernel_rfl) ?_ _
      refine NoPanic.normal ?_
      go_wp2_with fail
      go_meet
      case rel => exact ⟨gA, gB, rfl, rfl, hgB_gA, hgB_gB, RA.out, RB.out, hHeld⟩
    refine AllReadyH.cons rfl (fun K hK => ?_) AllReadyH.nil
    go_simp
    have RB := hidB (Bk.new wd 46 #[.int .u8 0, .int .u8 0, .float .f64 0, .string ⟨#[]⟩, .int .i64 0, .bool false, .slice none 0 0, .int .u8 0, .float .f64 0, .string ⟨#[]⟩, .int .i64 0, .int .u8 0, .float .f64 0, .string ⟨#[]⟩, .int .i64 0, .string ⟨#[]⟩, .bool false, .bool false])
    have hgB_gB := hHeld.size
    replace hHeld := hHeld.alloc hHeld.size (.cells #[.int .u8 0, .int .u8 0, .float .f64 0, .string ⟨#[]⟩, .int .i64 0, .bool false, .slice none 0 0, .int .u8 0, .float .f64 0, .string ⟨#[]⟩, .int .i64 0, .int .u8 0, .float .f64 0, .string ⟨#[]⟩, .int .i64 0, .string ⟨#[]⟩, .bool false, .bool false] 46)
    refine hK.out _ _ hHeld (fun _ => ?_)
    clear hK K
    try simp only [Act.put, List.setIfInBounds_toArray, List.set_cons_zero, List.set_cons_succ]
    generalize hWn : (wd.alloc (.cells #[.int .u8 0, .int .u8 0, .float .f64 0, .string ⟨#[]⟩, .int .i64 0, .bool false, .slice none 0 0, .int .u8 0, .float .f64 0, .string ⟨#[]⟩, .int .i64 0, .int .u8 0, .float .f64 0, .string ⟨#[]⟩, .int .i64 0, .string ⟨#[]⟩, .bool false, .bool false] 46)) = v1 at *
    clear hWn
    generalize hGn : wd.heap.size = gB at *
    clear hGn
    refine wpAnyH_ready (rs := [10]) (by kernel_rfl) (by simp) ?_
    refine AllReadyH.cons rfl (fun K hK => ?_) AllReadyH.nil
    go_simp
    have hne_gB_gA : gB ≠ v1.heap.size := Nat.ne_of_lt RB.out.lt
    replace RB := hidB (RB.out.alloc (.cells #[.int .u8 0, .int .u8 0, .float .f64 0, .string ⟨#[]⟩, .int .i64 0, .bool false, .slice none 0 0, .int .u8 0, .float .f64 0, .string ⟨#[]⟩, .int .i64 0, .int .u8 0, .float .f64 0, .string ⟨#[]⟩, .int .i64 0, .string ⟨#[]⟩, .bool false, .bool false] 46))
    have RA := hidB (Bk.new v1 46 #[.int .u8 0, .int .u8 0, .float .f64 0, .string ⟨#[]⟩, .int .i64 0, .bool false, .slice none 0 0, .int .u8 0, .float .f64 0, .string ⟨#[]⟩, .int .i64 0, .int .u8 0, .float .f64 0, .string ⟨#[]⟩, .int .i64 0, .string ⟨#[]⟩, .bool false, .bool false])
    have hgB_gA := hHeld.size
    replace hHeld := hHeld.alloc hHeld.size (.cells #[.int .u8 0, .int .u8 0, .float .f64 0, .string ⟨#[]⟩, .int .i64 0, .bool false, .slice none 0 0, .int .u8 0, .float .f64 0, .string ⟨#[]⟩, .int .i64 0, .int .u8 0, .float .f64 0, .string ⟨#[]⟩, .int .i64 0, .string ⟨#[]⟩, .bool false, .bool false] 46)
    refine hK.out _ _ hHeld (fun _ => ?_)
    clear hK K
    try simp only [Act.put, List.setIfInBounds_toArray, List.set_cons_zero, List.set_cons_succ]
    generalize hWn : (v1.alloc (.cells #[.int .u8 0, .int .u8 0, .float .f64 0, .string ⟨#[]⟩, .int .i64 0, .bool false, .slice none 0 0, .int .u8 0, .float .f64 0, .string ⟨#[]⟩, .int .i64 0, .int .u8 0, .float .f64 0, .string ⟨#[]⟩, .int .i64 0, .string ⟨#[]⟩, .bool false, .bool false] 46)) = v2 at *
    clear hWn
    generalize hGn : v1.heap.size = gA at *
    clear hGn
    refine wpAnyH_ready (rs := [12]) (by kernel_rfl) (by simp) ?_
    refine AllReadyH.cons rfl (fun K hK => ?_) AllReadyH.nil
    rw [if_pos (by kernel_rfl)]
    refine wp_store_row 46 (.tmp 7) (.tmp 13) (by rfl) gA e0.cs (by rfl) (by rfl) 46 #[.int .u8 0, .int .u8 0, .float .f64 0, .string ⟨#[]⟩, .int .i64 0, .bool false, .slice none 0 0, .int .u8 0, .float .f64 0, .string ⟨#[]⟩, .int .i64 0, .int .u8 0, .float .f64 0, .string ⟨#[]⟩, .int .i64 0, .string ⟨#[]⟩, .bool false, .bool false] (by exact RA.out) (by kernel_rfl) (by rfl) (by exact (OJ.one _ HPN.out)) ?_
    replace RB := hidB (RB.out.setRow_far (show gA ≠ gB by omega) e0.cs)
    replace RA := hidB (RA.out.setRow e0.cs)
    replace hHeld := below_setRow hHeld hgB_gA e0.cs
    refine put_none_K (by first | rfl | kernel_rfl) ?_
    refine hK.out _ _ hHeld (fun _ => ?_)
    clear hK K
    generalize hWn : v2.setRow gA e0.cs = v3 at *
    clear hWn
    refine wpAnyH_ready (rs := [13]) (by kernel_rfl) (by simp) ?_
    refine AllReadyH.cons rfl (fun K hK => ?_) AllReadyH.nil
    rw [if_pos (by kernel_rfl)]
    refine wp_store_row 46 (.tmp 8) (.tmp 18) (by rfl) gB e1.cs (by rfl) (by rfl) 46 #[.int .u8 0, .int .u8 0, .float .f64 0, .string ⟨#[]⟩, .int .i64 0, .bool false, .slice none 0 0, .int .u8 0, .float .f64 0, .string ⟨#[]⟩, .int .i64 0, .int .u8 0, .float .f64 0, .string ⟨#[]⟩, .int .i64 0, .string ⟨#[]⟩, .bool false, .bool false] (by exact RB.out) (by kernel_rfl) (by rfl) (by exact (OJ.one _ HPM.out)) ?_
    replace RA := hidB (RA.out.setRow_far (show gB ≠ gA by omega) e1.cs)
    replace RB := hidB (RB.out.setRow e1.cs)
    replace hHeld := below_setRow hHeld hgB_gB e1.cs
    refine put_none_K (by first | rfl | kernel_rfl) ?_
    refine hK.out _ _ hHeld (fun _ => ?_)
    clear hK K
    generalize hWn : v3.setRow gB e1.cs = v4 at *
    clear hWn
    refine wpAnyH_done (by kernel_rfl) ?_ _
    refine NoPanic.normal ?_
    go_wp2_with fail
    go_meet
    case rel => exact ⟨gA, gB, rfl, rfl, hgB_gA, hgB_gB, RA.out, RB.out, hHeld⟩
  case rest =>
  obtain ⟨gA, gB, rfl, rfl, hga, hgb, hA, hB, hb⟩ := hcut
  have RA := hidB hA
  have RB := hidB hB
  replace R := hidB (R.out.on hb)
  replace B := hidB (B.out.trans (hb.mono B.out.size))
  have HGA : Hid (w.heap.size + 1 < gA ∧ w.heap.size + 1 < gB) := hidB (by have := HRLT.out; omega)
  clear hA hB hb hga hgb Y HRLT
  go_upto_region 2 with fail
  refine wp_region_noPanic ?_
  refine wp_region_held_drew (S := fun W => Below w.heap.size w W ∧ Bk W gA 46 e0.cs ∧ Bk W gB 46 e1.cs ∧ ∃ u, Bk W (w.heap.size + 1) 46 u) (by kernel_rfl) ?_ (fun hHeld => ?_)
  · exact ⟨B.out.drew, RA.out.drew, RB.out.drew, _, R.out.drew⟩
  replace R := hidB (show Bk wc.drew (w.heap.size + 1) 46 #[.int .u8 0, .int .u8 0, .float .f64 0, .string ⟨#[]⟩, .int .i64 0, .bool false, .slice none 0 0, .int .u8 0, .float .f64 0, .string ⟨#[]⟩, .int .i64 0, .int .u8 0, .float .f64 0, .string ⟨#[]⟩, .int .i64 0, .string ⟨#[]⟩, .bool false, .bool false] from R.out)
  generalize hWd : wc.drew = wd at *
  clear hWd
  (refine wpAnyH_take (i := 0) (v := .agg (nullI.cells.toArray)) (by simp only [List.getElem?_toArray, List.getElem?_cons_zero]; exact rfl) (by kernel_rfl) (by kernel_rfl) (by kernel_rfl) (fun _ _ _ h => h) (yieldsIf_build (by rfl) 43 _ (by rfl) [(0, .int .u8 1)] (by kernel_rfl) (nullI.cells.toArray) (by kernel_rfl)) (by assumption) ?_; try simp only [Act.put, List.setIfInBounds_toArray, List.set_cons_zero, List.set_cons_succ])
  (refine wpAnyH_take (i := 1) (v := e0.a) (by simp only [List.getElem?_toArray, List.getElem?_cons_succ, List.getElem?_cons_zero]; exact rfl) (by kernel_rfl) (by kernel_rfl) (by kernel_rfl) (fun _ _ _ h => h) (yieldsIf_load_mid (by rfl) 46 (.tmp 7) (by rfl) (gA) (0) (by rfl) (e0.cs.toList) _ (fun W hS => Bk.mid hS.2.1 0 _ rfl) Tryz.underlying46 (by rfl) (by kernel_rfl)) (by assumption) ?_; try simp only [Act.put, List.setIfInBounds_toArray, List.set_cons_zero, List.set_cons_succ])
  first | (refine wpAnyH_take (i := 2) (v := undef) (by simp only [List.getElem?_toArray, List.getElem?_cons_succ, List.getElem?_cons_zero]; exact rfl) (by kernel_rfl) (by kernel_rfl) (by kernel_rfl) (fun _ _ _ h => h) (Or.inr ⟨?_, rfl⟩) (by assumption) ?_; (rfl); try simp only [Act.put, List.setIfInBounds_toArray, List.set_cons_zero, List.set_cons_succ]) | (refine wpAnyH_take (i := 2) (v := ?_) (by simp only [List.getElem?_toArray, List.getElem?_cons_succ, List.getElem?_cons_zero]; exact rfl) (by kernel_rfl) (by kernel_rfl) (by kernel_rfl) (fun _ _ _ h => h) (Or.inl ⟨?_, ?_⟩) (by assumption) ?_; rotate_left; (rfl); (focus (intro w hSw; (try dsimp only at hSw); go_simp; try with_reducible rfl)); try simp only [Act.put, List.setIfInBounds_toArray, List.set_cons_zero, List.set_cons_succ])
  (refine wpAnyH_take (i := 4) (v := e1.a) (by simp only [List.getElem?_toArray, List.getElem?_cons_succ, List.getElem?_cons_zero]; exact rfl) (by kernel_rfl) (by kernel_rfl) (by kernel_rfl) (fun _ _ _ h => h) (yieldsIf_load_mid (by rfl) 46 (.tmp 8) (by rfl) (gB) (0) (by rfl) (e1.cs.toList) _ (fun W hS => Bk.mid hS.2.2.1 0 _ rfl) Tryz.underlying46 (by rfl) (by kernel_rfl)) (by assumption) ?_; try simp only [Act.put, List.setIfInBounds_toArray, List.set_cons_zero, List.set_cons_succ])
  first | (refine wpAnyH_take (i := 5) (v := undef) (by simp only [List.getElem?_toArray, List.getElem?_cons_succ, List.getElem?_cons_zero]; exact rfl) (by kernel_rfl) (by kernel_rfl) (by kernel_rfl) (fun _ _ _ h => h) (Or.inr ⟨?_, rfl⟩) (by assumption) ?_; (rfl); try simp only [Act.put, List.setIfInBounds_toArray, List.set_cons_zero, List.set_cons_succ]) | (refine wpAnyH_take (i := 5) (v := ?_) (by simp only [List.getElem?_toArray, List.getElem?_cons_succ, List.getElem?_cons_zero]; exact rfl) (by kernel_rfl) (by kernel_rfl) (by kernel_rfl) (fun _ _ _ h => h) (Or.inl ⟨?_, ?_⟩) (by assumption) ?_; rotate_left; (rfl); (focus (intro w hSw; (try dsimp only at hSw); go_simp; try with_reducible rfl)); try simp only [Act.put, List.setIfInBounds_toArray, List.set_cons_zero, List.set_cons_succ])
  first | (refine wpAnyH_take (i := 7) (v := undef) (by simp only [List.getElem?_toArray, List.getElem?_cons_succ, List.getElem?_cons_zero]; exact rfl) (by kernel_rfl) (by kernel_rfl) (by kernel_rfl) (fun _ _ _ h => h) (Or.inr ⟨?_, rfl⟩) (by assumption) ?_; (rfl); try simp only [Act.put, List.setIfInBounds_toArray, List.set_cons_zero, List.set_cons_succ]) | (refine wpAnyH_take (i := 7) (v := ?_) (by simp only [List.getElem?_toArray, List.getElem?_cons_succ, List.getElem?_cons_zero]; exact rfl) (by kernel_rfl) (by kernel_rfl) (by kernel_rfl) (fun _ _ _ h => h) (Or.inl ⟨?_, ?_⟩) (by assumption) ?_; rotate_left; (rfl); (focus (intro w hSw; (try dsimp only at hSw); go_simp; try with_reducible rfl)); try simp only [Act.put, List.setIfInBounds_toArray, List.set_cons_zero, List.set_cons_succ])
  first | (refine wpAnyH_take (i := 8) (v := undef) (by simp only [List.getElem?_toArray, List.getElem?_cons_succ, List.getElem?_cons_zero]; exact rfl) (by kernel_rfl) (by kernel_rfl) (by kernel_rfl) (fun _ _ _ h => h) (Or.inr ⟨?_, rfl⟩) (by assumption) ?_; (rfl); try simp only [Act.put, List.setIfInBounds_toArray, List.set_cons_zero, List.set_cons_succ]) | (refine wpAnyH_take (i := 8) (v := ?_) (by simp only [List.getElem?_toArray, List.getElem?_cons_succ, List.getElem?_cons_zero]; exact rfl) (by kernel_rfl) (by kernel_rfl) (by kernel_rfl) (fun _ _ _ h => h) (Or.inl ⟨?_, ?_⟩) (by assumption) ?_; rotate_left; (rfl); (focus (intro W hSw; have hc0 := (show W.cell? ⟨gA, 16, none⟩ = some (.bool e0.ca) from hSw.2.1.cell 16); clear hSw; go_simp; try with_reducible rfl)); try simp only [Act.put, List.setIfInBounds_toArray, List.set_cons_zero, List.set_cons_succ])
  first | (refine wpAnyH_take (i := 9) (v := undef) (by simp only [List.getElem?_toArray, List.getElem?_cons_succ, List.getElem?_cons_zero]; exact rfl) (by kernel_rfl) (by kernel_rfl) (by kernel_rfl) (fun _ _ _ h => h) (Or.inr ⟨?_, rfl⟩) (by assumption) ?_; (rfl); try simp only [Act.put, List.setIfInBounds_toArray, List.set_cons_zero, List.set_cons_succ]) | (refine wpAnyH_take (i := 9) (v := ?_) (by simp only [List.getElem?_toArray, List.getElem?_cons_succ, List.getElem?_cons_zero]; exact rfl) (by kernel_rfl) (by kernel_rfl) (by kernel_rfl) (fun _ _ _ h => h) (Or.inl ⟨?_, ?_⟩) (by assumption) ?_; rotate_left; (rfl); (focus (intro w hSw; (try dsimp only at hSw); go_simp; try with_reducible rfl)); try simp only [Act.put, List.setIfInBounds_toArray, List.set_cons_zero, List.set_cons_succ])
  first | (refine wpAnyH_take (i := 10) (v := undef) (by simp only [List.getElem?_toArray, List.getElem?_cons_succ, List.getElem?_cons_zero]; exact rfl) (by kernel_rfl) (by kernel_rfl) (by kernel_rfl) (fun _ _ _ h => h) (Or.inr ⟨?_, rfl⟩) (by assumption) ?_; (rfl); try simp only [Act.put, List.setIfInBounds_toArray, List.set_cons_zero, List.set_cons_succ]) | (refine wpAnyH_take (i := 10) (v := ?_) (by simp only [List.getElem?_toArray, List.getElem?_cons_succ, List.getElem?_cons_zero]; exact rfl) (by kernel_rfl) (by kernel_rfl) (by kernel_rfl) (fun _ _ _ h => h) (Or.inl ⟨?_, ?_⟩) (by assumption) ?_; rotate_left; (rfl); (focus (intro W hSw; have hc0 := (show W.cell? ⟨gA, 17, none⟩ = some (.bool e0.ma) from hSw.2.1.cell 17); clear hSw; go_simp; try with_reducible rfl)); try simp only [Act.put, List.setIfInBounds_toArray, List.set_cons_zero, List.set_cons_succ])
  refine wpAnyH_ready (rs := [3]) (by kernel_rfl) (by simp) ?_
  refine AllReadyH.cons rfl (fun K hK => ?_) AllReadyH.nil
  go_simp
  refine (rvalue_any e0 n _).mono ?_; rintro e v5 ⟨rfl, hb⟩
  replace R := hidB (R.out.on hb)
  replace hHeld := And.intro (hHeld.1.trans (hb.mono hHeld.1.size)) (And.intro (hHeld.2.1.on hb) (And.intro (hHeld.2.2.1.on hb) (Exists.intro _ R.out)))
  clear hb
  refine hK.out _ _ hHeld (fun _ => ?_)
  clear hK K
  try simp only [Act.put, List.setIfInBounds_toArray, List.set_cons_zero, List.set_cons_succ]
  refine wpAnyH_ready (rs := [6]) (by kernel_rfl) (by simp) ?_
  refine AllReadyH.cons rfl (fun K hK => ?_) AllReadyH.nil
  go_simp
  refine (rvalue_any e1 m _).mono ?_; rintro e v6 ⟨rfl, hb⟩
  replace R := hidB (R.out.on hb)
  replace hHeld := And.intro (hHeld.1.trans (hb.mono hHeld.1.size)) (And.intro (hHeld.2.1.on hb) (And.intro (hHeld.2.2.1.on hb) (Exists.intro _ R.out)))
  clear hb
  refine hK.out _ _ hHeld (fun _ => ?_)
  clear hK K
  try simp only [Act.put, List.setIfInBounds_toArray, List.set_cons_zero, List.set_cons_succ]
  (refine wpAnyH_take (i := 11) (v := .agg ((OJ.mk 6 nullI false (.slice none 0 0) (namedI e0 n) (namedI e1 m) ⟨#[]⟩ e0.ca e0.ma).cs)) (by simp only [List.getElem?_toArray, List.getElem?_cons_succ, List.getElem?_cons_zero]; exact rfl) (by kernel_rfl) (by kernel_rfl) (by kernel_rfl) (fun _ _ _ h => h) (yieldsIf_build (by rfl) 46 _ (by rfl) [(0, .int .u8 6), (1, nullI.a), (4, (namedI e0 n).a), (5, (namedI e1 m).a), (7, .bool e0.ca), (8, .bool e0.ma)] (by kernel_rfl) ((OJ.mk 6 nullI false (.slice none 0 0) (namedI e0 n) (namedI e1 m) ⟨#[]⟩ e0.ca e0.ma).cs) (by kernel_rfl)) (by assumption) ?_; try simp only [Act.put, List.setIfInBounds_toArray, List.set_cons_zero, List.set_cons_succ])
  refine wpAnyH_ready (rs := [12]) (by kernel_rfl) (by simp) ?_
  refine AllReadyH.cons rfl (fun K hK => ?_) AllReadyH.nil
  rw [if_pos (by kernel_rfl)]
  refine wp_store_row 46 (.tmp 6) (.tmp 30) (by rfl) (w.heap.size + 1) ((OJ.mk 6 nullI false (.slice none 0 0) (namedI e0 n) (namedI e1 m) ⟨#[]⟩ e0.ca e0.ma).cs) (by rfl) (by rfl) 46 (#[.int .u8 0, .int .u8 0, .float .f64 0, .string ⟨#[]⟩, .int .i64 0, .bool false, .slice none 0 0, .int .u8 0, .float .f64 0, .string ⟨#[]⟩, .int .i64 0, .int .u8 0, .float .f64 0, .string ⟨#[]⟩, .int .i64 0, .string ⟨#[]⟩, .bool false, .bool false]) (by exact R.out) (by kernel_rfl) (by rfl) (by exact OJ.one _ rfl) ?_
  replace hHeld := And.intro (show Below w.heap.size w (v6.setRow (w.heap.size + 1) (OJ.mk 6 nullI false (.slice none 0 0) (namedI e0 n) (namedI e1 m) ⟨#[]⟩ e0.ca e0.ma).cs) from below_setRow hHeld.1 (Nat.le_succ _) _) (And.intro (hHeld.2.1.setRow_far (show w.heap.size + 1 ≠ gA by have := HGA.out.1; omega) (OJ.mk 6 nullI false (.slice none 0 0) (namedI e0 n) (namedI e1 m) ⟨#[]⟩ e0.ca e0.ma).cs) (And.intro (hHeld.2.2.1.setRow_far (show w.heap.size + 1 ≠ gB by have := HGA.out.2; omega) (OJ.mk 6 nullI false (.slice none 0 0) (namedI e0 n) (namedI e1 m) ⟨#[]⟩ e0.ca e0.ma).cs) (Exists.intro _ (R.out.setRow (OJ.mk 6 nullI false (.slice none 0 0) (namedI e0 n) (namedI e1 m) ⟨#[]⟩ e0.ca e0.ma).cs))))
  replace R := hidB (R.out.setRow (OJ.mk 6 nullI false (.slice none 0 0) (namedI e0 n) (namedI e1 m) ⟨#[]⟩ e0.ca e0.ma).cs)
  refine put_none_K (by first | rfl | kernel_rfl) ?_
  refine hK.out _ _ hHeld (fun _ => ?_)
  clear hK K
  refine wpAnyH_done (by kernel_rfl) ?_ _
  refine NoPanic.normal ?_
  go_wp2_with fail
  rw [show px = (OJ.mk 6 nullI false (.slice none 0 0) (namedI e0 n) (namedI e1 m) ⟨#[]⟩ e0.ca e0.ma) from HPX.out]
  exact bodyPost_ret (v := .agg ((OJ.mk 6 nullI false (.slice none 0 0) (namedI e0 n) (namedI e1 m) ⟨#[]⟩ e0.ca e0.ma).cs)) (results_cell_row Tryz.results27 _ _ (w.heap.size + 1) 46 ((OJ.mk 6 nullI false (.slice none 0 0) (namedI e0 n) (namedI e1 m) ⟨#[]⟩ e0.ca e0.ma).cs) (0, 0) _ rfl (R.out) Tryz.underlying46 rfl (by kernel_rfl)) rfl (⟨rfl, hHeld.1⟩)

theorem askE_pair (h : HI) (n m : Int) : askE h [n, m] = if askE h [n] = 0 then askE h [m] else askE h [n] := by
  rw [askE_one, askE_one]
  unfold askE
  rcases chkH_two h with h1 | h1 <;> rw [h1]
  · by_cases h2 : 0 ≤ n ∧ n < (h.length : Int)
    · by_cases h3 : 0 ≤ m ∧ m < (h.length : Int)
      · rw [if_pos rfl, if_pos rfl, if_pos h2, if_pos rfl, if_pos rfl, if_pos h3, if_pos (by simp [h2.1, h2.2, h3.1, h3.2])]
      · rw [if_pos rfl, if_pos rfl, if_pos h2, if_pos rfl, if_pos rfl, if_neg h3, if_neg]
        intro hh
        simp only [List.all_cons, List.all_nil, Bool.and_true, Bool.and_eq_true, decide_eq_true_eq] at hh
        exact h3 hh.2
    · rw [if_pos rfl, if_pos rfl, if_neg h2, if_neg (show ¬ ((2 : Int) = 0) by decide), if_neg]
      intro hh
      simp only [List.all_cons, List.all_nil, Bool.and_true, Bool.and_eq_true, decide_eq_true_eq] at hh
      exact h2 hh.1
  · rw [if_neg (show ¬ ((9 : Int) = 0) by decide), if_neg (show ¬ ((9 : Int) = 0) by decide), if_neg (show ¬ ((9 : Int) = 0) by decide)]
set_option maxHeartbeats 8000000 in
set_option maxRecDepth 100000 in
theorem rmake_any (h : HI) (hok : HOk h) (hk : HKeys h) (hby : HBytes h) (hv : Value) (n m : Int) (w : World) (hr : RdH h hv w) : Calls Tryz.prog 7 #[.agg #[hv], .int .i64 n, .int .i64 m] w (MakeF h n m w) := by
  have AS := hidB (fun (k : Int) W (hb : Below w.heap.size w W) => rasked_any h hok hk hby hv k W (hr.on hb))
  have HRD := hidB (fun W (hb : Below w.heap.size w W) => hr.on hb)
  have HAP := hidB (askE_pair h n m)
  obtain ⟨⟨pa, c, rfl, h1, h2, _⟩, _⟩ := hr
  unfold maxLen at h2
  have hlm : h.length ≤ 9223372036854775807 := by omega
  clear hok hk hby
  have Y := hidB (show Bk ((w.alloc (.cells (#[(.slice pa h.length c)]) 24)).alloc (.cells (#[.slice none 0 0]) 24)) (w.heap.size) 24 (#[(.slice pa h.length c)]) from (Bk.new w _ _).alloc _)
  have R := hidB (show Bk ((w.alloc (.cells (#[(.slice pa h.length c)]) 24)).alloc (.cells (#[.slice none 0 0]) 24)) (w.heap.size + 1) 24 (#[.slice none 0 0]) from Bk.new2 w _ _ _)
  have B := hidB (show Below w.heap.size w ((w.alloc (.cells (#[(.slice pa h.length c)]) 24)).alloc (.cells (#[.slice none 0 0]) 24)) from (box_one w _).alloc (by simp) _)
  go_enter Tryz.func7, Tryz.ntmps7
  go_upto_region 1 with fail
  generalize hW : ((w.alloc (.cells (#[(.slice pa h.length c)]) 24)).alloc (.cells (#[.slice none 0 0]) 24)) = w1 at *
  clear hW
  go_wp2_with (first | ((with_reducible refine ldId 24 (.tmp 3) ?_); refine wpList_load_row (by rfl) 24 (.tmp 3) (by rfl) (w.heap.size) (by rfl) 24 (#[(.slice pa h.length c)]) (0, 0) _ (by exact Y.out) Tryz.underlying24 (by rfl) (by kernel_rfl) ?_))
  refine (AS.out n _ B.out).mono ?_; rintro e w2 ⟨rfl, hb⟩
  replace Y := hidB (Y.out.on hb); replace R := hidB (R.out.on hb); replace B := hidB (B.out.trans (hb.mono B.out.size)); clear hb
  obtain ⟨ck, hck⟩ : ∃ ck, askE h [n] = ck := ⟨_, rfl⟩
  have HCK := hidB hck
  rw [hck]
  clear hck
  by_cases h0 : ck = 0
  rotate_left
  · have h0b : (ck == 0) = false := by rw [beq_eq_false_iff_ne]; exact h0
    have h0n : (ck != 0) = true := by rw [bne, h0b]; rfl
    have HN := hidB h0
    clear h0
    have HE := hidB (show askE h [n, m] = ck by rw [HAP.out, HCK.out, if_neg HN.out])
    have HM := hidB (show mkE h n m = ck by unfold mkE; rw [HE.out, if_neg HN.out])
    have r0 : w2.cell? ⟨w.heap.size + 1, 0, none⟩ = some (.slice none 0 0) := R.out.cell 0
    have f0 : w2.frozen? ⟨w.heap.size + 1, 0, none⟩ = false := R.out.free 0
    go_wp2_with fail
    exact bodyPost_ret (v := .tuple #[.agg (#[.slice none 0 0]), .int .i64 0, .int .i64 ck]) (results_row3 Tryz.results7 _ _ (w.heap.size + 1) 24 (#[.slice none 0 0]) (0, 0) _ rfl (R.out.set 0 _) Tryz.underlying24 rfl (by kernel_rfl)) rfl (⟨B.out.setCell (by show w.heap.size ≤ w.heap.size + 1; omega) _, Or.inl ⟨by rw [HM.out]; exact HN.out, by rw [HM.out]⟩⟩)
  subst h0
  go_wp2_with (first | ((with_reducible refine ldId 24 (.tmp 3) ?_); refine wpList_load_row (by rfl) 24 (.tmp 3) (by rfl) (w.heap.size) (by rfl) 24 (#[(.slice pa h.length c)]) (0, 0) _ (by exact Y.out) Tryz.underlying24 (by rfl) (by kernel_rfl) ?_))
  refine (AS.out m _ B.out).mono ?_; rintro e w3 ⟨rfl, hb⟩
  replace Y := hidB (Y.out.on hb); replace R := hidB (R.out.on hb); replace B := hidB (B.out.trans (hb.mono B.out.size)); clear hb
  obtain ⟨ck, hck⟩ : ∃ ck, askE h [m] = ck := ⟨_, rfl⟩
  have HCM := hidB hck
  rw [hck]
  clear hck AS
  have HE := hidB (show askE h [n, m] = ck by rw [HAP.out, HCK.out, if_pos rfl, HCM.out])
  by_cases h0 : ck = 0
  rotate_left
  · have h0b : (ck == 0) = false := by rw [beq_eq_false_iff_ne]; exact h0
    have h0n : (ck != 0) = true := by rw [bne, h0b]; rfl
    have HN := hidB h0
    clear h0
    have HM := hidB (show mkE h n m = ck by unfold mkE; rw [HE.out, if_neg HN.out])
    have r0 : w3.cell? ⟨w.heap.size + 1, 0, none⟩ = some (.slice none 0 0) := R.out.cell 0
    have f0 : w3.frozen? ⟨w.heap.size + 1, 0, none⟩ = false := R.out.free 0
    go_wp2_with fail
    exact bodyPost_ret (v := .tuple #[.agg (#[.slice none 0 0]), .int .i64 0, .int .i64 ck]) (results_row3 Tryz.results7 _ _ (w.heap.size + 1) 24 (#[.slice none 0 0]) (0, 0) _ rfl (R.out.set 0 _) Tryz.underlying24 rfl (by kernel_rfl)) rfl (⟨B.out.setCell (by show w.heap.size ≤ w.heap.size + 1; omega) _, Or.inl ⟨by rw [HM.out]; exact HN.out, by rw [HM.out]⟩⟩)
  subst h0
  obtain ⟨hc, ⟨hn0, hn1⟩, hm0, hm1⟩ := askE_two HE.out
  obtain ⟨n, rfl⟩ : ∃ k : Nat, n = (k : Int) := ⟨n.toNat, by omega⟩
  obtain ⟨m, rfl⟩ : ∃ k : Nat, m = (k : Int) := ⟨m.toNat, by omega⟩
  have HN := hidB (show n < h.length by omega)
  have HMM := hidB (show m < h.length by omega)
  have HC := hidB (chkH_ok hc)
  clear hc hn0 hn1 hm0 hm1 HCK HCM HAP
  have HMK := hidB (show mkE h (n : Int) (m : Int) = (if goneB (objAt h n) || goneB (objAt h m) then 140 else if h.length = 4096 then 4 else 0) by unfold mkE; rw [HE.out, if_pos rfl, Int.toNat_natCast, Int.toNat_natCast])
  go_wp2_with (first | ((with_reducible refine ldId 24 (.tmp 3) ?_); refine wpList_load_row (by rfl) 24 (.tmp 3) (by rfl) (w.heap.size) (by rfl) 24 (#[(.slice pa h.length c)]) (0, 0) _ (by exact Y.out) Tryz.underlying24 (by rfl) (by kernel_rfl) ?_))
  refine (rcut_any h _ n HN.out _ (HRD.out _ B.out)).mono ?_; rintro e w4 ⟨rfl, hb⟩
  replace Y := hidB (Y.out.on hb); replace R := hidB (R.out.on hb); replace B := hidB (B.out.trans (hb.mono B.out.size)); clear hb
  cases hg : goneB (objAt h n)
  rotate_left
  · have HG := hidB (show mkE h (n : Int) (m : Int) = 140 by rw [HMK.out, hg]; rfl)
    clear hg
    have r0 : w4.cell? ⟨w.heap.size + 1, 0, none⟩ = some (.slice none 0 0) := R.out.cell 0
    have f0 : w4.frozen? ⟨w.heap.size + 1, 0, none⟩ = false := R.out.free 0
    go_wp2_with fail
    exact bodyPost_ret (v := .tuple #[.agg (#[.slice none 0 0]), .int .i64 0, .int .i64 140]) (results_row3 Tryz.results7 _ _ (w.heap.size + 1) 24 (#[.slice none 0 0]) (0, 0) _ rfl (R.out.set 0 _) Tryz.underlying24 rfl (by kernel_rfl)) rfl (⟨B.out.setCell (by show w.heap.size ≤ w.heap.size + 1; omega) _, Or.inl ⟨by rw [HG.out]; decide, by rw [HG.out]⟩⟩)
  have HG0 := hidB hg
  clear hg
  go_wp2_with (first | ((with_reducible refine ldId 24 (.tmp 3) ?_); refine wpList_wload_row 24 (.tmp 3) (by rfl) (by rfl) (w.heap.size) (by rfl) 24 (#[(.slice pa h.length c)]) (0, 0) _ (by exact Y.out) Tryz.underlying24 (by rfl) (by kernel_rfl) ?_))
  refine (rcut_any h _ m HMM.out _ (HRD.out _ B.out)).mono ?_; rintro e w5 ⟨rfl, hb⟩
  replace Y := hidB (Y.out.on hb); replace R := hidB (R.out.on hb); replace B := hidB (B.out.trans (hb.mono B.out.size)); clear hb
  cases hg : goneB (objAt h m)
  rotate_left
  · have HG := hidB (show mkE h (n : Int) (m : Int) = 140 by rw [HMK.out, hg, HG0.out]; rfl)
    clear hg
    have r0 : w5.cell? ⟨w.heap.size + 1, 0, none⟩ = some (.slice none 0 0) := R.out.cell 0
    have f0 : w5.frozen? ⟨w.heap.size + 1, 0, none⟩ = false := R.out.free 0
    go_wp2_with fail
    exact bodyPost_ret (v := .tuple #[.agg (#[.slice none 0 0]), .int .i64 0, .int .i64 140]) (results_row3 Tryz.results7 _ _ (w.heap.size + 1) 24 (#[.slice none 0 0]) (0, 0) _ rfl (R.out.set 0 _) Tryz.underlying24 rfl (by kernel_rfl)) rfl (⟨B.out.setCell (by show w.heap.size ≤ w.heap.size + 1; omega) _, Or.inl ⟨by rw [HG.out]; decide, by rw [HG.out]⟩⟩)
  have HG1 := hidB hg
  clear hg
  have y0 : w5.cell? ⟨w.heap.size, 0, none⟩ = some (.slice pa h.length c) := Y.out.cell 0
  by_cases h4 : h.length = 4096
  · have h4i : (4096 : Int) ≤ (h.length : Int) := by omega
    have HG := hidB (show mkE h (n : Int) (m : Int) = 4 by rw [HMK.out, HG0.out, HG1.out, if_pos h4]; rfl)
    have r0 : w5.cell? ⟨w.heap.size + 1, 0, none⟩ = some (.slice none 0 0) := R.out.cell 0
    have f0 : w5.frozen? ⟨w.heap.size + 1, 0, none⟩ = false := R.out.free 0
    go_wp2_with fail
    exact bodyPost_ret (v := .tuple #[.agg (#[.slice none 0 0]), .int .i64 0, .int .i64 4]) (results_row3 Tryz.results7 _ _ (w.heap.size + 1) 24 (#[.slice none 0 0]) (0, 0) _ rfl (R.out.set 0 _) Tryz.underlying24 rfl (by kernel_rfl)) rfl (⟨B.out.setCell (by show w.heap.size ≤ w.heap.size + 1; omega) _, Or.inl ⟨by rw [HG.out]; decide, by rw [HG.out]⟩⟩)
  have h4i : ¬ (4096 : Int) ≤ (h.length : Int) := by have := HC.out.1; omega
  have HMZ := hidB (show mkE h (n : Int) (m : Int) = 0 by rw [HMK.out, HG0.out, HG1.out, if_neg h4]; rfl)
  clear HMK HG0 HG1 h4
  go_upto_region 10 with fail
  all_goals try (exfalso; omega)
  clear y0 h4i
  go_wp2_with (first | ((with_reducible refine ldId 24 (.tmp 3) ?_); refine wpList_load_row (by rfl) 24 (.tmp 3) (by rfl) (w.heap.size) (by rfl) 24 (#[(.slice pa h.length c)]) (0, 0) _ (by exact Y.out) Tryz.underlying24 (by rfl) (by kernel_rfl) ?_))
  refine (rtwin_any h _ _ (HRD.out _ B.out) (fun e he => Nat.le_trans (allO_len HC.out.2.1 e he) (by decide)) (by have := HC.out.1; omega)).mono ?_; rintro e w6 ⟨tv, rfl, hfr, hb⟩
  obtain ⟨h', hbr, hfr⟩ := hfr
  have FR := hidB (hfr.low B.out.size)
  have HBR := hidB hbr
  replace Y := hidB (Y.out.on hb); replace R := hidB (R.out.on hb); replace B := hidB (B.out.trans (hb.mono B.out.size)); clear hb
  clear hfr hbr
  obtain ⟨qt, ct, hts⟩ := own_sliceH FR.out.own
  subst hts
  have HLN := hidB (bareH_length HBR.out)
  have GT := hidB (show Bk (w6.alloc (.cells #[(.slice qt h'.length ct)] 24)) w6.heap.size 24 #[(.slice qt h'.length ct)] from Bk.new w6 _ _)
  have SS := hidB (show RTwS w (.slice pa h.length c) (w6.alloc (.cells #[(.slice qt h'.length ct)] 24)) from RTwS.on (show RTwS w (.slice pa h.length c) w6 from ⟨B.out, Y.out, R.out⟩) (box_one w6 _))
  replace FR := hidB (show FreshH w.heap.size h' (.slice qt h'.length ct) (w6.alloc (.cells #[(.slice qt h'.length ct)] 24)) from FR.out.on (box_one w6 _))
  have HGT := hidB (show w.heap.size + 1 < w6.heap.size from R.out.lt)
  clear Y R B
  go_upto_region 11 with (first | ((with_reducible refine wpId ?_); refine wpList_store_new (by rfl) 24 (.tmp 10) (.tmp 38) (by rfl) #[(.slice qt h'.length ct)] 24 _ (by rfl) (by rfl) (by kernel_rfl) (by rfl) (by rfl) ?_))
  generalize (w6.alloc (.cells #[(.slice qt h'.length ct)] 24)) = w7 at *
  generalize w6.heap.size = gt at *
  obtain ⟨i0, hi, hz0, hz1, hz2⟩ := info_parts info_objH
  go_cut [] from 39 to 47 (fun wx => ∃ tv, RTwS w (.slice pa h.length c) wx ∧ Bk wx gt 24 #[tv] ∧ FreshH w.heap.size (h' ++ [((prxO h n m), [])]) tv wx)
  case first =>
    refine wp_region_noPanic ?_
    refine wp_region_held_drew (S := fun W => RTwS w (.slice pa h.length c) W ∧ ∃ u, Bk W gt 24 #[u]) (by kernel_rfl) ?_ (fun hHeld => ?_)
    · exact ⟨SS.out.on (Below.refl _ _).drew, _, GT.out.drew⟩
    have HS := hidB (show RTwS w (.slice pa h.length c) w7.drew from SS.out.on (Below.refl _ _).drew)
    have HG := hidB (show Bk w7.drew gt 24 #[(.slice qt h'.length ct)] from GT.out)
    have HF := hidB (show FreshH w.heap.size h' (.slice qt h'.length ct) w7.drew from FR.out.on (Below.refl _ _).drew)
    clear SS GT FR
    generalize hWd : w7.drew = wd at *
    clear hWd
    first | (refine wpAnyH_take (i := 0) (v := undef) (by simp only [List.getElem?_toArray, List.getElem?_cons_zero]; exact rfl) (by kernel_rfl) (by kernel_rfl) (by kernel_rfl) (fun _ _ _ h => h) (Or.inr ⟨?_, rfl⟩) (by assumption) ?_; (rfl); try simp only [Act.put, List.setIfInBounds_toArray, List.set_cons_zero, List.set_cons_succ]) | (refine wpAnyH_take (i := 0) (v := ?_) (by simp only [List.getElem?_toArray, List.getElem?_cons_zero]; exact rfl) (by kernel_rfl) (by kernel_rfl) (by kernel_rfl) (fun _ _ _ h => h) (Or.inl ⟨?_, ?_⟩) (by assumption) ?_; rotate_left; (rfl); (focus (intro w hSw; (try dsimp only at hSw); go_simp; try with_reducible rfl)); try simp only [Act.put, List.setIfInBounds_toArray, List.set_cons_zero, List.set_cons_succ])
    (refine wpAnyH_take (i := 2) (v := .agg #[(.slice pa h.length c)]) (by simp only [List.getElem?_toArray, List.getElem?_cons_succ, List.getElem?_cons_zero]; exact rfl) (by kernel_rfl) (by kernel_rfl) (by kernel_rfl) (fun _ _ _ h => h) (yieldsIf_load_mid (by rfl) 24 (.tmp 3) (by rfl) (w.heap.size) (0) (by rfl) ([(.slice pa h.length c)]) _ (fun W hS => Bk.mid hS.1.2.1 0 _ rfl) Tryz.underlying24 (by rfl) (by kernel_rfl)) (by assumption) ?_; try simp only [Act.put, List.setIfInBounds_toArray, List.set_cons_zero, List.set_cons_succ])
    first | (refine wpAnyH_take (i := 3) (v := undef) (by simp only [List.getElem?_toArray, List.getElem?_cons_succ, List.getElem?_cons_zero]; exact rfl) (by kernel_rfl) (by kernel_rfl) (by kernel_rfl) (fun _ _ _ h => h) (Or.inr ⟨?_, rfl⟩) (by assumption) ?_; (rfl); try simp only [Act.put, List.setIfInBounds_toArray, List.set_cons_zero, List.set_cons_succ]) | (refine wpAnyH_take (i := 3) (v := ?_) (by simp only [List.getElem?_toArray, List.getElem?_cons_succ, List.getElem?_cons_zero]; exact rfl) (by kernel_rfl) (by kernel_rfl) (by kernel_rfl) (fun _ _ _ h => h) (Or.inl ⟨?_, ?_⟩) (by assumption) ?_; rotate_left; (rfl); (focus (intro w hSw; (try dsimp only at hSw); go_simp; try with_reducible rfl)); try simp only [Act.put, List.setIfInBounds_toArray, List.set_cons_zero, List.set_cons_succ])
    first | (refine wpAnyH_take (i := 4) (v := undef) (by simp only [List.getElem?_toArray, List.getElem?_cons_succ, List.getElem?_cons_zero]; exact rfl) (by kernel_rfl) (by kernel_rfl) (by kernel_rfl) (fun _ _ _ h => h) (Or.inr ⟨?_, rfl⟩) (by assumption) ?_; (rfl); try simp only [Act.put, List.setIfInBounds_toArray, List.set_cons_zero, List.set_cons_succ]) | (refine wpAnyH_take (i := 4) (v := ?_) (by simp only [List.getElem?_toArray, List.getElem?_cons_succ, List.getElem?_cons_zero]; exact rfl) (by kernel_rfl) (by kernel_rfl) (by kernel_rfl) (fun _ _ _ h => h) (Or.inl ⟨?_, ?_⟩) (by assumption) ?_; rotate_left; (rfl); (focus (intro w hSw; (try dsimp only at hSw); go_simp; try with_reducible rfl)); try simp only [Act.put, List.setIfInBounds_toArray, List.set_cons_zero, List.set_cons_succ])
    refine wpAnyH_ready (rs := [1, 5]) (by kernel_rfl) (by simp) ?_
    refine AllReadyH.cons rfl (fun K hK => ?_) ?_
    · skip
      have y1 : wd.cell? ⟨gt, 0, none⟩ = some (.slice qt h'.length ct) := HG.out.cell 0
      go_simp
      clear y1
      refine hK.out _ _ ⟨HS.out, _, HG.out⟩ (fun _ => ?_)
      clear hK K
      try simp only [Act.put, List.setIfInBounds_toArray, List.set_cons_zero, List.set_cons_succ]
      refine wpAnyH_ready (rs := [5]) (by kernel_rfl) (by simp) ?_
      refine AllReadyH.cons rfl (fun K hK => ?_) AllReadyH.nil
      go_simp
      refine (rproxied_any h _ n m HN.out HMM.out _ (HRD.out _ HS.out.1)).mono ?_; rintro e v5 ⟨rfl, hb⟩
      replace HS := hidB (HS.out.on hb)
      replace HG := hidB (HG.out.on hb)
      replace HF := hidB (HF.out.on hb)
      clear hb
      refine hK.out _ _ ⟨HS.out, _, HG.out⟩ (fun _ => ?_)
      clear hK K
      try simp only [Act.put, List.setIfInBounds_toArray, List.set_cons_zero, List.set_cons_succ]
      refine wpAnyH_ready (rs := [6]) (by kernel_rfl) (by simp) ?_
      refine AllReadyH.cons rfl (fun K hK => ?_) AllReadyH.nil
      rw [if_pos (by kernel_rfl)]
      refine wp_buildSliceH 22 46 1 18 _ (by rfl) [(0, (prxO h n m).a)] (by kernel_rfl) (.agg zeroObjH) (prxO h n m).cs Tryz.underlying22 (by kernel_rfl) (by decide) (by decide) (by kernel_rfl) ?_
      have HNB := hidB (Bk.new v5 46 (prxO h n m).cs)
      replace HS := hidB (HS.out.on (box_one v5 (.cells (prxO h n m).cs 46)))
      replace HG := hidB (HG.out.on (box_one v5 (.cells (prxO h n m).cs 46)))
      replace HF := hidB (HF.out.on (box_one v5 (.cells (prxO h n m).cs 46)))
      refine hK.out _ _ ⟨HS.out, _, HG.out⟩ (fun _ => ?_)
      clear hK K
      try simp only [Act.put, List.setIfInBounds_toArray, List.set_cons_zero, List.set_cons_succ]
      generalize hWn : (v5.alloc (.cells (prxO h n m).cs 46)) = v6 at *
      clear hWn
      generalize hGn : v5.heap.size = gN at *
      clear hGn
      refine wpAnyH_ready (rs := [7]) (by kernel_rfl) (by simp) ?_
      refine AllReadyH.cons rfl (fun K hK => ?_) AllReadyH.nil
      rw [if_pos (by kernel_rfl)]
      refine wp_append_own (P := Tryz.prog) _ (.tmp 40) (.tmp 45) 22 (by rfl) w.heap.size 46 i0 (.agg zeroObjH) 18 184 Tryz.underlying22 hi hz0 hz1 hz2 (by rfl) (by decide) (.slice qt h'.length ct) h'.length (flatH h') (by rfl) HF.out.own ⟨gN, 0, none⟩ 1 1 (prxO h n m).cs.toList (by rfl) (by rfl) (bk_cellsH HNB.out) (fun u hu => (Array.all_eq_true_iff_forall_mem.1 (OJ.one (prxO h n m) rfl)) u (Array.mem_toList_iff.1 hu)) (by unfold maxLen; have := HC.out.1; have := HLN.out; omega) (by have := HC.out.1; have := HLN.out; omega) (HS.out.1.size) ?_
      intro v' v7 hown' hgrow _
      have HO6 := HF.out.own
      replace HS := hidB (show RTwS w (.slice pa h.length c) v7 from ⟨below_grownV HS.out.1 HS.out.1.size (Nat.le_refl _) HO6 hgrow, HS.out.2.1.grownV (by decide) HO6 hgrow, HS.out.2.2.grownV (by decide) HO6 hgrow⟩)
      have HPS := hidB (fun e (he : e ∈ h') => (HF.out.props e he).grownV HO6 hgrow)
      replace HG := hidB (HG.out.grownV (by decide) HO6 hgrow)
      have HO7 := hidB hown'
      have V3 := hidB (own_oneH hown')
      obtain ⟨q3, c3, hv3⟩ := own_sliceH hown'
      subst hv3
      clear hown' hgrow HO6 HF HNB
      refine hK.out _ _ ⟨HS.out, _, HG.out⟩ (fun _ => ?_)
      clear hK K
      try simp only [Act.put, List.setIfInBounds_toArray, List.set_cons_zero, List.set_cons_succ]
      first | (refine wpAnyH_take (i := 8) (v := undef) (by simp only [List.getElem?_toArray, List.getElem?_cons_succ, List.getElem?_cons_zero]; exact rfl) (by kernel_rfl) (by kernel_rfl) (by kernel_rfl) (fun _ _ _ h => h) (Or.inr ⟨?_, rfl⟩) (by assumption) ?_; (rfl); try simp only [Act.put, List.setIfInBounds_toArray, List.set_cons_zero, List.set_cons_succ]) | (refine wpAnyH_take (i := 8) (v := ?_) (by simp only [List.getElem?_toArray, List.getElem?_cons_succ, List.getElem?_cons_zero]; exact rfl) (by kernel_rfl) (by kernel_rfl) (by kernel_rfl) (fun _ _ _ h => h) (Or.inl ⟨?_, ?_⟩) (by assumption) ?_; rotate_left; (rfl); (focus (intro w hSw; (try dsimp only at hSw); go_simp; try with_reducible rfl)); try simp only [Act.put, List.setIfInBounds_toArray, List.set_cons_zero, List.set_cons_succ])
      refine wpAnyH_ready (rs := [9]) (by kernel_rfl) (by simp) ?_
      refine AllReadyH.cons rfl (fun K hK => ?_) AllReadyH.nil
      have y1 : v7.cell? ⟨gt, 0, none⟩ = some (.slice qt h'.length ct) := HG.out.cell 0
      have f1 : v7.frozen? ⟨gt, 0, none⟩ = false := HG.out.free 0
      go_simp
      have far7 : ∀ b, b ≠ gt → (v7.setCell ⟨gt, 0, none⟩ (.slice q3 (h'.length + 1) c3)).heap[b]? = v7.heap[b]? := fun b hb => Below.heap_setCell v7 _ _ b hb
      replace HS := hidB (show RTwS w (.slice pa h.length c) (v7.setCell ⟨gt, 0, none⟩ (.slice q3 (h'.length + 1) c3)) from ⟨HS.out.1.setCell (by have := HGT.out; show w.heap.size ≤ gt; omega) _, HS.out.2.1.far (by have := HGT.out; show w.heap.size ≠ gt; omega) _, HS.out.2.2.far (by have := HGT.out; show w.heap.size + 1 ≠ gt; omega) _⟩)
      replace HO7 := hidB (HO7.out.kept (set_grownH v7 ⟨gt, 0, none⟩ (.slice q3 (h'.length + 1) c3)) (Or.inr (own_ne_typeH HO7.out (by decide) HG.out)))
      replace HPS := hidB (fun e he => (HPS.out e he).far HG.out (by decide) (Nat.zero_le _) (Nat.le_of_eq (by simp [World.setCell])) far7)
      replace HG := hidB (show Bk (v7.setCell ⟨gt, 0, none⟩ (.slice q3 (h'.length + 1) c3)) gt 24 #[(.slice q3 (h'.length + 1) c3)] from HG.out.set 0 _)
      clear y1 f1 far7
      refine hK.out _ _ ⟨HS.out, _, HG.out⟩ (fun _ => ?_)
      clear hK K
      try simp only [Act.put, List.setIfInBounds_toArray, List.set_cons_zero, List.set_cons_succ]
      refine wpAnyH_done (by kernel_rfl) ?_ _
      refine NoPanic.normal ?_
      have HFR := hidB (show FreshH w.heap.size (h' ++ [((prxO h n m), [])]) (.slice q3 (h'.length + 1) c3) _ from ⟨by rw [List.length_append, flatH, List.flatMap_append, List.flatMap_cons, List.flatMap_nil, List.append_nil]; exact HO7.out, fun e he => (List.mem_append.1 he).elim (fun h1 => HPS.out e h1) (fun h1 => (List.mem_singleton.1 h1) ▸ ⟨rdP_nil _, fun h0 => absurd h0 (Nat.lt_irrefl 0)⟩)⟩)
      go_wp2_with fail
      go_meet
      case rel => exact ⟨_, HS.out, HG.out, HFR.out⟩
    refine AllReadyH.cons rfl (fun K hK => ?_) AllReadyH.nil
    go_simp
    refine (rproxied_any h _ n m HN.out HMM.out _ (HRD.out _ HS.out.1)).mono ?_; rintro e v5 ⟨rfl, hb⟩
    replace HS := hidB (HS.out.on hb)
    replace HG := hidB (HG.out.on hb)
    replace HF := hidB (HF.out.on hb)
    clear hb
    refine hK.out _ _ ⟨HS.out, _, HG.out⟩ (fun _ => ?_)
    clear hK K
    try simp only [Act.put, List.setIfInBounds_toArray, List.set_cons_zero, List.set_cons_succ]
    refine wpAnyH_ready (rs := [1, 6]) (by kernel_rfl) (by simp) ?_
    refine AllReadyH.cons rfl (fun K hK => ?_) ?_
    · skip
      have y1 : v5.cell? ⟨gt, 0, none⟩ = some (.slice qt h'.length ct) := HG.out.cell 0
      go_simp
      clear y1
      refine hK.out _ _ ⟨HS.out, _, HG.out⟩ (fun _ => ?_)
      clear hK K
      try simp only [Act.put, List.setIfInBounds_toArray, List.set_cons_zero, List.set_cons_succ]
      refine wpAnyH_ready (rs := [6]) (by kernel_rfl) (by simp) ?_
      refine AllReadyH.cons rfl (fun K hK => ?_) AllReadyH.nil
      rw [if_pos (by kernel_rfl)]
      refine wp_buildSliceH 22 46 1 18 _ (by rfl) [(0, (prxO h n m).a)] (by kernel_rfl) (.agg zeroObjH) (prxO h n m).cs Tryz.underlying22 (by kernel_rfl) (by decide) (by decide) (by kernel_rfl) ?_
      have HNB := hidB (Bk.new v5 46 (prxO h n m).cs)
      replace HS := hidB (HS.out.on (box_one v5 (.cells (prxO h n m).cs 46)))
      replace HG := hidB (HG.out.on (box_one v5 (.cells (prxO h n m).cs 46)))
      replace HF := hidB (HF.out.on (box_one v5 (.cells (prxO h n m).cs 46)))
      refine hK.out _ _ ⟨HS.out, _, HG.out⟩ (fun _ => ?_)
      clear hK K
      try simp only [Act.put, List.setIfInBounds_toArray, List.set_cons_zero, List.set_cons_succ]
      generalize hWn : (v5.alloc (.cells (prxO h n m).cs 46)) = v6 at *
      clear hWn
      generalize hGn : v5.heap.size = gN at *
      clear hGn
      refine wpAnyH_ready (rs := [7]) (by kernel_rfl) (by simp) ?_
      refine AllReadyH.cons rfl (fun K hK => ?_) AllReadyH.nil
      rw [if_pos (by kernel_rfl)]
      refine wp_append_own (P := Tryz.prog) _ (.tmp 40) (.tmp 45) 22 (by rfl) w.heap.size 46 i0 (.agg zeroObjH) 18 184 Tryz.underlying22 hi hz0 hz1 hz2 (by rfl) (by decide) (.slice qt h'.length ct) h'.length (flatH h') (by rfl) HF.out.own ⟨gN, 0, none⟩ 1 1 (prxO h n m).cs.toList (by rfl) (by rfl) (bk_cellsH HNB.out) (fun u hu => (Array.all_eq_true_iff_forall_mem.1 (OJ.one (prxO h n m) rfl)) u (Array.mem_toList_iff.1 hu)) (by unfold maxLen; have := HC.out.1; have := HLN.out; omega) (by have := HC.out.1; have := HLN.out; omega) (HS.out.1.size) ?_
      intro v' v7 hown' hgrow _
      have HO6 := HF.out.own
      replace HS := hidB (show RTwS w (.slice pa h.length c) v7 from ⟨below_grownV HS.out.1 HS.out.1.size (Nat.le_refl _) HO6 hgrow, HS.out.2.1.grownV (by decide) HO6 hgrow, HS.out.2.2.grownV (by decide) HO6 hgrow⟩)
      have HPS := hidB (fun e (he : e ∈ h') => (HF.out.props e he).grownV HO6 hgrow)
      replace HG := hidB (HG.out.grownV (by decide) HO6 hgrow)
      have HO7 := hidB hown'
      have V3 := hidB (own_oneH hown')
      obtain ⟨q3, c3, hv3⟩ := own_sliceH hown'
      subst hv3
      clear hown' hgrow HO6 HF HNB
      refine hK.out _ _ ⟨HS.out, _, HG.out⟩ (fun _ => ?_)
      clear hK K
      try simp only [Act.put, List.setIfInBounds_toArray, List.set_cons_zero, List.set_cons_succ]
      first | (refine wpAnyH_take (i := 8) (v := undef) (by simp only [List.getElem?_toArray, List.getElem?_cons_succ, List.getElem?_cons_zero]; exact rfl) (by kernel_rfl) (by kernel_rfl) (by kernel_rfl) (fun _ _ _ h => h) (Or.inr ⟨?_, rfl⟩) (by assumption) ?_; (rfl); try simp only [Act.put, List.setIfInBounds_toArray, List.set_cons_zero, List.set_cons_succ]) | (refine wpAnyH_take (i := 8) (v := ?_) (by simp only [List.getElem?_toArray, List.getElem?_cons_succ, List.getElem?_cons_zero]; exact rfl) (by kernel_rfl) (by kernel_rfl) (by kernel_rfl) (fun _ _ _ h => h) (Or.inl ⟨?_, ?_⟩) (by assumption) ?_; rotate_left; (rfl); (focus (intro w hSw; (try dsimp only at hSw); go_simp; try with_reducible rfl)); try simp only [Act.put, List.setIfInBounds_toArray, List.set_cons_zero, List.set_cons_succ])
      refine wpAnyH_ready (rs := [9]) (by kernel_rfl) (by simp) ?_
      refine AllReadyH.cons rfl (fun K hK => ?_) AllReadyH.nil
      have y1 : v7.cell? ⟨gt, 0, none⟩ = some (.slice qt h'.length ct) := HG.out.cell 0
      have f1 : v7.frozen? ⟨gt, 0, none⟩ = false := HG.out.free 0
      go_simp
      have far7 : ∀ b, b ≠ gt → (v7.setCell ⟨gt, 0, none⟩ (.slice q3 (h'.length + 1) c3)).heap[b]? = v7.heap[b]? := fun b hb => Below.heap_setCell v7 _ _ b hb
      replace HS := hidB (show RTwS w (.slice pa h.length c) (v7.setCell ⟨gt, 0, none⟩ (.slice q3 (h'.length + 1) c3)) from ⟨HS.out.1.setCell (by have := HGT.out; show w.heap.size ≤ gt; omega) _, HS.out.2.1.far (by have := HGT.out; show w.heap.size ≠ gt; omega) _, HS.out.2.2.far (by have := HGT.out; show w.heap.size + 1 ≠ gt; omega) _⟩)
      replace HO7 := hidB (HO7.out.kept (set_grownH v7 ⟨gt, 0, none⟩ (.slice q3 (h'.length + 1) c3)) (Or.inr (own_ne_typeH HO7.out (by decide) HG.out)))
      replace HPS := hidB (fun e he => (HPS.out e he).far HG.out (by decide) (Nat.zero_le _) (Nat.le_of_eq (by simp [World.setCell])) far7)
      replace HG := hidB (show Bk (v7.setCell ⟨gt, 0, none⟩ (.slice q3 (h'.length + 1) c3)) gt 24 #[(.slice q3 (h'.length + 1) c3)] from HG.out.set 0 _)
      clear y1 f1 far7
      refine hK.out _ _ ⟨HS.out, _, HG.out⟩ (fun _ => ?_)
      clear hK K
      try simp only [Act.put, List.setIfInBounds_toArray, List.set_cons_zero, List.set_cons_succ]
      refine wpAnyH_done (by kernel_rfl) ?_ _
      refine NoPanic.normal ?_
      have HFR := hidB (show FreshH w.heap.size (h' ++ [((prxO h n m), [])]) (.slice q3 (h'.length + 1) c3) _ from ⟨by rw [List.length_append, flatH, List.flatMap_append, List.flatMap_cons, List.flatMap_nil, List.append_nil]; exact HO7.out, fun e he => (List.mem_append.1 he).elim (fun h1 => HPS.out e h1) (fun h1 => (List.mem_singleton.1 h1) ▸ ⟨rdP_nil _, fun h0 => absurd h0 (Nat.lt_irrefl 0)⟩)⟩)
      go_wp2_with fail
      go_meet
      case rel => exact ⟨_, HS.out, HG.out, HFR.out⟩
    refine AllReadyH.cons rfl (fun K hK => ?_) AllReadyH.nil
    rw [if_pos (by kernel_rfl)]
    refine wp_buildSliceH 22 46 1 18 _ (by rfl) [(0, (prxO h n m).a)] (by kernel_rfl) (.agg zeroObjH) (prxO h n m).cs Tryz.underlying22 (by kernel_rfl) (by decide) (by decide) (by kernel_rfl) ?_
    have HNB := hidB (Bk.new v5 46 (prxO h n m).cs)
    replace HS := hidB (HS.out.on (box_one v5 (.cells (prxO h n m).cs 46)))
    replace HG := hidB (HG.out.on (box_one v5 (.cells (prxO h n m).cs 46)))
    replace HF := hidB (HF.out.on (box_one v5 (.cells (prxO h n m).cs 46)))
    refine hK.out _ _ ⟨HS.out, _, HG.out⟩ (fun _ => ?_)
    clear hK K
    try simp only [Act.put, List.setIfInBounds_toArray, List.set_cons_zero, List.set_cons_succ]
    generalize hWn : (v5.alloc (.cells (prxO h n m).cs 46)) = v6 at *
    clear hWn
    generalize hGn : v5.heap.size = gN at *
    clear hGn
    refine wpAnyH_ready (rs := [1]) (by kernel_rfl) (by simp) ?_
    refine AllReadyH.cons rfl (fun K hK => ?_) AllReadyH.nil
    have y1 : v6.cell? ⟨gt, 0, none⟩ = some (.slice qt h'.length ct) := HG.out.cell 0
    go_simp
    clear y1
    refine hK.out _ _ ⟨HS.out, _, HG.out⟩ (fun _ => ?_)
    clear hK K
    try simp only [Act.put, List.setIfInBounds_toArray, List.set_cons_zero, List.set_cons_succ]
    refine wpAnyH_ready (rs := [7]) (by kernel_rfl) (by simp) ?_
    refine AllReadyH.cons rfl (fun K hK => ?_) AllReadyH.nil
    rw [if_pos (by kernel_rfl)]
    refine wp_append_own (P := Tryz.prog) _ (.tmp 40) (.tmp 45) 22 (by rfl) w.heap.size 46 i0 (.agg zeroObjH) 18 184 Tryz.underlying22 hi hz0 hz1 hz2 (by rfl) (by decide) (.slice qt h'.length ct) h'.length (flatH h') (by rfl) HF.out.own ⟨gN, 0, none⟩ 1 1 (prxO h n m).cs.toList (by rfl) (by rfl) (bk_cellsH HNB.out) (fun u hu => (Array.all_eq_true_iff_forall_mem.1 (OJ.one (prxO h n m) rfl)) u (Array.mem_toList_iff.1 hu)) (by unfold maxLen; have := HC.out.1; have := HLN.out; omega) (by have := HC.out.1; have := HLN.out; omega) (HS.out.1.size) ?_
    intro v' v7 hown' hgrow _
    have HO6 := HF.out.own
    replace HS := hidB (show RTwS w (.slice pa h.length c) v7 from ⟨below_grownV HS.out.1 HS.out.1.size (Nat.le_refl _) HO6 hgrow, HS.out.2.1.grownV (by decide) HO6 hgrow, HS.out.2.2.grownV (by decide) HO6 hgrow⟩)
    have HPS := hidB (fun e (he : e ∈ h') => (HF.out.props e he).grownV HO6 hgrow)
    replace HG := hidB (HG.out.grownV (by decide) HO6 hgrow)
    have HO7 := hidB hown'
    have V3 := hidB (own_oneH hown')
    obtain ⟨q3, c3, hv3⟩ := own_sliceH hown'
    subst hv3
    clear hown' hgrow HO6 HF HNB
    refine hK.out _ _ ⟨HS.out, _, HG.out⟩ (fun _ => ?_)
    clear hK K
    try simp only [Act.put, List.setIfInBounds_toArray, List.set_cons_zero, List.set_cons_succ]
    first | (refine wpAnyH_take (i := 8) (v := undef) (by simp only [List.getElem?_toArray, List.getElem?_cons_succ, List.getElem?_cons_zero]; exact rfl) (by kernel_rfl) (by kernel_rfl) (by kernel_rfl) (fun _ _ _ h => h) (Or.inr ⟨?_, rfl⟩) (by assumption) ?_; (rfl); try simp only [Act.put, List.setIfInBounds_toArray, List.set_cons_zero, List.set_cons_succ]) | (refine wpAnyH_take (i := 8) (v := ?_) (by simp only [List.getElem?_toArray, List.getElem?_cons_succ, List.getElem?_cons_zero]; exact rfl) (by kernel_rfl) (by kernel_rfl) (by kernel_rfl) (fun _ _ _ h => h) (Or.inl ⟨?_, ?_⟩) (by assumption) ?_; rotate_left; (rfl); (focus (intro w hSw; (try dsimp only at hSw); go_simp; try with_reducible rfl)); try simp only [Act.put, List.setIfInBounds_toArray, List.set_cons_zero, List.set_cons_succ])
    refine wpAnyH_ready (rs := [9]) (by kernel_rfl) (by simp) ?_
    refine AllReadyH.cons rfl (fun K hK => ?_) AllReadyH.nil
    have y1 : v7.cell? ⟨gt, 0, none⟩ = some (.slice qt h'.length ct) := HG.out.cell 0
    have f1 : v7.frozen? ⟨gt, 0, none⟩ = false := HG.out.free 0
    go_simp
    have far7 : ∀ b, b ≠ gt → (v7.setCell ⟨gt, 0, none⟩ (.slice q3 (h'.length + 1) c3)).heap[b]? = v7.heap[b]? := fun b hb => Below.heap_setCell v7 _ _ b hb
    replace HS := hidB (show RTwS w (.slice pa h.length c) (v7.setCell ⟨gt, 0, none⟩ (.slice q3 (h'.length + 1) c3)) from ⟨HS.out.1.setCell (by have := HGT.out; show w.heap.size ≤ gt; omega) _, HS.out.2.1.far (by have := HGT.out; show w.heap.size ≠ gt; omega) _, HS.out.2.2.far (by have := HGT.out; show w.heap.size + 1 ≠ gt; omega) _⟩)
    replace HO7 := hidB (HO7.out.kept (set_grownH v7 ⟨gt, 0, none⟩ (.slice q3 (h'.length + 1) c3)) (Or.inr (own_ne_typeH HO7.out (by decide) HG.out)))
    replace HPS := hidB (fun e he => (HPS.out e he).far HG.out (by decide) (Nat.zero_le _) (Nat.le_of_eq (by simp [World.setCell])) far7)
    replace HG := hidB (show Bk (v7.setCell ⟨gt, 0, none⟩ (.slice q3 (h'.length + 1) c3)) gt 24 #[(.slice q3 (h'.length + 1) c3)] from HG.out.set 0 _)
    clear y1 f1 far7
    refine hK.out _ _ ⟨HS.out, _, HG.out⟩ (fun _ => ?_)
    clear hK K
    try simp only [Act.put, List.setIfInBounds_toArray, List.set_cons_zero, List.set_cons_succ]
    refine wpAnyH_done (by kernel_rfl) ?_ _
    refine NoPanic.normal ?_
    have HFR := hidB (show FreshH w.heap.size (h' ++ [((prxO h n m), [])]) (.slice q3 (h'.length + 1) c3) _ from ⟨by rw [List.length_append, flatH, List.flatMap_append, List.flatMap_cons, List.flatMap_nil, List.append_nil]; exact HO7.out, fun e he => (List.mem_append.1 he).elim (fun h1 => HPS.out e h1) (fun h1 => (List.mem_singleton.1 h1) ▸ ⟨rdP_nil _, fun h0 => absurd h0 (Nat.lt_irrefl 0)⟩)⟩)
    go_wp2_with fail
    go_meet
    case rel => exact ⟨_, HS.out, HG.out, HFR.out⟩
  case rest =>
  clear SS GT FR
  obtain ⟨tv, hs, hg, hf⟩ := hcut
  obtain ⟨q3, c3, rfl⟩ := own_sliceH hf.own
  have SS := hidB hs
  have GT := hidB hg
  have FR := hidB hf
  have HB2 := hidB (show bareH (h' ++ [((prxO h n m), [])]) = bareH (h ++ [((prxO h n m), [])]) by rw [bareH_append, bareH_append, HBR.out])
  clear hs hg hf HBR
  generalize (h' ++ [((prxO h n m), [])]) = h2 at *
  go_upto_region 12 with fail
  refine wp_region_noPanic ?_
  refine wp_region_held_drew (S := fun W => (Below w.heap.size w W ∧ Bk W w.heap.size 24 #[(.slice pa h.length c)]) ∧ Bk W gt 24 #[(.slice q3 h2.length c3)] ∧ FreshH w.heap.size h2 (.slice q3 h2.length c3) W ∧ ∃ u, Bk W (w.heap.size + 1) 24 #[u]) (by kernel_rfl) ?_ (fun hHeld => ?_)
  · exact ⟨⟨SS.out.1.drew, SS.out.2.1.drew⟩, GT.out.drew, FR.out.on (Below.refl _ _).drew, _, SS.out.2.2.drew⟩
  have R := hidB (show Bk wc.drew (w.heap.size + 1) 24 #[.slice none 0 0] from SS.out.2.2)
  clear SS GT FR
  generalize hWd : wc.drew = wd at *
  clear hWd
  (refine wpAnyH_take (i := 0) (v := .agg #[(.slice q3 h2.length c3)]) (by simp only [List.getElem?_toArray, List.getElem?_cons_zero]; exact rfl) (by kernel_rfl) (by kernel_rfl) (by kernel_rfl) (fun _ _ _ h => h) (yieldsIf_load_mid (by rfl) 24 (.tmp 10) (by rfl) (gt) (0) (by rfl) ([(.slice q3 h2.length c3)]) _ (fun W hS => Bk.mid hS.2.1 0 _ rfl) Tryz.underlying24 (by rfl) (by kernel_rfl)) (by assumption) ?_; try simp only [Act.put, List.setIfInBounds_toArray, List.set_cons_zero, List.set_cons_succ])
  first | (refine wpAnyH_take (i := 1) (v := undef) (by simp only [List.getElem?_toArray, List.getElem?_cons_succ, List.getElem?_cons_zero]; exact rfl) (by kernel_rfl) (by kernel_rfl) (by kernel_rfl) (fun _ _ _ h => h) (Or.inr ⟨?_, rfl⟩) (by assumption) ?_; (rfl); try simp only [Act.put, List.setIfInBounds_toArray, List.set_cons_zero, List.set_cons_succ]) | (refine wpAnyH_take (i := 1) (v := ?_) (by simp only [List.getElem?_toArray, List.getElem?_cons_succ, List.getElem?_cons_zero]; exact rfl) (by kernel_rfl) (by kernel_rfl) (by kernel_rfl) (fun _ _ _ h => h) (Or.inl ⟨?_, ?_⟩) (by assumption) ?_; rotate_left; (rfl); (focus (intro w hSw; (try dsimp only at hSw); go_simp; try with_reducible rfl)); try simp only [Act.put, List.setIfInBounds_toArray, List.set_cons_zero, List.set_cons_succ])
  first | (refine wpAnyH_take (i := 2) (v := undef) (by simp only [List.getElem?_toArray, List.getElem?_cons_succ, List.getElem?_cons_zero]; exact rfl) (by kernel_rfl) (by kernel_rfl) (by kernel_rfl) (fun _ _ _ h => h) (Or.inr ⟨?_, rfl⟩) (by assumption) ?_; (rfl); try simp only [Act.put, List.setIfInBounds_toArray, List.set_cons_zero, List.set_cons_succ]) | (refine wpAnyH_take (i := 2) (v := ?_) (by simp only [List.getElem?_toArray, List.getElem?_cons_succ, List.getElem?_cons_zero]; exact rfl) (by kernel_rfl) (by kernel_rfl) (by kernel_rfl) (fun _ _ _ h => h) (Or.inl ⟨?_, ?_⟩) (by assumption) ?_; rotate_left; (rfl); (focus (intro W hSw; have hc0 := (show W.cell? ⟨w.heap.size, 0, none⟩ = some (.slice pa h.length c) from hSw.1.2.cell 0); clear hSw; go_simp; try with_reducible rfl)); try simp only [Act.put, List.setIfInBounds_toArray, List.set_cons_zero, List.set_cons_succ])
  first | (refine wpAnyH_take (i := 3) (v := undef) (by simp only [List.getElem?_toArray, List.getElem?_cons_succ, List.getElem?_cons_zero]; exact rfl) (by kernel_rfl) (by kernel_rfl) (by kernel_rfl) (fun _ _ _ h => h) (Or.inr ⟨?_, rfl⟩) (by assumption) ?_; (rfl); try simp only [Act.put, List.setIfInBounds_toArray, List.set_cons_zero, List.set_cons_succ]) | (refine wpAnyH_take (i := 3) (v := ?_) (by simp only [List.getElem?_toArray, List.getElem?_cons_succ, List.getElem?_cons_zero]; exact rfl) (by kernel_rfl) (by kernel_rfl) (by kernel_rfl) (fun _ _ _ h => h) (Or.inl ⟨?_, ?_⟩) (by assumption) ?_; rotate_left; (rfl); (focus (intro w hSw; (try dsimp only at hSw); go_simp; try with_reducible rfl)); try simp only [Act.put, List.setIfInBounds_toArray, List.set_cons_zero, List.set_cons_succ])
  refine wpAnyH_ready (rs := [4]) (by kernel_rfl) (by simp) ?_
  refine AllReadyH.cons rfl (fun K hK => ?_) AllReadyH.nil
  have y1 : wd.cell? ⟨w.heap.size + 1, 0, none⟩ = some (.slice none 0 0) := R.out.cell 0
  have f1 : wd.frozen? ⟨w.heap.size + 1, 0, none⟩ = false := R.out.free 0
  go_simp
  clear y1 f1
  have far7 : ∀ b, b ≠ w.heap.size + 1 → (wd.setCell ⟨w.heap.size + 1, 0, none⟩ (.slice q3 h2.length c3)).heap[b]? = wd.heap[b]? := fun b hb => Below.heap_setCell wd _ _ b hb
  have hF2 : FreshH w.heap.size h2 (.slice q3 h2.length c3) (wd.setCell ⟨w.heap.size + 1, 0, none⟩ (.slice q3 h2.length c3)) := ⟨hHeld.2.2.1.own.kept (set_grownH wd ⟨w.heap.size + 1, 0, none⟩ (.slice q3 h2.length c3)) (Or.inr (own_ne_typeH hHeld.2.2.1.own (by decide) R.out)), fun e he => (hHeld.2.2.1.props e he).far R.out (by decide) (Nat.zero_le _) (Nat.le_of_eq (by simp [World.setCell])) far7⟩
  replace hHeld := And.intro (And.intro (hHeld.1.1.setCell (p := ⟨w.heap.size + 1, 0, none⟩) (by show w.heap.size ≤ w.heap.size + 1; omega) (.slice q3 h2.length c3)) (hHeld.1.2.far (p := ⟨w.heap.size + 1, 0, none⟩) (by show w.heap.size ≠ w.heap.size + 1; omega) (.slice q3 h2.length c3))) (And.intro (hHeld.2.1.far (p := ⟨w.heap.size + 1, 0, none⟩) (by have := HGT.out; show gt ≠ w.heap.size + 1; omega) (.slice q3 h2.length c3)) (And.intro hF2 (show ∃ u, Bk (wd.setCell ⟨w.heap.size + 1, 0, none⟩ (.slice q3 h2.length c3)) (w.heap.size + 1) 24 #[u] from ⟨_, R.out.set 0 (.slice q3 h2.length c3)⟩)))
  replace R := hidB (show Bk (wd.setCell ⟨w.heap.size + 1, 0, none⟩ (.slice q3 h2.length c3)) (w.heap.size + 1) 24 #[(.slice q3 h2.length c3)] from R.out.set 0 _)
  clear far7 hF2
  refine hK.out _ _ hHeld (fun _ => ?_)
  clear hK K
  try simp only [Act.put, List.setIfInBounds_toArray, List.set_cons_zero, List.set_cons_succ]
  first | (refine wpAnyH_take (i := 5) (v := undef) (by simp only [List.getElem?_toArray, List.getElem?_cons_succ, List.getElem?_cons_zero]; exact rfl) (by kernel_rfl) (by kernel_rfl) (by kernel_rfl) (fun _ _ _ h => h) (Or.inr ⟨?_, rfl⟩) (by assumption) ?_; (rfl); try simp only [Act.put, List.setIfInBounds_toArray, List.set_cons_zero, List.set_cons_succ]) | (refine wpAnyH_take (i := 5) (v := ?_) (by simp only [List.getElem?_toArray, List.getElem?_cons_succ, List.getElem?_cons_zero]; exact rfl) (by kernel_rfl) (by kernel_rfl) (by kernel_rfl) (fun _ _ _ h => h) (Or.inl ⟨?_, ?_⟩) (by assumption) ?_; rotate_left; (rfl); (focus (intro w hSw; (try dsimp only at hSw); go_simp; try with_reducible rfl)); try simp only [Act.put, List.setIfInBounds_toArray, List.set_cons_zero, List.set_cons_succ])
  first | (refine wpAnyH_take (i := 6) (v := undef) (by simp only [List.getElem?_toArray, List.getElem?_cons_succ, List.getElem?_cons_zero]; exact rfl) (by kernel_rfl) (by kernel_rfl) (by kernel_rfl) (fun _ _ _ h => h) (Or.inr ⟨?_, rfl⟩) (by assumption) ?_; (rfl); try simp only [Act.put, List.setIfInBounds_toArray, List.set_cons_zero, List.set_cons_succ]) | (refine wpAnyH_take (i := 6) (v := ?_) (by simp only [List.getElem?_toArray, List.getElem?_cons_succ, List.getElem?_cons_zero]; exact rfl) (by kernel_rfl) (by kernel_rfl) (by kernel_rfl) (fun _ _ _ h => h) (Or.inl ⟨?_, ?_⟩) (by assumption) ?_; rotate_left; (rfl); (focus (intro w hSw; (try dsimp only at hSw); go_simp; try with_reducible rfl)); try simp only [Act.put, List.setIfInBounds_toArray, List.set_cons_zero, List.set_cons_succ])
  refine wpAnyH_done (by kernel_rfl) ?_ _
  refine NoPanic.normal ?_
  go_wp2_with fail
  exact bodyPost_ret (v := .tuple #[.agg (#[(.slice q3 h2.length c3)]), .int .i64 h.length, .int .i64 0]) (results_row3 Tryz.results7 _ _ (w.heap.size + 1) 24 (#[(.slice q3 h2.length c3)]) (0, 0) _ rfl (R.out) Tryz.underlying24 rfl (by kernel_rfl)) rfl (⟨hHeld.1.1, Or.inr ⟨HMZ.out, _, rfl, h2, by rw [Int.toNat_natCast, Int.toNat_natCast]; exact HB2.out, hHeld.2.2.1⟩⟩)

end Go.Proofs.YtnidamkgfgddfaaGreat
