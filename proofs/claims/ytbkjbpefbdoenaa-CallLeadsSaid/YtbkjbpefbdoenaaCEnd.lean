/-
  The reference's player: all that was wanted, and the end.
-/
import Derived.Test.YtbkjbpefbdoenaaCPlay
namespace Go.Proofs.Ytbkjbpefbdoenaa
open Go.RowKit

/-- All that was wanted, and the end, if there is one. -/
def endL (wl : List WI) (x : OI) : List WI := if x.kd = 0 then wl else wl ++ [endW x]
/-- A list of wants, in memory of a call's own. -/
def EndR (w0 : World) (l : List WI) (e : Ending) (w' : World) : Prop := ∃ v, e = .returned v ∧ Below w0.heap.size w0 w' ∧ w'.ownsRow w0.heap.size 45 87 v l.length (l.flatMap wF)
theorem endW_one (x : OI) (hx : x.keys.oneCell' = true) : (endW x).cs.all (·.oneCell') = true := WI.one _ rfl rfl rfl hx
set_option maxHeartbeats 8000000 in
set_option maxRecDepth 100000 in
theorem rended_any (w0 : World) (p : Nat) (ans : Value) (wl : List WI) (x : OI) (hx : x.keys.oneCell' = true) (hwl : wl.length ≤ 1000) (w : World) (h : RP w0 p ans wl w) : Calls Try.prog 57 #[.pointer (some ⟨p, 0, none⟩), x.a] w fun e w' => EndR w0 (endL wl x) e w' := by
  have HB00 := hidB h.b
  have HT := hidB (endW_one x hx)
  have HWL := hidB hwl
  obtain ⟨hb0, hp0, wv, hpk, hown⟩ := h
  obtain ⟨qw, cw, rfl⟩ := own_slice hown
  obtain ⟨i0, hi, hz0, hz1, hz2⟩ := info_parts info_want
  have hwl2 : wl.length ≤ 9223372036854775806 := by omega
  have HB0 := hidB (show w0.heap.size ≤ w.heap.size by exact HB00.out.size)
  clear hx
  have X := hidB (show Bk (w.alloc (.cells (x.cs) 36)) (w.heap.size) 36 (x.cs) from Bk.new w _ _)
  go_enter Try.func57, Try.ntmps57
  go_upto_region 1 with fail
  have B := hidB (show Below w0.heap.size w0 (w.alloc (.cells (x.cs) 36)) from HB00.out.alloc HB00.out.size _)
  have HG := hidB (show Bk (w.alloc (.cells (x.cs) 36)) p 95 #[ans, (.slice qw wl.length cw)] from hpk.alloc _)
  have HO := hidB (show (w.alloc (.cells (x.cs) 36)).ownsRow w0.heap.size 45 87 (.slice qw wl.length cw) wl.length (wl.flatMap wF) from own_on hown (box_one _ _))
  clear hpk hown hb0 hp0 HB00
  generalize hW : (w.alloc (.cells (x.cs) 36)) = w1 at *
  clear hW
  have HXA := hidB (rfl : x.kd = x.kd)
  obtain ⟨kd, hkd⟩ : ∃ q, x.kd = q := ⟨_, rfl⟩
  replace HXA := hidB hkd
  have g1 : w1.cell? ⟨p, 1, none⟩ = some (.slice qw wl.length cw) := HG.out.cell 1
  have g2 : w1.cell? ⟨w.heap.size, 0, none⟩ = some (.int .u8 kd) := by rw [← HXA.out]; exact X.out.cell 0
  clear hkd
  by_cases h0 : kd = 0
  · have HE := hidB (show endL wl x = wl by unfold endL; rw [if_pos (HXA.out.trans h0)])
    go_wp2_with fail
    all_goals first | (exfalso; omega) | skip
    go_ret
    exact ⟨_, rfl, B.out, by rw [HE.out]; exact HO.out⟩
  have HE := hidB (show endL wl x = wl ++ [endW x] by unfold endL; rw [if_neg (fun e => h0 (HXA.out.symm.trans e))])
  go_upto_region 3 with fail
  all_goals first | (exfalso; omega) | skip
  clear g1 g2
  refine wp_region_noPanic ?_
  refine wp_region_held_drew (S := fun W => Below w0.heap.size w0 W ∧ Bk W w.heap.size 36 x.cs ∧ ∃ u, Bk W p 95 #[ans, u]) (by kernel_rfl) ?_ (fun hHeld => ?_)
  · exact ⟨B.out.drew, X.out.drew, _, HG.out.drew⟩
  replace B := hidB (show Below w0.heap.size w0 w1.drew from B.out.drew)
  replace X := hidB (show Bk w1.drew w.heap.size 36 x.cs from X.out)
  replace HG := hidB (show Bk w1.drew p 95 #[ans, (.slice qw wl.length cw)] from HG.out)
  replace HO := hidB (show w1.drew.ownsRow w0.heap.size 45 87 (.slice qw wl.length cw) wl.length (wl.flatMap wF) from own_on HO.out (Below.refl _ _).drew)
  generalize hWd : w1.drew = wd at *
  clear hWd
  first | (refine wpAnyH_take (i := 0) (v := undef) (by simp only [List.getElem?_toArray, List.getElem?_cons_zero]; exact rfl) (by kernel_rfl) (by kernel_rfl) (by kernel_rfl) (fun _ _ _ h => h) (Or.inr ⟨?_, rfl⟩) (by assumption) ?_; (rfl); try simp only [Act.put, List.setIfInBounds_toArray, List.set_cons_zero, List.set_cons_succ]) | (refine wpAnyH_take (i := 0) (v := ?_) (by simp only [List.getElem?_toArray, List.getElem?_cons_zero]; exact rfl) (by kernel_rfl) (by kernel_rfl) (by kernel_rfl) (fun _ _ _ h => h) (Or.inl ⟨?_, ?_⟩) (by assumption) ?_; rotate_left; (rfl); (focus (intro w hSw; (try dsimp only at hSw); go_simp; try with_reducible rfl)); try simp only [Act.put, List.setIfInBounds_toArray, List.set_cons_zero, List.set_cons_succ])
  first | (refine wpAnyH_take (i := 1) (v := undef) (by simp only [List.getElem?_toArray, List.getElem?_cons_succ, List.getElem?_cons_zero]; exact rfl) (by kernel_rfl) (by kernel_rfl) (by kernel_rfl) (fun _ _ _ h => h) (Or.inr ⟨?_, rfl⟩) (by assumption) ?_; (rfl); try simp only [Act.put, List.setIfInBounds_toArray, List.set_cons_zero, List.set_cons_succ]) | (refine wpAnyH_take (i := 1) (v := ?_) (by simp only [List.getElem?_toArray, List.getElem?_cons_succ, List.getElem?_cons_zero]; exact rfl) (by kernel_rfl) (by kernel_rfl) (by kernel_rfl) (fun _ _ _ h => h) (Or.inl ⟨?_, ?_⟩) (by assumption) ?_; rotate_left; (rfl); (focus (intro w hSw; (try dsimp only at hSw); go_simp; try with_reducible rfl)); try simp only [Act.put, List.setIfInBounds_toArray, List.set_cons_zero, List.set_cons_succ])
  first | (refine wpAnyH_take (i := 2) (v := undef) (by simp only [List.getElem?_toArray, List.getElem?_cons_succ, List.getElem?_cons_zero]; exact rfl) (by kernel_rfl) (by kernel_rfl) (by kernel_rfl) (fun _ _ _ h => h) (Or.inr ⟨?_, rfl⟩) (by assumption) ?_; (rfl); try simp only [Act.put, List.setIfInBounds_toArray, List.set_cons_zero, List.set_cons_succ]) | (refine wpAnyH_take (i := 2) (v := ?_) (by simp only [List.getElem?_toArray, List.getElem?_cons_succ, List.getElem?_cons_zero]; exact rfl) (by kernel_rfl) (by kernel_rfl) (by kernel_rfl) (fun _ _ _ h => h) (Or.inl ⟨?_, ?_⟩) (by assumption) ?_; rotate_left; (rfl); (focus (intro w hSw; (try dsimp only at hSw); go_simp; try with_reducible rfl)); try simp only [Act.put, List.setIfInBounds_toArray, List.set_cons_zero, List.set_cons_succ])
  (refine wpAnyH_take (i := 4) (v := x.a) (by simp only [List.getElem?_toArray, List.getElem?_cons_succ, List.getElem?_cons_zero]; exact rfl) (by kernel_rfl) (by kernel_rfl) (by kernel_rfl) (fun _ _ _ h => h) (yieldsIf_load_mid (by rfl) 36 (.tmp 3) (by rfl) (w.heap.size) (0) (by rfl) (x.cs.toList) _ (fun W hS => Bk.mid hS.2.1 0 _ rfl) Try.underlying36 (by rfl) (by kernel_rfl)) (by assumption) ?_; try simp only [Act.put, List.setIfInBounds_toArray, List.set_cons_zero, List.set_cons_succ])
  (refine wpAnyH_take (i := 5) (v := .agg ((endW x).cs)) (by simp only [List.getElem?_toArray, List.getElem?_cons_succ, List.getElem?_cons_zero]; exact rfl) (by kernel_rfl) (by kernel_rfl) (by kernel_rfl) (fun _ _ _ h => h) (yieldsIf_build (by rfl) 45 _ (by rfl) [(0, .int .u8 7), (7, x.a)] (by kernel_rfl) ((endW x).cs) (by kernel_rfl)) (by assumption) ?_; try simp only [Act.put, List.setIfInBounds_toArray, List.set_cons_zero, List.set_cons_succ])
  refine wpAnyH_ready (rs := [3, 6]) (by kernel_rfl) (by simp) ?_
  refine AllReadyH.cons rfl (fun K hK => ?_) ?_
  · skip
    have y1 : wd.cell? ⟨p, 1, none⟩ = some (.slice qw wl.length cw) := HG.out.cell 1
    go_simp
    clear y1
    refine hK.out _ _ ⟨B.out, X.out, _, HG.out⟩ (fun _ => ?_)
    clear hK K
    try simp only [Act.put, List.setIfInBounds_toArray, List.set_cons_zero, List.set_cons_succ]
    refine wpAnyH_ready (rs := [6]) (by kernel_rfl) (by simp) ?_
    refine AllReadyH.cons rfl (fun K hK => ?_) AllReadyH.nil
    rw [if_pos (by kernel_rfl)]
    refine wp_buildSlice 72 45 1 87 _ (by rfl) [(0, (endW x).a)] (by kernel_rfl) (.agg WI.zero.cs) (endW x).cs Try.underlying72 (by kernel_rfl) (by decide) (by decide) (by kernel_rfl) ?_
    have HNB := hidB (Bk.new wd 45 (endW x).cs)
    replace B := hidB (B.out.alloc B.out.size (.cells (endW x).cs 45))
    replace X := hidB (X.out.alloc (.cells (endW x).cs 45))
    replace HG := hidB (HG.out.alloc (.cells (endW x).cs 45))
    replace HO := hidB (own_on HO.out (box_one wd (.cells (endW x).cs 45)))
    refine hK.out _ _ ⟨B.out, X.out, _, HG.out⟩ (fun _ => ?_)
    clear hK K
    try simp only [Act.put, List.setIfInBounds_toArray, List.set_cons_zero, List.set_cons_succ]
    generalize hWn : (wd.alloc (.cells (endW x).cs 45)) = v6 at *
    clear hWn
    generalize hGn : wd.heap.size = gN at *
    clear hGn
    refine wpAnyH_ready (rs := [7]) (by kernel_rfl) (by simp) ?_
    refine AllReadyH.cons rfl (fun K hK => ?_) AllReadyH.nil
    rw [if_pos (by kernel_rfl)]
    refine wp_append_own (P := Try.prog) _ (.tmp 15) (.tmp 18) 72 (by rfl) w0.heap.size 45 i0 (.agg WI.zero.cs) 87 856 Try.underlying72 hi hz0 hz1 hz2 (by rfl) (by decide) (.slice qw wl.length cw) wl.length (wl.flatMap wF) (by rfl) HO.out ⟨gN, 0, none⟩ 1 1 (endW x).cs.toList (by rfl) (by rfl) (bk_cellsC HNB.out) (fun u hu => (Array.all_eq_true_iff_forall_mem.1 HT.out) u (Array.mem_toList_iff.1 hu)) (by unfold maxLen; have := HWL.out; omega) (by have := HWL.out; omega) B.out.size ?_
    intro v' v7 hown' hgrow _
    replace B := hidB (below_grown B.out (Nat.le_refl _) hgrow (fun k hk => (HO.out.lt k hk).1))
    replace X := hidB (X.out.grown hgrow (fun e => own_neB HO.out X.out (by decide) e rfl))
    replace HG := hidB (HG.out.grown hgrow (fun e => own_neB HO.out HG.out (by decide) e rfl))
    have HO7 := hidB hown'
    obtain ⟨q3, c3, hv3⟩ := own_slice hown'
    subst hv3
    clear hown' hgrow HO HNB
    refine hK.out _ _ ⟨B.out, X.out, _, HG.out⟩ (fun _ => ?_)
    clear hK K
    try simp only [Act.put, List.setIfInBounds_toArray, List.set_cons_zero, List.set_cons_succ]
    first | (refine wpAnyH_take (i := 8) (v := undef) (by simp only [List.getElem?_toArray, List.getElem?_cons_succ, List.getElem?_cons_zero]; exact rfl) (by kernel_rfl) (by kernel_rfl) (by kernel_rfl) (fun _ _ _ h => h) (Or.inr ⟨?_, rfl⟩) (by assumption) ?_; (rfl); try simp only [Act.put, List.setIfInBounds_toArray, List.set_cons_zero, List.set_cons_succ]) | (refine wpAnyH_take (i := 8) (v := ?_) (by simp only [List.getElem?_toArray, List.getElem?_cons_succ, List.getElem?_cons_zero]; exact rfl) (by kernel_rfl) (by kernel_rfl) (by kernel_rfl) (fun _ _ _ h => h) (Or.inl ⟨?_, ?_⟩) (by assumption) ?_; rotate_left; (rfl); (focus (intro w hSw; (try dsimp only at hSw); go_simp; try with_reducible rfl)); try simp only [Act.put, List.setIfInBounds_toArray, List.set_cons_zero, List.set_cons_succ])
    refine wpAnyH_done (by kernel_rfl) ?_ _
    refine NoPanic.normal ?_
    have HOF := hidB (show _ = (wl ++ [endW x]).flatMap wF from (by rw [List.flatMap_append, List.flatMap_cons, List.flatMap_nil, List.append_nil] : (wl ++ [endW x]).flatMap wF = wl.flatMap wF ++ (endW x).cs.toList).symm)
    go_wp2_with fail
    all_goals first | (exfalso; omega) | skip
    go_ret
    exact ⟨_, rfl, B.out, by rw [HE.out, List.length_append, ← HOF.out]; exact HO7.out⟩
  refine AllReadyH.cons rfl (fun K hK => ?_) AllReadyH.nil
  rw [if_pos (by kernel_rfl)]
  refine wp_buildSlice 72 45 1 87 _ (by rfl) [(0, (endW x).a)] (by kernel_rfl) (.agg WI.zero.cs) (endW x).cs Try.underlying72 (by kernel_rfl) (by decide) (by decide) (by kernel_rfl) ?_
  have HNB := hidB (Bk.new wd 45 (endW x).cs)
  replace B := hidB (B.out.alloc B.out.size (.cells (endW x).cs 45))
  replace X := hidB (X.out.alloc (.cells (endW x).cs 45))
  replace HG := hidB (HG.out.alloc (.cells (endW x).cs 45))
  replace HO := hidB (own_on HO.out (box_one wd (.cells (endW x).cs 45)))
  refine hK.out _ _ ⟨B.out, X.out, _, HG.out⟩ (fun _ => ?_)
  clear hK K
  try simp only [Act.put, List.setIfInBounds_toArray, List.set_cons_zero, List.set_cons_succ]
  generalize hWn : (wd.alloc (.cells (endW x).cs 45)) = v6 at *
  clear hWn
  generalize hGn : wd.heap.size = gN at *
  clear hGn
  refine wpAnyH_ready (rs := [3]) (by kernel_rfl) (by simp) ?_
  refine AllReadyH.cons rfl (fun K hK => ?_) AllReadyH.nil
  have y1 : v6.cell? ⟨p, 1, none⟩ = some (.slice qw wl.length cw) := HG.out.cell 1
  go_simp
  clear y1
  refine hK.out _ _ ⟨B.out, X.out, _, HG.out⟩ (fun _ => ?_)
  clear hK K
  try simp only [Act.put, List.setIfInBounds_toArray, List.set_cons_zero, List.set_cons_succ]
  refine wpAnyH_ready (rs := [7]) (by kernel_rfl) (by simp) ?_
  refine AllReadyH.cons rfl (fun K hK => ?_) AllReadyH.nil
  rw [if_pos (by kernel_rfl)]
  refine wp_append_own (P := Try.prog) _ (.tmp 15) (.tmp 18) 72 (by rfl) w0.heap.size 45 i0 (.agg WI.zero.cs) 87 856 Try.underlying72 hi hz0 hz1 hz2 (by rfl) (by decide) (.slice qw wl.length cw) wl.length (wl.flatMap wF) (by rfl) HO.out ⟨gN, 0, none⟩ 1 1 (endW x).cs.toList (by rfl) (by rfl) (bk_cellsC HNB.out) (fun u hu => (Array.all_eq_true_iff_forall_mem.1 HT.out) u (Array.mem_toList_iff.1 hu)) (by unfold maxLen; have := HWL.out; omega) (by have := HWL.out; omega) B.out.size ?_
  intro v' v7 hown' hgrow _
  replace B := hidB (below_grown B.out (Nat.le_refl _) hgrow (fun k hk => (HO.out.lt k hk).1))
  replace X := hidB (X.out.grown hgrow (fun e => own_neB HO.out X.out (by decide) e rfl))
  replace HG := hidB (HG.out.grown hgrow (fun e => own_neB HO.out HG.out (by decide) e rfl))
  have HO7 := hidB hown'
  obtain ⟨q3, c3, hv3⟩ := own_slice hown'
  subst hv3
  clear hown' hgrow HO HNB
  refine hK.out _ _ ⟨B.out, X.out, _, HG.out⟩ (fun _ => ?_)
  clear hK K
  try simp only [Act.put, List.setIfInBounds_toArray, List.set_cons_zero, List.set_cons_succ]
  first | (refine wpAnyH_take (i := 8) (v := undef) (by simp only [List.getElem?_toArray, List.getElem?_cons_succ, List.getElem?_cons_zero]; exact rfl) (by kernel_rfl) (by kernel_rfl) (by kernel_rfl) (fun _ _ _ h => h) (Or.inr ⟨?_, rfl⟩) (by assumption) ?_; (rfl); try simp only [Act.put, List.setIfInBounds_toArray, List.set_cons_zero, List.set_cons_succ]) | (refine wpAnyH_take (i := 8) (v := ?_) (by simp only [List.getElem?_toArray, List.getElem?_cons_succ, List.getElem?_cons_zero]; exact rfl) (by kernel_rfl) (by kernel_rfl) (by kernel_rfl) (fun _ _ _ h => h) (Or.inl ⟨?_, ?_⟩) (by assumption) ?_; rotate_left; (rfl); (focus (intro w hSw; (try dsimp only at hSw); go_simp; try with_reducible rfl)); try simp only [Act.put, List.setIfInBounds_toArray, List.set_cons_zero, List.set_cons_succ])
  refine wpAnyH_done (by kernel_rfl) ?_ _
  refine NoPanic.normal ?_
  have HOF := hidB (show _ = (wl ++ [endW x]).flatMap wF from (by rw [List.flatMap_append, List.flatMap_cons, List.flatMap_nil, List.append_nil] : (wl ++ [endW x]).flatMap wF = wl.flatMap wF ++ (endW x).cs.toList).symm)
  go_wp2_with fail
  all_goals first | (exfalso; omega) | skip
  go_ret
  exact ⟨_, rfl, B.out, by rw [HE.out, List.length_append, ← HOF.out]; exact HO7.out⟩

end Go.Proofs.Ytbkjbpefbdoenaa
