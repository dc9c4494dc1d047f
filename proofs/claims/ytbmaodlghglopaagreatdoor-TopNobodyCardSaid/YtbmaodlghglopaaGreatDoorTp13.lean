/-
  A task of reach, begun.
-/
import Derived.Test.YtbmaodlghglopaaGreatDoorMxA
import Derived.Test.YtbmaodlghglopaaGreatDoorTp12
namespace Go.Proofs.YtbmaodlghglopaaGreatDoor
open Go.RowKit

set_option maxHeartbeats 8000000 in
set_option maxRecDepth 100000 in
theorem cloneV_nil (w : World) : Calls Tryz.prog 15 #[vNil] w fun e w' => e = .returned vNil ∧ w' = w := by
  have q : ∀ (w : World) (a : Option Addr) (n c n' c' : Nat), (binOp .eql 32 (.slice a n c) (.slice none n' c')).run Tryz.prog w = .ok (.bool a.isNone) w := fun w a n c n' c' => Go.Lib.run_eql_slice_nil w _ _ a n c n' c' Tryz.underlying32
  go_enter Tryz.func15, Tryz.ntmps15
  go_wp2
  go_ret
  exact ⟨rfl, rfl⟩
theorem cloneV2_any (l : List VI) (v : Value) (w : World) (h : RdL VI.cells 4 l v w) (hl : l.length ≤ 1024) : Calls Tryz.prog 15 #[v] w fun e w' => ∃ q n c, e = .returned (.slice q n c) ∧ Below w.heap.size w w' ∧ (v = vNil → (Value.slice q n c) = vNil) := by
  by_cases hv : v = vNil
  · subst hv
    exact (cloneV_nil w).mono fun e w' h => ⟨none, 0, 0, h.1, h.2 ▸ Below.refl _ _, fun _ => rfl⟩
  · refine (cloneV_any l v w h hl).mono fun e w' h => ?_
    obtain ⟨v', he, ho, hb⟩ := h
    obtain ⟨q, c, rfl⟩ := own_slice ho
    exact ⟨q, _, c, he, hb, fun h => absurd h hv⟩
theorem RdH.onB {h : HI} {hv : Value} {w w' : World} {B : Nat} (r : RdH h hv w) (hB : w.heap.size = B) (hb : Below B w w') : RdH h hv w' := r.on (hB ▸ hb)
/-- What Start leaves. -/
def StartR (h : HI) (a : AI) (args : List VI) (w : World) (e : Ending) (w' : World) : Prop := ∃ er : Int, Below w.heap.size w w' ∧
  (er = 0 → chkH h = 0 ∧ 11 ≤ h.length ∧ 0 ≤ a.ob ∧ a.ob < (h.length : Int) ∧ (a.m = 8 → a.k.err = 0)) ∧
  (chkH h = 0 → 11 ≤ h.length → firstB h → 0 ≤ a.ob → a.ob < (h.length : Int) → a.m = 3 → isObj a.v.k = false → a.v.may = true → isObj a.r.k = false → a.r.may = true → args = [] → er = 0) ∧
  (er ≠ 0 → e = .returned (.tuple #[.pointer none, .int .i64 er])) ∧
  (er = 0 → ∃ (h' : HI) (hv' av : Value) (gw T : Nat), e = .returned (.tuple #[ptr T, .int .i64 0]) ∧ bareH h' = bareH h ∧ Bk w' T 68 (tkC gw vNil 0 0 { a with args := av } 1 0 false vNil vNil) ∧ Bk w' gw 65 #[hv'] ∧ (∀ W, Below gw w' W → RdH h' hv' W) ∧ gw ≤ T ∧ w.heap.size ≤ gw ∧ gw ≤ w'.heap.size ∧ av.oneCell' = true ∧ (a.args = vNil → av = vNil))
set_option maxHeartbeats 8000000 in
set_option maxRecDepth 100000 in
theorem startR_any (h : HI) (hok : HOk h) (hk : HKeys h) (hv : Value) (a : AI) (hm : a.m = 3 ∨ a.m = 8) (hvk : 0 ≤ a.v.k) (hrk : 0 ≤ a.r.k) (hao : a.args.oneCell' = true) (args : List VI) (hargs : ∀ v ∈ args, 0 ≤ v.k) (hl1 : h.length ≤ 9000) (hl2 : chkH h = 0 → ∀ e ∈ h, e.2.length ≤ 4096) (w : World) (hr : RdH h hv w) (hra : RdL VI.cells 4 args a.args w) : Calls Tryz.prog 6 #[.agg #[hv], a.a, .int .i64 1] w (StartR h a args w) := by
  have HRD := hidB (fun W (hb : Below w.heap.size w W) => hr.on hb)
  have HRA := hidB (fun W (hb : Below w.heap.size w W) => hra.on hb)
  have WRA := hidB (fun W (hb : Below w.heap.size w W) => wrongR_any h hok hk hv a hm hvk hrk args hargs W (hr.on hb) (hra.on hb))
  have HL1 := hidB hl1
  have HL2 := hidB hl2
  have HAO := hidB hao
  clear hok hk hm hvk hrk hargs hr hra hl1 hl2 hao
  have Y := hidB (show Bk ((w.alloc (.cells (#[hv]) 24)).alloc (.cells (a.cs) 34)) (w.heap.size) 24 (#[hv]) from (Bk.new w _ _).alloc _)
  have X := hidB (show Bk ((w.alloc (.cells (#[hv]) 24)).alloc (.cells (a.cs) 34)) (w.heap.size + 1) 34 (a.cs) from Bk.new2 w _ _ _)
  have B := hidB (show Below w.heap.size w ((w.alloc (.cells (#[hv]) 24)).alloc (.cells (a.cs) 34)) from (box_one w _).alloc (by simp) _)
  go_enter Tryz.func6, Tryz.ntmps6
  go_upto_region 1 with fail
  generalize hW : ((w.alloc (.cells (#[hv]) 24)).alloc (.cells (a.cs) 34)) = w1 at *
  clear hW
  go_wp2_with (first | ((with_reducible refine ldId 24 (.tmp 3) ?_); refine wpList_load_row (by rfl) 24 (.tmp 3) (by rfl) (w.heap.size) (by rfl) 24 (#[hv]) (0, 0) _ (by exact Y.out) Tryz.underlying24 (by rfl) (by kernel_rfl) ?_) | ((with_reducible refine ldId 34 (.tmp 4) ?_); refine wpList_load_row (by rfl) 34 (.tmp 4) (by rfl) (w.heap.size + 1) (by rfl) 34 (a.cs) (0, 0) _ (by exact X.out) Tryz.underlying34 (by rfl) (by kernel_rfl) ?_))
  refine (WRA.out _ B.out).mono ?_; rintro e w2 ⟨er, rfl, hb, hf1, hf2⟩
  have HF1 := hidB hf1
  have HF2 := hidB hf2
  clear WRA hf1 hf2
  replace Y := hidB (Y.out.on hb)
  replace X := hidB (X.out.on hb)
  replace B := hidB (B.out.trans (hb.mono B.out.size))
  clear hb
  by_cases h0 : er = 0
  rotate_left
  · have h0b : (er == 0) = false := by rw [beq_eq_false_iff_ne]; exact h0
    have h0n : (er != 0) = true := by rw [bne, h0b]; rfl
    go_wp2_with fail
    go_ret2
    exact ⟨er, B.out, fun h => absurd h h0, HF2.out, fun _ => rfl, fun h => absurd h h0⟩
  subst h0
  have HQ := hidB (HF1.out rfl)
  obtain ⟨qa, na, ca, hae⟩ : ∃ q n c, a.args = .slice q n c := by obtain ⟨q, c, hq, _⟩ := HRA.out _ B.out; exact ⟨q, _, c, hq⟩
  have HAE := hidB hae
  clear hae
  have x28 : w2.cell? ⟨w.heap.size + 1, 28, none⟩ = some (.slice qa na ca) := by rw [← HAE.out]; exact X.out.cell 28
  go_wp2_with fail
  rw [← HAE.out]
  refine (cloneV2_any args a.args w2 (HRA.out _ B.out) (by have := HQ.out.2.2.2.2.1; omega)).mono ?_; rintro e w3 ⟨q2, n2, c2, rfl, hb, hnil⟩
  have HNIL := hidB hnil
  clear x28 hnil
  replace Y := hidB (Y.out.on hb)
  replace X := hidB (X.out.on hb)
  replace B := hidB (B.out.trans (hb.mono B.out.size))
  clear hb
  have x28 : w3.cell? ⟨w.heap.size + 1, 28, none⟩ = some (.slice qa na ca) := by rw [← HAE.out]; exact X.out.cell 28
  have f28 : w3.frozen? ⟨w.heap.size + 1, 28, none⟩ = false := X.out.free 28
  go_upto_region 5 with fail
  have X2 := hidB (show Bk (w3.setCell ⟨w.heap.size + 1, 28, none⟩ (.slice q2 n2 c2)) (w.heap.size + 1) 34 ({ a with args := .slice q2 n2 c2 } : AI).cs from X.out.set 28 _)
  have Y2 := hidB (show Bk (w3.setCell ⟨w.heap.size + 1, 28, none⟩ (.slice q2 n2 c2)) (w.heap.size) 24 #[hv] from Y.out.far (p := ⟨w.heap.size + 1, 28, none⟩) (by show w.heap.size ≠ w.heap.size + 1; omega) _)
  have B2 := hidB (show Below w.heap.size w (w3.setCell ⟨w.heap.size + 1, 28, none⟩ (.slice q2 n2 c2)) from B.out.setCell (p := ⟨w.heap.size + 1, 28, none⟩) (Nat.le_succ _) _)
  clear X Y B x28 f28
  generalize hW : (w3.setCell ⟨w.heap.size + 1, 28, none⟩ (.slice q2 n2 c2)) = w4 at *
  clear hW
  refine wp_region_noPanic ?_
  refine wp_region_held_drew (S := fun W => Below w.heap.size w W ∧ Below w4.heap.size w4 W) (by kernel_rfl) ?_ (fun hHeld => ?_)
  · exact ⟨B2.out.drew, (Below.refl _ _).drew⟩
  generalize hWd : w4.drew = wd at *
  clear hWd
  (refine wpAnyH_take (i := 0) (v := (.agg #[hv])) (by exact gE rfl) (by kernel_rfl) (by kernel_rfl) (by kernel_rfl) (fun _ _ _ h => h) (yieldsIf_load_mid (by rfl) 24 (.tmp 3) (by rfl) (w.heap.size) (0) (by rfl) ([hv]) _ (fun W hS => Bk.mid (Y2.out.on hS.2) 0 _ rfl) Tryz.underlying24 (by rfl) (by kernel_rfl)) (by assumption) ?_; try simp only [Act.put, List.setIfInBounds_toArray, List.set_cons_zero, List.set_cons_succ])
  (refine wpAnyH_take (i := 4) (v := ({ a with args := .slice q2 n2 c2 } : AI).a) (by exact gE rfl) (by kernel_rfl) (by kernel_rfl) (by kernel_rfl) (fun _ _ _ h => h) (yieldsIf_load_mid (by rfl) 34 (.tmp 4) (by rfl) (w.heap.size + 1) (0) (by rfl) (({ a with args := .slice q2 n2 c2 } : AI).cs.toList) _ (fun W hS => Bk.mid (X2.out.on hS.2) 0 _ rfl) Tryz.underlying34 (by rfl) (by kernel_rfl)) (by assumption) ?_; try simp only [Act.put, List.setIfInBounds_toArray, List.set_cons_zero, List.set_cons_succ])
  first | (refine wpAnyH_take (i := 5) (v := undef) (by exact gE rfl) (by kernel_rfl) (by kernel_rfl) (by kernel_rfl) (fun _ _ _ h => h) (Or.inr ⟨?_, rfl⟩) (by assumption) ?_; (rfl); try simp only [Act.put, List.setIfInBounds_toArray, List.set_cons_zero, List.set_cons_succ]) | (refine wpAnyH_take (i := 5) (v := ?_) (by exact gE rfl) (by kernel_rfl) (by kernel_rfl) (by kernel_rfl) (fun _ _ _ h => h) (Or.inl ⟨?_, ?_⟩) (by assumption) ?_; rotate_left; (rfl); (focus (intro w hSw; (try dsimp only at hSw); go_simp; try with_reducible rfl)); try simp only [Act.put, List.setIfInBounds_toArray, List.set_cons_zero, List.set_cons_succ])
  refine wpAnyH_ready (rs := [1]) (by kernel_rfl) (by simp) ?_
  refine AllReadyH.cons rfl (fun K hK => ?_) AllReadyH.nil
  go_simp
  refine (twinH_any h hv _ (HRD.out _ hHeld.1) (HL2.out HQ.out.1) HL1.out).mono ?_; rintro e wt ⟨h', gt, rfl, htw, hb⟩
  have HTW := hidB htw
  replace hHeld := And.intro (hHeld.1.trans (hb.mono hHeld.1.size)) (hHeld.2.trans (hb.mono hHeld.2.size))
  clear hb htw
  refine hK.out _ _ hHeld (fun _ => ?_)
  clear hK K
  try simp only [Act.put, List.setIfInBounds_toArray, List.set_cons_zero, List.set_cons_succ]
  (refine wpAnyH_take (i := 2) (v := .agg (#[(.slice (some ⟨gt, 0, none⟩) h.length h.length)])) (by exact gE rfl) (by kernel_rfl) (by kernel_rfl) (by kernel_rfl) (fun _ _ _ h => h) (yieldsIf_build (by rfl) 65 _ (by rfl) [(0, .agg #[(.slice (some ⟨gt, 0, none⟩) h.length h.length)])] (by kernel_rfl) (#[(.slice (some ⟨gt, 0, none⟩) h.length h.length)]) (by kernel_rfl)) (by assumption) ?_; try simp only [Act.put, List.setIfInBounds_toArray, List.set_cons_zero, List.set_cons_succ])
  refine wpAnyH_ready (rs := [3]) (by kernel_rfl) (by simp) ?_
  refine AllReadyH.cons rfl (fun K hK => ?_) AllReadyH.nil
  go_simp
  have GW := hidB (Bk.new wt 65 (#[(.slice (some ⟨gt, 0, none⟩) h.length h.length)]))
  have RDT0 := hidB (show RdH h' (.slice (some ⟨gt, 0, none⟩) h.length h.length) wt from TwinH.rd HTW.out HL1.out)
  have BT1 := hidB (box_one wt (.cells (#[(.slice (some ⟨gt, 0, none⟩) h.length h.length)]) 65))
  have HSGW := hidB hHeld.1.size
  replace hHeld := And.intro (hHeld.1.alloc hHeld.1.size (.cells (#[(.slice (some ⟨gt, 0, none⟩) h.length h.length)]) 65)) (hHeld.2.alloc hHeld.2.size (.cells (#[(.slice (some ⟨gt, 0, none⟩) h.length h.length)]) 65))
  refine hK.out _ _ hHeld (fun _ => ?_)
  clear hK K
  try simp only [Act.put, List.setIfInBounds_toArray, List.set_cons_zero, List.set_cons_succ]
  generalize hWn : (wt.alloc (.cells (#[(.slice (some ⟨gt, 0, none⟩) h.length h.length)]) 65)) = wu at *
  clear hWn
  generalize hGn : wt.heap.size = gw at *
  have HGWt := hidB hGn
  clear hGn
  (refine wpAnyH_take (i := 6) (v := .agg (tkC gw vNil 0 0 ({ a with args := .slice q2 n2 c2 } : AI) 1 0 false vNil vNil)) (by exact gE rfl) (by kernel_rfl) (by kernel_rfl) (by kernel_rfl) (fun _ _ _ h => h) (yieldsIf_build (by rfl) 68 _ (by rfl) [(0, ptr gw), (4, ({ a with args := .slice q2 n2 c2 } : AI).a), (5, .int .i64 1)] (by kernel_rfl) (tkC gw vNil 0 0 ({ a with args := .slice q2 n2 c2 } : AI) 1 0 false vNil vNil) (by kernel_rfl)) (by assumption) ?_; try simp only [Act.put, List.setIfInBounds_toArray, List.set_cons_zero, List.set_cons_succ])
  refine wpAnyH_ready (rs := [7]) (by kernel_rfl) (by simp) ?_
  refine AllReadyH.cons rfl (fun K hK => ?_) AllReadyH.nil
  go_simp
  have TB := hidB (Bk.new wu 68 (tkC gw vNil 0 0 ({ a with args := .slice q2 n2 c2 } : AI) 1 0 false vNil vNil))
  have BT2 := hidB (box_one wu (.cells (tkC gw vNil 0 0 ({ a with args := .slice q2 n2 c2 } : AI) 1 0 false vNil vNil) 68))
  have GWV := hidB (GW.out.on BT2.out)
  have HGT := hidB (Nat.le_of_lt GW.out.lt)
  have RDT := hidB (show ∀ W, Below gw (wu.alloc (.cells (tkC gw vNil 0 0 ({ a with args := .slice q2 n2 c2 } : AI) 1 0 false vNil vNil) 68)) W → RdH h' (.slice (some ⟨gt, 0, none⟩) h.length h.length) W from fun W hW => RdH.onB RDT0.out HGWt.out (BT1.out.trans ((BT2.out.mono HGT.out).trans hW)))
  have HGV := hidB (show gw ≤ (wu.alloc (.cells (tkC gw vNil 0 0 ({ a with args := .slice q2 n2 c2 } : AI) 1 0 false vNil vNil) 68)).heap.size from Nat.le_of_lt (GWV.out.lt))
  have HSTB := hidB hHeld.1.size
  replace hHeld := And.intro (hHeld.1.alloc hHeld.1.size (.cells (tkC gw vNil 0 0 ({ a with args := .slice q2 n2 c2 } : AI) 1 0 false vNil vNil) 68)) (hHeld.2.alloc hHeld.2.size (.cells (tkC gw vNil 0 0 ({ a with args := .slice q2 n2 c2 } : AI) 1 0 false vNil vNil) 68))
  refine hK.out _ _ hHeld (fun _ => ?_)
  clear hK K
  try simp only [Act.put, List.setIfInBounds_toArray, List.set_cons_zero, List.set_cons_succ]
  generalize hWn : (wu.alloc (.cells (tkC gw vNil 0 0 ({ a with args := .slice q2 n2 c2 } : AI) 1 0 false vNil vNil) 68)) = wv at *
  clear hWn
  generalize hGn : wu.heap.size = gT at *
  have HGWu := hidB hGn
  clear hGn
  first | (refine wpAnyH_take (i := 8) (v := undef) (by exact gE rfl) (by kernel_rfl) (by kernel_rfl) (by kernel_rfl) (fun _ _ _ h => h) (Or.inr ⟨?_, rfl⟩) (by assumption) ?_; (rfl); try simp only [Act.put, List.setIfInBounds_toArray, List.set_cons_zero, List.set_cons_succ]) | (refine wpAnyH_take (i := 8) (v := ?_) (by exact gE rfl) (by kernel_rfl) (by kernel_rfl) (by kernel_rfl) (fun _ _ _ h => h) (Or.inl ⟨?_, ?_⟩) (by assumption) ?_; rotate_left; (rfl); (focus (intro w hSw; (try dsimp only at hSw); go_simp; try with_reducible rfl)); try simp only [Act.put, List.setIfInBounds_toArray, List.set_cons_zero, List.set_cons_succ])
  first | (refine wpAnyH_take (i := 9) (v := undef) (by exact gE rfl) (by kernel_rfl) (by kernel_rfl) (by kernel_rfl) (fun _ _ _ h => h) (Or.inr ⟨?_, rfl⟩) (by assumption) ?_; (rfl); try simp only [Act.put, List.setIfInBounds_toArray, List.set_cons_zero, List.set_cons_succ]) | (refine wpAnyH_take (i := 9) (v := ?_) (by exact gE rfl) (by kernel_rfl) (by kernel_rfl) (by kernel_rfl) (fun _ _ _ h => h) (Or.inl ⟨?_, ?_⟩) (by assumption) ?_; rotate_left; (rfl); (focus (intro w hSw; (try dsimp only at hSw); go_simp; try with_reducible rfl)); try simp only [Act.put, List.setIfInBounds_toArray, List.set_cons_zero, List.set_cons_succ])
  refine wpAnyH_done (by kernel_rfl) ?_ _
  refine NoPanic.normal ?_
  go_wp2_with fail
  go_ret2
  exact ⟨0, hHeld.1, fun _ => ⟨HQ.out.1, HQ.out.2.1, HQ.out.2.2.1, HQ.out.2.2.2.1, HQ.out.2.2.2.2.2⟩, fun _ _ _ _ _ _ _ _ _ _ _ => rfl, fun h => absurd rfl h, fun _ => ⟨h', (.slice (some ⟨gt, 0, none⟩) h.length h.length), .slice q2 n2 c2, gw, gT, rfl, HTW.out.bare, TB.out, GWV.out, RDT.out, HGT.out, HSGW.out, HGV.out, rfl, HNIL.out⟩⟩

end Go.Proofs.YtbmaodlghglopaaGreatDoor
