/-
  The reference revokes a proxy.
-/
import Derived.Test.YtnidamkgfgddfaaGreatRefMake
namespace Go.Proofs.YtnidamkgfgddfaaGreat
open Go.RowKit

theorem flat_subR {α : Type} {f : α → List Value} {n : Nat} (hf : ∀ a, (f a).length = n) (l : List α) (i : Nat) (b : α) (hi : i < l.length) (k : Nat) (vs : List Value) (hk : k + vs.length ≤ n) (hb : f b = (f (l[i]'hi)).take k ++ (vs ++ (f (l[i]'hi)).drop (k + vs.length))) (rest : List Value) :
    (l.flatMap f ++ rest).take (i * n + k) ++ (vs ++ (l.flatMap f ++ rest).drop (i * n + k + vs.length)) = (l.set i b).flatMap f ++ rest := by
  have h1 : (l.flatMap f).length = l.length * n := flat_len hf l
  have h2 : i * n + n ≤ l.length * n := by
    have := Nat.mul_le_mul_right n (show i + 1 ≤ l.length from hi)
    rw [Nat.add_mul, Nat.one_mul] at this
    exact this
  rw [List.take_append_of_le_length (by omega), List.drop_append_of_le_length (by omega), ← flat_sub hf l i b hi k vs hk hb]
  simp only [List.append_assoc]
set_option maxHeartbeats 8000000 in
set_option maxRecDepth 100000 in
theorem rrevoke_any (h : HI) (hok : HOk h) (hk : HKeys h) (hby : HBytes h) (hv : Value) (n : Int) (w : World) (hr : RdH h hv w) : Calls Tryz.prog 9 #[.agg #[hv], .int .i64 n] w (RevF h n w) := by
  have AS := hidB (fun W (hb : Below w.heap.size w W) => rasked_any h hok hk hby hv n W (hr.on hb))
  have HRD := hidB (fun W (hb : Below w.heap.size w W) => hr.on hb)
  obtain ⟨⟨pa, c, rfl, h1, h2, _⟩, _⟩ := hr
  unfold maxLen at h2
  have hlm : h.length ≤ 9223372036854775807 := by omega
  clear hok hk hby
  have Y := hidB (show Bk ((w.alloc (.cells (#[(.slice pa h.length c)]) 24)).alloc (.cells (#[.slice none 0 0]) 24)) (w.heap.size) 24 (#[(.slice pa h.length c)]) from (Bk.new w _ _).alloc _)
  have R := hidB (show Bk ((w.alloc (.cells (#[(.slice pa h.length c)]) 24)).alloc (.cells (#[.slice none 0 0]) 24)) (w.heap.size + 1) 24 (#[.slice none 0 0]) from Bk.new2 w _ _ _)
  have B := hidB (show Below w.heap.size w ((w.alloc (.cells (#[(.slice pa h.length c)]) 24)).alloc (.cells (#[.slice none 0 0]) 24)) from (box_one w _).alloc (by simp) _)
  go_enter Tryz.func9, Tryz.ntmps9
  go_upto_region 1 with fail
  generalize hW : ((w.alloc (.cells (#[(.slice pa h.length c)]) 24)).alloc (.cells (#[.slice none 0 0]) 24)) = w1 at *
  clear hW
  go_wp2_with (first | ((with_reducible refine ldId 24 (.tmp 2) ?_); refine wpList_load_row (by rfl) 24 (.tmp 2) (by rfl) (w.heap.size) (by rfl) 24 (#[(.slice pa h.length c)]) (0, 0) _ (by exact Y.out) Tryz.underlying24 (by rfl) (by kernel_rfl) ?_))
  refine (AS.out _ B.out).mono ?_; rintro e w2 ⟨rfl, hb⟩
  replace Y := hidB (Y.out.on hb); replace R := hidB (R.out.on hb); replace B := hidB (B.out.trans (hb.mono B.out.size)); clear hb
  obtain ⟨ck, hck⟩ : ∃ ck, askE h [n] = ck := ⟨_, rfl⟩
  have HCK := hidB hck
  rw [hck]
  clear hck AS
  by_cases h0 : ck = 0
  rotate_left
  · have h0b : (ck == 0) = false := by rw [beq_eq_false_iff_ne]; exact h0
    have h0n : (ck != 0) = true := by rw [bne, h0b]; rfl
    have HN := hidB h0
    clear h0
    have HM := hidB (show rvE h n = ck by unfold rvE; rw [HCK.out, if_neg HN.out])
    have r0 : w2.cell? ⟨w.heap.size + 1, 0, none⟩ = some (.slice none 0 0) := R.out.cell 0
    have f0 : w2.frozen? ⟨w.heap.size + 1, 0, none⟩ = false := R.out.free 0
    go_wp2_with fail
    exact bodyPost_ret (v := .tuple #[.agg (#[.slice none 0 0]), .int .i64 ck]) (results_row2C Tryz.results9 _ _ (w.heap.size + 1) 24 (#[.slice none 0 0]) (0, 0) _ rfl (R.out.set 0 _) Tryz.underlying24 rfl (by kernel_rfl)) rfl (⟨B.out.setCell (by show w.heap.size ≤ w.heap.size + 1; omega) _, Or.inl ⟨by rw [HM.out]; exact HN.out, by rw [HM.out]⟩⟩)
  subst h0
  obtain ⟨hc, hn0, hn1⟩ := askE_ok HCK.out
  obtain ⟨n, rfl⟩ : ∃ k : Nat, n = (k : Int) := ⟨n.toNat, by omega⟩
  have hn : n < h.length := by omega
  have HC := hidB (chkH_ok hc)
  have HRV := hidB (show rvE h (n : Int) = if (objAt h n).kd = 6 then 0 else 2 by unfold rvE; rw [HCK.out, if_pos rfl, Int.toNat_natCast])
  clear hc hn0 HCK
  have HRW := HRD.out _ B.out
  obtain ⟨g, o, rfl, hgl, hrow⟩ := rd_rowH HRW hn
  have HOA := hidB (objAt_lt hn)
  have k0 : w2.cell? ⟨g, o + n * 18, none⟩ = some (.int .u8 (objAt h n).kd) := by rw [HOA.out]; exact hrow 0 _ rfl
  clear hrow hgl HRW
  have hx2 : (0 : Int) ≤ (n : Int) := by omega
  have y0 : w2.cell? ⟨w.heap.size, 0, none⟩ = some (.slice (some ⟨g, o, none⟩) h.length c) := Y.out.cell 0
  by_cases h6 : (objAt h n).kd = 6
  rotate_left
  · have h6b : ((objAt h n).kd == 6) = false := by rw [beq_eq_false_iff_ne]; exact h6
    have h6n : ((objAt h n).kd != 6) = true := by rw [bne, h6b]; rfl
    have HM := hidB (show rvE h (n : Int) = 2 by rw [HRV.out, if_neg h6])
    clear h6 HRV
    generalize (objAt h n).kd = kd at *
    have r0 : w2.cell? ⟨w.heap.size + 1, 0, none⟩ = some (.slice none 0 0) := R.out.cell 0
    have f0 : w2.frozen? ⟨w.heap.size + 1, 0, none⟩ = false := R.out.free 0
    go_wp2_with fail
    exact bodyPost_ret (v := .tuple #[.agg (#[.slice none 0 0]), .int .i64 2]) (results_row2C Tryz.results9 _ _ (w.heap.size + 1) 24 (#[.slice none 0 0]) (0, 0) _ rfl (R.out.set 0 _) Tryz.underlying24 rfl (by kernel_rfl)) rfl (⟨B.out.setCell (by show w.heap.size ≤ w.heap.size + 1; omega) _, Or.inl ⟨by rw [HM.out]; decide, by rw [HM.out]⟩⟩)
  have HM := hidB (show rvE h (n : Int) = 0 by rw [HRV.out, if_pos h6])
  rw [h6] at k0
  clear h6 HRV HOA
  go_upto_region 6 with fail
  clear y0 k0
  go_wp2_with (first | ((with_reducible refine ldId 24 (.tmp 2) ?_); refine wpList_load_row (by rfl) 24 (.tmp 2) (by rfl) (w.heap.size) (by rfl) 24 (#[(.slice (some ⟨g, o, none⟩) h.length c)]) (0, 0) _ (by exact Y.out) Tryz.underlying24 (by rfl) (by kernel_rfl) ?_))
  refine (rtwin_any h _ _ (HRD.out _ B.out) (fun e he => Nat.le_trans (allO_len HC.out.2.1 e he) (by decide)) (by have := HC.out.1; omega)).mono ?_; rintro e w4 ⟨tv, rfl, hfr, hb⟩
  obtain ⟨h', hbr, hfr⟩ := hfr
  have hgz := B.out.size
  have FR := hidB (hfr.low B.out.size)
  have HBR := hidB hbr
  replace Y := hidB (Y.out.on hb); replace R := hidB (R.out.on hb); replace B := hidB (B.out.trans (hb.mono B.out.size)); clear hb
  clear hfr hbr hgz Y
  have HLN := hidB (bareH_length HBR.out)
  have hT : n < h'.length := by rw [HLN.out]; exact hn
  have HFP := hidB FR.out.props
  obtain ⟨hfl, ⟨_, hz⟩ | ⟨gT, cap, cur, rfl, hbT, hgT, hcT, hmT, hsT, htT⟩⟩ := FR.out.own
  · exact absurd hT (by omega)
  have HCE := hidB (show cur.toList = flatH h' ++ cur.toList.drop (h'.length * 18) by rw [← htT, List.take_append_drop])
  have HSZ := hidB hsT
  have HCT := hidB hcT
  have HMT := hidB hmT
  obtain ⟨rest, hrest⟩ : ∃ q, cur.toList.drop (h'.length * 18) = q := ⟨_, rfl⟩
  rw [hrest] at HCE
  have HRL := hidB (show (flatH h').length + rest.length = cap * 18 by rw [← List.length_append, ← HCE.out, Array.length_toList]; exact hsT)
  have BT0 := hidB (show Bk w4 gT 46 (flatH h' ++ rest).toArray from by rw [← HCE.out]; exact hgT)
  have HBT := hidB hbT
  clear hfl hbT hgT hcT hmT hsT htT hrest FR HCE HSZ
  have GT := hidB (show Bk (w4.alloc (.cells #[(.slice (some ⟨gT, 0, none⟩) h'.length cap)] 24)) w4.heap.size 24 #[(.slice (some ⟨gT, 0, none⟩) h'.length cap)] from Bk.new w4 _ _)
  have R5 := hidB (show Bk (w4.alloc (.cells #[(.slice (some ⟨gT, 0, none⟩) h'.length cap)] 24)) (w.heap.size + 1) 24 #[.slice none 0 0] from R.out.alloc _)
  have B5 := hidB (show Below w.heap.size w (w4.alloc (.cells #[(.slice (some ⟨gT, 0, none⟩) h'.length cap)] 24)) from B.out.alloc B.out.size _)
  have BT := hidB (show Bk (w4.alloc (.cells #[(.slice (some ⟨gT, 0, none⟩) h'.length cap)] 24)) gT 46 (flatH h' ++ rest).toArray from BT0.out.alloc _)
  have HPS := hidB (fun e (he : e ∈ h') => (HFP.out e he).on (box_one w4 (.cells #[(.slice (some ⟨gT, 0, none⟩) h'.length cap)] 24)))
  clear R B BT0 HFP
  go_upto_region 7 with (first | ((with_reducible refine wpId ?_); refine wpList_store_new (by rfl) 24 (.tmp 7) (.tmp 24) (by rfl) #[(.slice (some ⟨gT, 0, none⟩) h'.length cap)] 24 _ (by rfl) (by rfl) (by kernel_rfl) (by rfl) (by rfl) ?_))
  generalize (w4.alloc (.cells #[(.slice (some ⟨gT, 0, none⟩) h'.length cap)] 24)) = w5 at *
  generalize w4.heap.size = gt at *
  have t0 : w5.cell? ⟨gt, 0, none⟩ = some (.slice (some ⟨gT, 0, none⟩) h'.length cap) := GT.out.cell 0
  have hx1 : (n : Int) < (h'.length : Int) := by omega
  have HL18 := hidB (show n * 18 + 18 ≤ (flatH h').length by rw [flatH_len]; omega)
  have hTt : gt ≠ gT := GT.out.neT BT.out (by decide)
  have hTr : w.heap.size + 1 ≠ gT := R5.out.neT BT.out (by decide)
  have far6 := setCells_heap w5 gT (n * 18 + 7) nullI.cells
  have BT6 := hidB (show Bk (w5.setCells gT (n * 18 + 7) nullI.cells) gT 46 (flatH ((h').set n (({ (h'[n]'hT).1 with tg := nullI } : OJ), (h'[n]'hT).2)) ++ rest).toArray from Bk.setCells2 BT.out nullI.cells (n * 18 + 7) (by have := HL18.out; have := flatH_len (h'); have := flatH_len h'; rw [List.size_toArray, List.length_append]; show n * 18 + 7 + 4 ≤ _; omega) (flat_subR objF_len (h') n (({ (h'[n]'hT).1 with tg := nullI } : OJ), (h'[n]'hT).2) hT 7 nullI.cells (by decide) rfl rest))
  have GT6 := hidB (show Bk (w5.setCells gT (n * 18 + 7) nullI.cells) gt 24 #[(.slice (some ⟨gT, 0, none⟩) h'.length cap)] from (far6.2 _ hTt).trans GT.out)
  have R6 := hidB (show Bk (w5.setCells gT (n * 18 + 7) nullI.cells) (w.heap.size + 1) 24 #[.slice none 0 0] from (far6.2 _ hTr).trans R5.out)
  have B6 := hidB (show Below w.heap.size w (w5.setCells gT (n * 18 + 7) nullI.cells) from below_setCells HBT.out _ _ B5.out)
  have PS6 := hidB (fun e (he : e ∈ h') => (HPS.out e he).far (w1 := (w5.setCells gT (n * 18 + 7) nullI.cells)) BT.out (by decide) (Nat.zero_le _) (Nat.le_of_eq far6.1.symm) far6.2)
  go_upto_region 8 with (first | ((with_reducible refine wpId ?_); refine wpList_build_to (by rfl) 43 _ (by rfl) (nullI.cells.toArray) (by kernel_rfl) ?_) | ((with_reducible refine stId 43 (.tmp 30) (.tmp 28) ?_); refine wpList_store_mid (by rfl) 43 (.tmp 30) (.tmp 28) (by rfl) gT (n * 18 + 7) nullI.cells.toArray (by rfl) (by rfl) (by exact Bk.there BT.out (n * 18 + 7) 4 (by have := HL18.out; rw [List.size_toArray, List.length_append]; omega)) (by kernel_rfl) (by exact vi_oneC nullI) ?_))
  clear far6 t0 B5 R5 GT HPS
  generalize (w5.setCells gT (n * 18 + 7) nullI.cells) = w6 at *
  have t0 : w6.cell? ⟨gt, 0, none⟩ = some (.slice (some ⟨gT, 0, none⟩) h'.length cap) := GT6.out.cell 0
  have hT2 : n < (h'.set n (({ (h'[n]'hT).1 with tg := nullI } : OJ), (h'[n]'hT).2)).length := by rw [List.length_set]; exact hT
  have far7 := setCells_heap w6 gT (n * 18 + 11) nullI.cells
  have BT7 := hidB (show Bk (w6.setCells gT (n * 18 + 11) nullI.cells) gT 46 (flatH ((h'.set n (({ (h'[n]'hT).1 with tg := nullI } : OJ), (h'[n]'hT).2)).set n (rvkE (h'[n]'hT))) ++ rest).toArray from Bk.setCells2 BT6.out nullI.cells (n * 18 + 11) (by have := HL18.out; have := flatH_len (h'.set n (({ (h'[n]'hT).1 with tg := nullI } : OJ), (h'[n]'hT).2)); have := flatH_len h'; rw [List.size_toArray, List.length_append]; rw [List.length_set] at *; show n * 18 + 11 + 4 ≤ _; omega) (flat_subR objF_len (h'.set n (({ (h'[n]'hT).1 with tg := nullI } : OJ), (h'[n]'hT).2)) n (rvkE (h'[n]'hT)) hT2 11 nullI.cells (by decide) (by rw [List.getElem_set_self]; rfl) rest))
  have GT7 := hidB (show Bk (w6.setCells gT (n * 18 + 11) nullI.cells) gt 24 #[(.slice (some ⟨gT, 0, none⟩) h'.length cap)] from (far7.2 _ hTt).trans GT6.out)
  have R7 := hidB (show Bk (w6.setCells gT (n * 18 + 11) nullI.cells) (w.heap.size + 1) 24 #[.slice none 0 0] from (far7.2 _ hTr).trans R6.out)
  have B7 := hidB (show Below w.heap.size w (w6.setCells gT (n * 18 + 11) nullI.cells) from below_setCells HBT.out _ _ B6.out)
  have PS7 := hidB (fun e (he : e ∈ h') => (PS6.out e he).far (w1 := (w6.setCells gT (n * 18 + 11) nullI.cells)) BT6.out (by decide) (Nat.zero_le _) (Nat.le_of_eq far7.1.symm) far7.2)
  rw [List.set_set] at BT7
  go_upto_region 9 with (first | ((with_reducible refine wpId ?_); refine wpList_build_to (by rfl) 43 _ (by rfl) (nullI.cells.toArray) (by kernel_rfl) ?_) | ((with_reducible refine stId 43 (.tmp 36) (.tmp 34) ?_); refine wpList_store_mid (by rfl) 43 (.tmp 36) (.tmp 34) (by rfl) gT (n * 18 + 11) nullI.cells.toArray (by rfl) (by rfl) (by exact Bk.there BT6.out (n * 18 + 11) 4 (by have := HL18.out; have h5 := flatH_len (h'.set n (({ (h'[n]'hT).1 with tg := nullI } : OJ), (h'[n]'hT).2)); have h6 := flatH_len h'; rw [List.length_set] at h5; rw [List.size_toArray, List.length_append]; omega)) (by kernel_rfl) (by exact vi_oneC nullI) ?_))
  clear far7 t0 B6 R6 GT6 PS6 BT6 BT
  generalize (w6.setCells gT (n * 18 + 11) nullI.cells) = w7 at *
  have HB2 := hidB (bareH_rev HBR.out hn hT)
  have HL2 := hidB (show (h'.set n (rvkE (h'[n]'hT))).length = h'.length by rw [List.length_set])
  have PS8 := hidB (fun e (he : e ∈ h'.set n (rvkE (h'[n]'hT))) => (show RdY 0 e.2 e.1.props w7 from (List.mem_or_eq_of_mem_set he).elim (fun h1 => PS7.out e h1) (fun h1 => by subst h1; exact PS7.out (h'[n]'hT) (List.getElem_mem hT))))
  clear PS7 HL18 hT2 HBR HLN
  generalize (h'.set n (rvkE (h'[n]'hT))) = h2 at *
  have HLF := hidB (show (flatH h2).length = (flatH h').length by rw [flatH_len, flatH_len, HL2.out])
  have OWN := hidB (show w7.ownsRow w.heap.size 46 18 (.slice (some ⟨gT, 0, none⟩) h'.length cap) h2.length (flatH h2) from ⟨flatH_len h2, Or.inr ⟨gT, cap, _, by rw [HL2.out], HBT.out, BT7.out, by rw [HL2.out]; exact HCT.out, HMT.out, by rw [List.size_toArray, List.length_append, HLF.out]; exact HRL.out, by rw [← flatH_len h2]; exact List.take_left⟩⟩)
  have r0 : w7.cell? ⟨w.heap.size + 1, 0, none⟩ = some (.slice none 0 0) := R7.out.cell 0
  have f0 : w7.frozen? ⟨w.heap.size + 1, 0, none⟩ = false := R7.out.free 0
  go_wp2_with (first | ((with_reducible refine ldId 24 (.tmp 7) ?_); refine wpList_load_row (by rfl) 24 (.tmp 7) (by rfl) (gt) (by rfl) 24 (#[(.slice (some ⟨gT, 0, none⟩) h'.length cap)]) (0, 0) _ (by exact GT7.out) Tryz.underlying24 (by rfl) (by kernel_rfl) ?_))
  have FR := hidB (show FreshH w.heap.size h2 (.slice (some ⟨gT, 0, none⟩) h'.length cap) (w7.setCell ⟨w.heap.size + 1, 0, none⟩ (.slice (some ⟨gT, 0, none⟩) h'.length cap)) from ⟨OWN.out.kept (set_grownH w7 _ _) (Or.inr (own_ne_typeH OWN.out (by decide) R7.out)), fun e he => (PS8.out e he).far R7.out (by decide) (Nat.zero_le _) (Nat.le_of_eq (by simp [World.setCell])) (fun b hb => Below.heap_setCell w7 _ _ b hb)⟩)
  exact bodyPost_ret (v := .tuple #[.agg (#[(.slice (some ⟨gT, 0, none⟩) h'.length cap)]), .int .i64 0]) (results_row2C Tryz.results9 _ _ (w.heap.size + 1) 24 (#[(.slice (some ⟨gT, 0, none⟩) h'.length cap)]) (0, 0) _ rfl (R7.out.set 0 _) Tryz.underlying24 rfl (by kernel_rfl)) rfl (⟨B7.out.setCell (by show w.heap.size ≤ w.heap.size + 1; omega) _, Or.inr ⟨HM.out, _, rfl, h2, by rw [Int.toNat_natCast]; exact HB2.out, FR.out⟩⟩)

end Go.Proofs.YtnidamkgfgddfaaGreat
