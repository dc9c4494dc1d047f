/-
  The reference's word on an object in a heap.
-/
import Derived.Test.YtnidamkgfgddfaaGreatRefObj3
namespace Go.Proofs.YtnidamkgfgddfaaGreat
open Go.RowKit

/-- All descriptors' bytes are bytes. -/
def HBytes (h : HI) : Prop := ∀ e ∈ h, ∀ q ∈ e.2, q.d.byte
theorem tabG_whole : ∀ (l : List PI) (seen : List KI), tabG seen l = 0 → ∀ q ∈ l, q.d.isW = true
  | [], _, _ => fun q hq => by cases hq
  | p :: l, seen, h => fun q hq => by
    unfold tabG at h
    by_cases h0 : p.err seen = 0
    · rw [if_pos h0] at h
      rcases List.mem_cons.1 hq with rfl | h1
      · unfold PI.err at h0
        cases hk : q.k.ok
        · rw [hk] at h0; simp at h0
        · cases hw : q.d.isW
          · rw [hk, hw] at h0; simp at h0
          · rfl
      · exact tabG_whole l _ h q h1
    · rw [if_neg h0] at h
      exact absurd h h0
theorem tabE_whole {l : List PI} (h : tabE l = 0) : ∀ q ∈ l, q.d.isW = true := by
  unfold tabE at h
  split at h
  · cases h
  · exact tabG_whole l [] h

set_option maxHeartbeats 8000000 in
set_option maxRecDepth 100000 in
theorem robject_any (h : HI) (hok : HOk h) (hk : HKeys h) (hby : HBytes h) (hv : Value) (n : Nat) (hn : n < h.length) (w : World) (hr : RdH h hv w) : Calls Tryz.prog 44 #[.agg #[hv], .int .i64 n] w fun e w' => e = .returned (.bool (objB h n (h[n]'hn))) ∧ Below w.heap.size w w' := by
  have HRR := hidB (fun W (hb : Below w.heap.size w W) => hr.on hb)
  have HOB := hidB (hok _ (List.getElem_mem hn))
  have HPK := hidB (fun q hq => (⟨(hok _ (List.getElem_mem hn)).2 q hq, hby _ (List.getElem_mem hn) q hq, hk _ (List.getElem_mem hn) q hq⟩ : q.d.ok ∧ q.d.byte ∧ q.k.s.size ≤ maxLen))
  have HRP := hidB (hr.props _ (List.getElem_mem hn))
  have HLT := hidB (Nat.le_of_lt hn)
  obtain ⟨⟨pa, c, rfl, h1, h2, h3⟩, _⟩ := hr
  unfold maxLen at h2
  have hlm : h.length ≤ 9223372036854775807 := by omega
  obtain ⟨g, o, rfl, hg, hcell⟩ := h3 (by omega)
  have HG := hidB hg
  have HR := hidB (hcell n hn)
  have hx1 : (n : Int) < (h.length : Int) := by omega
  have hx2 : (0 : Int) ≤ (n : Int) := by omega
  clear hok hk hby hcell hg
  generalize he0 : (h[n]'hn) = e0 at *
  obtain ⟨ob, l⟩ := e0
  clear he0 h3
  have HOJ : Hid (objB h n (ob, l) = if ob.kd = 6 then prxB h n ob l else plainB arrB boxB h n ob l) := hidB rfl
  generalize objB h n (ob, l) = res at *
  have Y := hidB (show Bk (w.alloc (.cells (#[(.slice (some ⟨g, o, none⟩) h.length c)]) 24)) (w.heap.size) 24 (#[(.slice (some ⟨g, o, none⟩) h.length c)]) from Bk.new w _ _)
  have B := hidB (show Below w.heap.size w (w.alloc (.cells (#[(.slice (some ⟨g, o, none⟩) h.length c)]) 24)) from box_one w _)
  go_enter Tryz.func44, Tryz.ntmps44
  go_upto_region 1 with fail
  generalize hW : (w.alloc (.cells (#[(.slice (some ⟨g, o, none⟩) h.length c)]) 24)) = w1 at *
  clear hW
  have y0 : w1.cell? ⟨w.heap.size, 0, none⟩ = some (.slice (some ⟨g, o, none⟩) h.length c) := Y.out.cell 0
  have HR1 := hidB (rangeOn B.out HG.out HR.out)
  have X := hidB (show Bk (w1.alloc (.cells ob.cs 46)) w1.heap.size 46 ob.cs from Bk.new w1 _ _)
  replace Y := hidB (show Bk (w1.alloc (.cells ob.cs 46)) w.heap.size 24 #[(.slice (some ⟨g, o, none⟩) h.length c)] from Y.out.alloc _)
  replace B := hidB (show Below w.heap.size w (w1.alloc (.cells ob.cs 46)) from B.out.alloc B.out.size _)
  go_upto_region 2 with (first | ((with_reducible refine ldId 46 (.tmp 10) ?_); refine wpList_load_mid (by rfl) 46 (.tmp 10) (by rfl) g (o + n * 18) (by rfl) ob.cs.toList _ (by exact HR1.out) Tryz.underlying46 (by rfl) (by kernel_rfl) ?_) | ((with_reducible refine wpId ?_); refine wpList_store_new (by rfl) 46 (.tmp 5) (.tmp 11) (by rfl) ob.cs 46 _ (by rfl) (by rfl) (by kernel_rfl) (by rfl) (by exact OJ.one _ (RdP.one HRP.out)) ?_))
  clear HR1 y0
  generalize hW : (w1.alloc (.cells ob.cs 46)) = w2 at *
  clear hW
  generalize hG : w1.heap.size = g5 at *
  clear hG
  by_cases h6 : ob.kd = 6
  · have x0 : w2.cell? ⟨g5, 0, none⟩ = some (.int .u8 6) := by rw [← h6]; exact X.out.cell 0
    have H6 := hidB h6
    clear h6
    go_wp2_with (first | ((with_reducible refine ldId 24 (.tmp 2) ?_); refine wpList_load_row (by rfl) 24 (.tmp 2) (by rfl) (w.heap.size) (by rfl) 24 (#[(.slice (some ⟨g, o, none⟩) h.length c)]) (0, 0) _ (by exact Y.out) Tryz.underlying24 (by rfl) (by kernel_rfl) ?_) | ((with_reducible refine ldId 46 (.tmp 5) ?_); refine wpList_load_row (by rfl) 46 (.tmp 5) (by rfl) (g5) (by rfl) 46 (ob.cs) (0, 0) _ (by exact X.out) Tryz.underlying46 (by rfl) (by kernel_rfl) ?_))
    refine (rproxy_any h _ n ob l HOB.out.1 _ (HRR.out _ B.out) (HRP.out.on B.out) HLT.out).mono ?_; rintro e w3 ⟨rfl, hb⟩
    replace X := hidB (X.out.on hb)
    replace Y := hidB (Y.out.on hb)
    replace B := hidB (B.out.trans (hb.mono B.out.size))
    clear hb
    go_wp2_with fail
    go_ret
    exact ⟨ret_bool (by rw [HOJ.out, if_pos H6.out]), B.out⟩
  have x0 : w2.cell? ⟨g5, 0, none⟩ = some (.int .u8 ob.kd) := X.out.cell 0
  have HPL : Hid (res = plainB arrB boxB h n ob l) := hidB (by rw [HOJ.out, if_neg h6])
  have h6b : (ob.kd == 6) = false := by rw [beq_eq_false_iff_ne]; exact h6
  clear HOJ
  go_upto_region 4 with fail
  clear h6 h6b x0
  go_cut [45] from 19 to 45 (fun s45 wx => s45 = .bool (bad5 h n ob) ∧ Bk wx g5 46 ob.cs ∧ Bk wx w.heap.size 24 #[(.slice (some ⟨g, o, none⟩) h.length c)] ∧ Below w.heap.size w wx)
  case first => as_aux_lemma =>
    go_wp2_with (first | ((with_reducible refine ldId 43 (.tmp 19) ?_); refine wpList_load_mid (by rfl) 43 (.tmp 19) (by rfl) (g5) 7 (by rfl) (ob.tg.cells) _ (by exact Bk.mid X.out 7 _ rfl) Tryz.underlying43 (by rfl) (by kernel_rfl) ?_))
    refine (rnone_any ob.tg HOB.out.1.2.2.1 _).mono ?_; rintro e w3 ⟨rfl, hb⟩
    replace X := hidB (X.out.on hb)
    replace Y := hidB (Y.out.on hb)
    replace B := hidB (B.out.trans (hb.mono B.out.size))
    clear hb
    cases hit : isV ob.tg 0
    rotate_left
    · have HIT := hidB hit
      clear hit
      go_wp2_with (first | ((with_reducible refine ldId 43 (.tmp 31) ?_); refine wpList_wload_mid 43 (.tmp 31) (by rfl) (by rfl) (g5) 11 (by rfl) (ob.hd.cells) _ (by exact Bk.mid X.out 11 _ rfl) Tryz.underlying43 (by rfl) (by kernel_rfl) ?_))
      refine (rnone_any ob.hd HOB.out.1.2.2.2 _).mono ?_; rintro e w6 ⟨rfl, hb⟩
      replace X := hidB (X.out.on hb)
      replace Y := hidB (Y.out.on hb)
      replace B := hidB (B.out.trans (hb.mono B.out.size))
      clear hb
      cases hih : isV ob.hd 0
      · have HIH := hidB hih
        clear hih
        go_wp2_with fail
        go_meet
        case rel => exact ⟨congrArg Value.bool (by unfold bad5; simp [HIT.out, HIH.out]), X.out, Y.out, B.out⟩
      have HIH := hidB hih
      clear hih
      have x15 : w6.cell? ⟨g5, 15, none⟩ = some (.string ob.tx) := X.out.cell 15
      have x0 : w6.cell? ⟨g5, 0, none⟩ = some (.int .u8 ob.kd) := X.out.cell 0
      cases htx : ob.tx.toList.isEmpty
      rotate_left
      · have htx2 : (ob.tx.toList == []) = true := by rw [← htx]; cases ob.tx.toList <;> rfl
        have HTX := hidB htx
        go_wp2_with fail
        go_meet
        case rel => exact ⟨congrArg Value.bool (by unfold bad5; simp [HIT.out, HIH.out, HTX.out]), X.out, Y.out, B.out⟩
      have htx2 : (ob.tx.toList == []) = false := by rw [← htx]; cases ob.tx.toList <;> rfl
      have HTX := hidB htx
      by_cases h3 : ob.kd = 3
      · rw [h3] at x0
        have H3 := hidB h3
        clear h3
        go_wp2_with fail
        go_meet
        case rel => exact ⟨congrArg Value.bool (by unfold bad5; simp [HIT.out, HIH.out, HTX.out, H3.out]), X.out, Y.out, B.out⟩
      · have H3 := hidB (show (ob.kd == 3) = false by rw [beq_eq_false_iff_ne]; exact h3)
        have h3b : (ob.kd != 3) = true := by rw [bne_iff_ne]; exact h3
        go_wp2_with fail
        go_meet
        case rel => exact ⟨congrArg Value.bool (by unfold bad5; simp [HIT.out, HIH.out, HTX.out, H3.out]), X.out, Y.out, B.out⟩
    have HIT := hidB hit
    clear hit
    go_wp2_with (first | ((with_reducible refine ldId 24 (.tmp 2) ?_); refine wpList_wload_row 24 (.tmp 2) (by rfl) (by rfl) (w.heap.size) (by rfl) 24 (#[(.slice (some ⟨g, o, none⟩) h.length c)]) (0, 0) _ (by exact Y.out) Tryz.underlying24 (by rfl) (by kernel_rfl) ?_) | ((with_reducible refine ldId 46 (.tmp 5) ?_); refine wpList_wload_row 46 (.tmp 5) (by rfl) (by rfl) g5 (by rfl) 46 (ob.cs) (0, 0) _ (by exact X.out) Tryz.underlying46 (by rfl) (by kernel_rfl) ?_))
    refine (rrevokes_any h _ n ob HOB.out.1 _ (HRR.out _ B.out) HLT.out).mono ?_; rintro e w4 ⟨rfl, hb⟩
    replace X := hidB (X.out.on hb)
    replace Y := hidB (Y.out.on hb)
    replace B := hidB (B.out.trans (hb.mono B.out.size))
    clear hb
    cases hrv : revB h n ob
    · have HRV := hidB hrv
      clear hrv
      go_wp2_with fail
      go_meet
      case rel => exact ⟨congrArg Value.bool (by unfold bad5; simp [HIT.out, HRV.out]), X.out, Y.out, B.out⟩
    have HRV := hidB hrv
    clear hrv
    go_wp2_with (first | ((with_reducible refine ldId 43 (.tmp 31) ?_); refine wpList_wload_mid 43 (.tmp 31) (by rfl) (by rfl) (g5) 11 (by rfl) (ob.hd.cells) _ (by exact Bk.mid X.out 11 _ rfl) Tryz.underlying43 (by rfl) (by kernel_rfl) ?_))
    refine (rnone_any ob.hd HOB.out.1.2.2.2 _).mono ?_; rintro e w6 ⟨rfl, hb⟩
    replace X := hidB (X.out.on hb)
    replace Y := hidB (Y.out.on hb)
    replace B := hidB (B.out.trans (hb.mono B.out.size))
    clear hb
    cases hih : isV ob.hd 0
    · have HIH := hidB hih
      clear hih
      go_wp2_with fail
      go_meet
      case rel => exact ⟨congrArg Value.bool (by unfold bad5; simp [HIT.out, HRV.out, HIH.out]), X.out, Y.out, B.out⟩
    have HIH := hidB hih
    clear hih
    have x15 : w6.cell? ⟨g5, 15, none⟩ = some (.string ob.tx) := X.out.cell 15
    have x0 : w6.cell? ⟨g5, 0, none⟩ = some (.int .u8 ob.kd) := X.out.cell 0
    cases htx : ob.tx.toList.isEmpty
    rotate_left
    · have htx2 : (ob.tx.toList == []) = true := by rw [← htx]; cases ob.tx.toList <;> rfl
      have HTX := hidB htx
      go_wp2_with fail
      go_meet
      case rel => exact ⟨congrArg Value.bool (by unfold bad5; simp [HIT.out, HRV.out, HIH.out, HTX.out]), X.out, Y.out, B.out⟩
    have htx2 : (ob.tx.toList == []) = false := by rw [← htx]; cases ob.tx.toList <;> rfl
    have HTX := hidB htx
    by_cases h3 : ob.kd = 3
    · rw [h3] at x0
      have H3 := hidB h3
      clear h3
      go_wp2_with fail
      go_meet
      case rel => exact ⟨congrArg Value.bool (by unfold bad5; simp [HIT.out, HRV.out, HIH.out, HTX.out, H3.out]), X.out, Y.out, B.out⟩
    · have H3 := hidB (show (ob.kd == 3) = false by rw [beq_eq_false_iff_ne]; exact h3)
      have h3b : (ob.kd != 3) = true := by rw [bne_iff_ne]; exact h3
      go_wp2_with fail
      go_meet
      case rel => exact ⟨congrArg Value.bool (by unfold bad5; simp [HIT.out, HRV.out, HIH.out, HTX.out, H3.out]), X.out, Y.out, B.out⟩
  case rest =>
  obtain ⟨rfl, hX, hY, hb⟩ := hcut
  replace X := hidB hX
  replace Y := hidB hY
  replace B := hidB hb
  clear hX hY hb
  cases hb5 : bad5 h n ob
  rotate_left
  · have HB5 := hidB hb5
    clear hb5
    go_wp2_with fail
    go_ret
    exact ⟨ret_bool (by rw [HPL.out]; unfold plainB; rw [HB5.out]; rfl), B.out⟩
  have HB5 := hidB hb5
  clear hb5
  go_upto_region 6 with fail
  go_cut [69] from 46 to 69 (fun s69 wx => s69 = .bool (bad7 h ob l || !l.all (propB h)) ∧ Bk wx g5 46 ob.cs ∧ Bk wx w.heap.size 24 #[(.slice (some ⟨g, o, none⟩) h.length c)] ∧ Below w.heap.size w wx)
  case first => as_aux_lemma =>
    by_cases hp1 : ob.pr.k = 1
    · have x1 : wc.cell? ⟨g5, 1, none⟩ = some (.int .u8 1) := by rw [← hp1]; exact X.out.cell 1
      have HP1 := hidB (show (ob.pr.k == 1) = true by rw [beq_iff_eq]; exact hp1)
      clear hp1
      go_wp2_with (first | ((with_reducible refine ldId 24 (.tmp 2) ?_); refine wpList_wload_row 24 (.tmp 2) (by rfl) (by rfl) (w.heap.size) (by rfl) 24 (#[(.slice (some ⟨g, o, none⟩) h.length c)]) (0, 0) _ (by exact Y.out) Tryz.underlying24 (by rfl) (by kernel_rfl) ?_) | ((with_reducible refine ldId 43 (.tmp 58) ?_); refine wpList_wload_mid 43 (.tmp 58) (by rfl) (by rfl) (g5) 1 (by rfl) (ob.pr.cells) _ (by exact Bk.mid X.out 1 _ rfl) Tryz.underlying43 (by rfl) (by kernel_rfl) ?_))
      refine (rmayin_any h _ ob.pr HOB.out.1.2.1 _ (HRR.out _ B.out)).mono ?_; rintro e w8 ⟨rfl, hb⟩
      replace X := hidB (X.out.on hb)
      replace Y := hidB (Y.out.on hb)
      replace B := hidB (B.out.trans (hb.mono B.out.size))
      clear hb
      cases hip : inB h ob.pr
      · have HIP := hidB hip
        clear hip
        go_wp2_with fail
        go_meet
        case rel => exact ⟨congrArg Value.bool (by unfold bad7; simp [HP1.out, HIP.out]), X.out, Y.out, B.out⟩
      have HIP := hidB hip
      clear hip
      have x6 : w8.cell? ⟨g5, 6, none⟩ = some ob.props := X.out.cell 6
      go_wp2_with (first | ((with_reducible refine ldId 24 (.tmp 2) ?_); refine wpList_wload_row 24 (.tmp 2) (by rfl) (by rfl) (w.heap.size) (by rfl) 24 (#[(.slice (some ⟨g, o, none⟩) h.length c)]) (0, 0) _ (by exact Y.out) Tryz.underlying24 (by rfl) (by kernel_rfl) ?_))
      refine (rprops_any h _ l HPK.out ob.props _ (HRR.out _ B.out) (HRP.out.on B.out)).mono ?_; rintro e w9 ⟨rfl, hb⟩
      replace X := hidB (X.out.on hb)
      replace Y := hidB (Y.out.on hb)
      replace B := hidB (B.out.trans (hb.mono B.out.size))
      clear hb
      clear x6
      have HTE : Hid ((tabE l == 0) = (tabE l == 0)) := hidB rfl
      skip
      have HB7 : Hid ((bad7 h ob l || !l.all (propB h)) = !((tabE l == 0) && l.all (propB h))) := hidB (by unfold bad7; simp [HP1.out, HIP.out])
      generalize ((tabE l == 0) && l.all (propB h)) = pq at *
      cases pq
      · skip
        go_wp2_with fail
        go_meet
        case rel => exact ⟨congrArg Value.bool (by rw [HB7.out]; try rfl), X.out, Y.out, B.out⟩
      · skip
        go_wp2_with fail
        go_meet
        case rel => exact ⟨congrArg Value.bool (by rw [HB7.out]; try rfl), X.out, Y.out, B.out⟩
    have x1 : wc.cell? ⟨g5, 1, none⟩ = some (.int .u8 ob.pr.k) := X.out.cell 1
    have HP1 := hidB (show (ob.pr.k == 1) = false by rw [beq_eq_false_iff_ne]; exact hp1)
    have hp2 : (ob.pr.k != 1) = true := by rw [bne_iff_ne]; exact hp1
    go_wp2_with (first | ((with_reducible refine ldId 43 (.tmp 51) ?_); refine wpList_wload_mid 43 (.tmp 51) (by rfl) (by rfl) (g5) 1 (by rfl) (ob.pr.cells) _ (by exact Bk.mid X.out 1 _ rfl) Tryz.underlying43 (by rfl) (by kernel_rfl) ?_))
    refine (refObj_any ob.pr.k ob.pr.x ob.pr.s ob.pr.r _).mono ?_; rintro e w7 ⟨rfl, hb1⟩
    have hb := hb1 ▸ box_one _ (.cells ob.pr.cells.toArray 43)
    clear hb1
    replace X := hidB (X.out.on hb)
    replace Y := hidB (Y.out.on hb)
    replace B := hidB (B.out.trans (hb.mono B.out.size))
    clear hb
    cases hio : isObj ob.pr.k
    · have HIO := hidB hio
      clear hio
      go_wp2_with fail
      go_meet
      case rel => exact ⟨congrArg Value.bool (by unfold bad7; rw [HP1.out, HIO.out]; rfl), X.out, Y.out, B.out⟩
    have HIO := hidB hio
    clear hio x1 hp1 hp2
    go_wp2_with (first | ((with_reducible refine ldId 24 (.tmp 2) ?_); refine wpList_wload_row 24 (.tmp 2) (by rfl) (by rfl) (w.heap.size) (by rfl) 24 (#[(.slice (some ⟨g, o, none⟩) h.length c)]) (0, 0) _ (by exact Y.out) Tryz.underlying24 (by rfl) (by kernel_rfl) ?_) | ((with_reducible refine ldId 43 (.tmp 58) ?_); refine wpList_wload_mid 43 (.tmp 58) (by rfl) (by rfl) (g5) 1 (by rfl) (ob.pr.cells) _ (by exact Bk.mid X.out 1 _ rfl) Tryz.underlying43 (by rfl) (by kernel_rfl) ?_))
    refine (rmayin_any h _ ob.pr HOB.out.1.2.1 _ (HRR.out _ B.out)).mono ?_; rintro e w8 ⟨rfl, hb⟩
    replace X := hidB (X.out.on hb)
    replace Y := hidB (Y.out.on hb)
    replace B := hidB (B.out.trans (hb.mono B.out.size))
    clear hb
    cases hip : inB h ob.pr
    · have HIP := hidB hip
      clear hip
      go_wp2_with fail
      go_meet
      case rel => exact ⟨congrArg Value.bool (by unfold bad7; simp [HP1.out, HIO.out, HIP.out]), X.out, Y.out, B.out⟩
    have HIP := hidB hip
    clear hip
    have x6 : w8.cell? ⟨g5, 6, none⟩ = some ob.props := X.out.cell 6
    go_wp2_with (first | ((with_reducible refine ldId 24 (.tmp 2) ?_); refine wpList_wload_row 24 (.tmp 2) (by rfl) (by rfl) (w.heap.size) (by rfl) 24 (#[(.slice (some ⟨g, o, none⟩) h.length c)]) (0, 0) _ (by exact Y.out) Tryz.underlying24 (by rfl) (by kernel_rfl) ?_))
    refine (rprops_any h _ l HPK.out ob.props _ (HRR.out _ B.out) (HRP.out.on B.out)).mono ?_; rintro e w9 ⟨rfl, hb⟩
    replace X := hidB (X.out.on hb)
    replace Y := hidB (Y.out.on hb)
    replace B := hidB (B.out.trans (hb.mono B.out.size))
    clear hb
    clear x6
    have HTE : Hid ((tabE l == 0) = (tabE l == 0)) := hidB rfl
    skip
    have HB7 : Hid ((bad7 h ob l || !l.all (propB h)) = !((tabE l == 0) && l.all (propB h))) := hidB (by unfold bad7; simp [HP1.out, HIO.out, HIP.out])
    generalize ((tabE l == 0) && l.all (propB h)) = pq at *
    cases pq
    · skip
      go_wp2_with fail
      go_meet
      case rel => exact ⟨congrArg Value.bool (by rw [HB7.out]; try rfl), X.out, Y.out, B.out⟩
    · skip
      go_wp2_with fail
      go_meet
      case rel => exact ⟨congrArg Value.bool (by rw [HB7.out]; try rfl), X.out, Y.out, B.out⟩
  case rest =>
  obtain ⟨rfl, hX, hY, hb⟩ := hcut
  replace X := hidB hX
  replace Y := hidB hY
  replace B := hidB hb
  clear hX hY hb
  cases hb7 : (bad7 h ob l || !l.all (propB h))
  rotate_left
  · have HB7 := hidB hb7
    clear hb7
    go_wp2_with fail
    go_ret
    exact ⟨ret_bool (by rw [HPL.out]; (unfold plainB; rw [HB5.out]; have := HB7.out; revert this; cases bad7 h ob l <;> cases l.all (propB h) <;> simp)), B.out⟩
  have HB7 : Hid (bad7 h ob l = false ∧ l.all (propB h) = true) := hidB (by revert hb7; cases bad7 h ob l <;> cases l.all (propB h) <;> simp)
  clear hb7
  replace HPL : Hid (res = kindB arrB boxB ob l) := hidB (by rw [HPL.out]; unfold plainB; rw [HB5.out, HB7.out.1, HB7.out.2]; rfl)
  have HTE : Hid (tabE l = 0) := hidB (by have := HB7.out.1; unfold bad7 at this; simp only [Bool.or_eq_false_iff] at this; simpa using this.2.2)
  clear HB5 HB7
  go_upto_region 8 with fail
  go_cut [6] from 70 to 77 (fun s6 wx => s6 = .bool (!ob.ca && !ob.ma) ∧ Bk wx g5 46 ob.cs ∧ Bk wx w.heap.size 24 #[(.slice (some ⟨g, o, none⟩) h.length c)] ∧ Below w.heap.size w wx)
  case first => as_aux_lemma =>
    have x16 : wc.cell? ⟨g5, 16, none⟩ = some (.bool ob.ca) := X.out.cell 16
    have x17 : wc.cell? ⟨g5, 17, none⟩ = some (.bool ob.ma) := X.out.cell 17
    obtain ⟨ca, hca⟩ : ∃ q, ob.ca = q := ⟨_, rfl⟩
    obtain ⟨ma, hma⟩ : ∃ q, ob.ma = q := ⟨_, rfl⟩
    rw [hca] at x16
    rw [hma] at x17
    have HCA := hidB hca
    have HMA := hidB hma
    clear hca hma
    cases ca <;> cases ma
    · skip
      go_wp2_with fail
      go_meet
      case rel => exact ⟨congrArg Value.bool (by rw [HCA.out, HMA.out]; rfl), X.out, Y.out, B.out⟩
    · skip
      go_wp2_with fail
      go_meet
      case rel => exact ⟨congrArg Value.bool (by rw [HCA.out, HMA.out]; rfl), X.out, Y.out, B.out⟩
    · skip
      go_wp2_with fail
      go_meet
      case rel => exact ⟨congrArg Value.bool (by rw [HCA.out, HMA.out]; rfl), X.out, Y.out, B.out⟩
    · skip
      go_wp2_with fail
      go_meet
      case rel => exact ⟨congrArg Value.bool (by rw [HCA.out, HMA.out]; rfl), X.out, Y.out, B.out⟩
  case rest =>
  obtain ⟨rfl, hX, hY, hb⟩ := hcut
  replace X := hidB hX
  replace Y := hidB hY
  replace B := hidB hb
  clear hX hY hb
  have HPN : Hid ((!ob.ca && !ob.ma) = (!ob.ca && !ob.ma)) := hidB rfl
  generalize hpn : (!ob.ca && !ob.ma) = pn at *
  clear HPN
  by_cases h1' : ob.kd = 1
  · have x0 : wc.cell? ⟨g5, 0, none⟩ = some (.int .u8 1) := by rw [← h1']; exact X.out.cell 0
    have HKD := hidB h1'
    have HPNN := hidB hpn
    clear h1' hpn
    go_wp2_with fail
    go_ret
    exact ⟨ret_bool (by rw [HPL.out]; unfold kindB; rw [if_pos HKD.out, HPNN.out]), B.out⟩
  by_cases h2' : ob.kd = 2
  · have x0 : wc.cell? ⟨g5, 0, none⟩ = some (.int .u8 2) := by rw [← h2']; exact X.out.cell 0
    have HKD := hidB h2'
    have HPNN := hidB hpn
    clear h1' h2' hpn
    cases pn
    · skip
      go_wp2_with fail
      go_ret
      exact ⟨ret_bool (by rw [HPL.out]; unfold kindB; rw [HKD.out, if_neg (by decide), if_pos rfl, ← Bool.and_assoc, HPNN.out]; rfl), B.out⟩
    have x6 : wc.cell? ⟨g5, 6, none⟩ = some ob.props := X.out.cell 6
    go_wp2_with fail
    refine (rarray_any l (fun q hq => (HPK.out q hq).2.2) (fun q hq => ⟨(HPK.out q hq).2.1, tabE_whole HTE.out q hq⟩) ob.props _ (HRP.out.on B.out)).mono ?_; rintro e w9 ⟨rfl, hb⟩
    replace X := hidB (X.out.on hb)
    replace Y := hidB (Y.out.on hb)
    replace B := hidB (B.out.trans (hb.mono B.out.size))
    clear hb
    clear x6 x0
    go_wp2_with fail
    go_ret
    exact ⟨ret_bool (by rw [HPL.out]; unfold kindB; rw [HKD.out, if_neg (by decide), if_pos rfl, ← Bool.and_assoc, HPNN.out]; rfl), B.out⟩
  by_cases h3' : ob.kd = 3
  · have x0 : wc.cell? ⟨g5, 0, none⟩ = some (.int .u8 3) := by rw [← h3']; exact X.out.cell 0
    have HKD := hidB h3'
    have HPNN := hidB hpn
    clear h1' h2' h3' hpn
    cases pn
    · skip
      go_wp2_with fail
      go_ret
      exact ⟨ret_bool (by rw [HPL.out]; unfold kindB; rw [HKD.out, if_neg (by decide), if_neg (by decide), if_pos rfl, ← Bool.and_assoc, HPNN.out]; rfl), B.out⟩
    have x6 : wc.cell? ⟨g5, 6, none⟩ = some ob.props := X.out.cell 6
    have x15 : wc.cell? ⟨g5, 15, none⟩ = some (.string ob.tx) := X.out.cell 15
    go_wp2_with fail
    refine (rboxed_any l (fun q hq => (HPK.out q hq).2.2) ob.tx ob.props _ (HRP.out.on B.out)).mono ?_; rintro e w9 ⟨rfl, hb⟩
    replace X := hidB (X.out.on hb)
    replace Y := hidB (Y.out.on hb)
    replace B := hidB (B.out.trans (hb.mono B.out.size))
    clear hb
    clear x6 x0 x15
    go_wp2_with fail
    go_ret
    exact ⟨ret_bool (by rw [HPL.out]; unfold kindB; rw [HKD.out, if_neg (by decide), if_neg (by decide), if_pos rfl, ← Bool.and_assoc, HPNN.out]; rfl), B.out⟩
  by_cases h4' : ob.kd = 4
  · have x0 : wc.cell? ⟨g5, 0, none⟩ = some (.int .u8 4) := by rw [← h4']; exact X.out.cell 0
    have HKD := hidB h4'
    have HPNN := hidB hpn
    clear h1' h2' h3' h4' hpn
    have x16 : wc.cell? ⟨g5, 16, none⟩ = some (.bool ob.ca) := X.out.cell 16
    have x17 : wc.cell? ⟨g5, 17, none⟩ = some (.bool ob.ma) := X.out.cell 17
    clear HPNN
    cases hca : ob.ca
    · rw [hca] at x16
      have HCA := hidB hca
      clear hca
      go_wp2_with fail
      go_ret
      exact ⟨ret_bool (by rw [HPL.out]; unfold kindB; rw [HKD.out, if_neg (by decide), if_neg (by decide), if_neg (by decide), if_pos rfl, HCA.out]; rfl), B.out⟩
    · rw [hca] at x16
      have HCA := hidB hca
      clear hca
      go_wp2_with fail
      go_ret
      exact ⟨ret_bool (by rw [HPL.out]; unfold kindB; rw [HKD.out, if_neg (by decide), if_neg (by decide), if_neg (by decide), if_pos rfl, HCA.out]; rfl), B.out⟩
  by_cases h5' : ob.kd = 5
  · have x0 : wc.cell? ⟨g5, 0, none⟩ = some (.int .u8 5) := by rw [← h5']; exact X.out.cell 0
    have HKD := hidB h5'
    have HPNN := hidB hpn
    clear h1' h2' h3' h4' h5' hpn
    have x16 : wc.cell? ⟨g5, 16, none⟩ = some (.bool ob.ca) := X.out.cell 16
    go_wp2_with fail
    go_ret
    exact ⟨ret_bool (by rw [HPL.out]; unfold kindB; rw [HKD.out, if_neg (by decide), if_neg (by decide), if_neg (by decide), if_neg (by decide), if_pos rfl]), B.out⟩
  have x0 : wc.cell? ⟨g5, 0, none⟩ = some (.int .u8 ob.kd) := X.out.cell 0
  have HKD := hidB (⟨h1', h2', h3', h4', h5'⟩ : ob.kd ≠ 1 ∧ ob.kd ≠ 2 ∧ ob.kd ≠ 3 ∧ ob.kd ≠ 4 ∧ ob.kd ≠ 5)
  have q1 : (ob.kd == 1) = false := by rw [beq_eq_false_iff_ne]; exact h1'
  have q2 : (ob.kd == 2) = false := by rw [beq_eq_false_iff_ne]; exact h2'
  have q3 : (ob.kd == 3) = false := by rw [beq_eq_false_iff_ne]; exact h3'
  have q4 : (ob.kd == 4) = false := by rw [beq_eq_false_iff_ne]; exact h4'
  have q5 : (ob.kd == 5) = false := by rw [beq_eq_false_iff_ne]; exact h5'
  go_wp2_with fail
  go_ret
  exact ⟨ret_bool (by rw [HPL.out]; unfold kindB; rw [if_neg HKD.out.1, if_neg HKD.out.2.1, if_neg HKD.out.2.2.1, if_neg HKD.out.2.2.2.1, if_neg HKD.out.2.2.2.2]), B.out⟩

end Go.Proofs.YtnidamkgfgddfaaGreat
