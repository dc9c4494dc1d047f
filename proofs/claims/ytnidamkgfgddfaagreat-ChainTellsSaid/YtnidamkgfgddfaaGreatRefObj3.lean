/-
  The reference's words on proxies and natives in heaps.
-/
import Derived.Test.YtnidamkgfgddfaaGreatRefObj2
import Derived.Test.YtnidamkgfgddfaaGreatMxX
namespace Go.Proofs.YtnidamkgfgddfaaGreat
open Go.RowKit

set_option maxHeartbeats 8000000 in
set_option maxRecDepth 100000 in
theorem rproxy_any (h : HI) (hv : Value) (n : Nat) (o : OJ) (l : List PI) (ho : o.ok) (w : World) (hr : RdH h hv w) (hp : RdP l o.props w) (hn : n ≤ h.length) : Calls Tryz.prog 52 #[.agg #[hv], o.a, .int .i64 n] w fun e w' => e = .returned (.bool (prxB h n o l)) ∧ Below w.heap.size w w' := by
  have HHR := hidB hr
  obtain ⟨pa2, c2, hpp, hl1, hl2, hl3⟩ := hp
  unfold maxLen at hl2
  have hlm2 : l.length ≤ 9223372036854775807 := by omega
  have HO := hidB ho
  clear hl3 ho
  have Y := hidB (show Bk ((w.alloc (.cells (#[hv]) 24)).alloc (.cells (o.cs) 46)) (w.heap.size) 24 (#[hv]) from (Bk.new w _ _).alloc _)
  have X := hidB (show Bk ((w.alloc (.cells (#[hv]) 24)).alloc (.cells (o.cs) 46)) (w.heap.size + 1) 46 (o.cs) from Bk.new2 w _ _ _)
  have B := hidB (show Below w.heap.size w ((w.alloc (.cells (#[hv]) 24)).alloc (.cells (o.cs) 46)) from (box_one w _).alloc (by simp) _)
  go_enter Tryz.func52, Tryz.ntmps52
  go_upto_region 1 with fail
  generalize hW : ((w.alloc (.cells (#[hv]) 24)).alloc (.cells (o.cs) 46)) = w1 at *
  clear hW
  generalize hgq : w.heap.size + 1 = gq at *
  clear hgq
  have HPP := hidB hpp
  go_cut [35] from 8 to 35 (fun s35 wx => s35 = .bool (badX o l) ∧ Bk wx gq 46 o.cs ∧ Bk wx w.heap.size 24 #[hv] ∧ Below w.heap.size w wx)
  case first => as_aux_lemma =>
    have x6 : w1.cell? ⟨gq, 6, none⟩ = some (.slice pa2 l.length c2) := (X.out.cell 6).trans (congrArg some HPP.out)
    have x5 : w1.cell? ⟨gq, 5, none⟩ = some (.bool o.ext) := X.out.cell 5
    clear hpp
    by_cases h0 : 0 < l.length
    · have H0 := hidB h0
      have h0i : (0 : Int) < (l.length : Int) := by omega
      go_wp2_with fail
      go_meet
      case rel => exact ⟨congrArg Value.bool (by unfold badX; simp [H0.out]), X.out, Y.out, B.out⟩
    have H0 := hidB h0
    have h0i : ¬ (0 : Int) < (l.length : Int) := by omega
    cases hx : o.ext
    rotate_left
    · rw [hx] at x5
      go_wp2_with fail
      go_meet
      case rel => exact ⟨congrArg Value.bool (by unfold badX; simp [hx]), X.out, Y.out, B.out⟩
    rw [hx] at x5
    have HX := hidB hx
    clear hx
    go_wp2_with (first | ((with_reducible refine ldId 43 (.tmp 17) ?_); refine wpList_wload_mid 43 (.tmp 17) (by rfl) (by rfl) (gq) 1 (by rfl) (o.pr.cells) _ (by exact Bk.mid X.out 1 _ rfl) Tryz.underlying43 (by rfl) (by kernel_rfl) ?_))
    refine (rnull_any o.pr HO.out.2.1 _).mono ?_; rintro e w2 ⟨rfl, hb⟩
    replace X := hidB (X.out.on hb)
    replace Y := hidB (Y.out.on hb)
    replace B := hidB (B.out.trans (hb.mono B.out.size))
    clear hb
    clear x5 x6
    cases hp : isV o.pr 1
    · have HP := hidB hp
      clear hp
      go_wp2_with fail
      go_meet
      case rel => exact ⟨congrArg Value.bool (by unfold badX; simp [HP.out]), X.out, Y.out, B.out⟩
    have HP := hidB hp
    clear hp
    have x15 : w2.cell? ⟨gq, 15, none⟩ = some (.string o.tx) := X.out.cell 15
    have x16 : w2.cell? ⟨gq, 16, none⟩ = some (.bool o.ca) := X.out.cell 16
    have x17 : w2.cell? ⟨gq, 17, none⟩ = some (.bool o.ma) := X.out.cell 17
    cases htx : o.tx.toList.isEmpty
    · have htx2 : (o.tx.toList == []) = false := by rw [← htx]; cases o.tx.toList <;> rfl
      have HT := hidB htx
      go_wp2_with fail
      go_meet
      case rel => exact ⟨congrArg Value.bool (by unfold badX; simp [HT.out]), X.out, Y.out, B.out⟩
    have htx2 : (o.tx.toList == []) = true := by rw [← htx]; cases o.tx.toList <;> rfl
    have HT := hidB htx
    clear htx
    cases hma : o.ma
    · rw [hma] at x17
      have HM := hidB hma
      go_wp2_with fail
      go_meet
      case rel => exact ⟨congrArg Value.bool (by unfold badX; simp [H0.out, HX.out, HP.out, HT.out, HM.out]), X.out, Y.out, B.out⟩
    rw [hma] at x17
    have HM := hidB hma
    cases hca : o.ca
    · rw [hca] at x16
      have HC := hidB hca
      go_wp2_with fail
      go_meet
      case rel => exact ⟨congrArg Value.bool (by unfold badX; simp [H0.out, HX.out, HP.out, HT.out, HM.out, HC.out]), X.out, Y.out, B.out⟩
    · rw [hca] at x16
      have HC := hidB hca
      go_wp2_with fail
      go_meet
      case rel => exact ⟨congrArg Value.bool (by unfold badX; simp [H0.out, HX.out, HP.out, HT.out, HM.out, HC.out]), X.out, Y.out, B.out⟩
  case rest =>
  obtain ⟨rfl, hX, hY, hb⟩ := hcut
  replace X := hidB hX
  replace Y := hidB hY
  replace B := hidB hb
  clear hX hY hb
  clear hpp
  cases hbx : badX o l
  rotate_left
  · have HB := hidB hbx
    clear hbx
    have HQ := hidB (show prxB h n o l = _ by unfold prxB; simp only [HB.out, Bool.not_true, Bool.not_false, Bool.true_and, Bool.false_and, Bool.and_false, Bool.or_true, Bool.true_or, Bool.false_or, Bool.and_true, Bool.and_self]; rfl)
    go_wp2_with fail
    go_ret
    exact ⟨ret_bool (by rw [HQ.out]), B.out⟩
  have HB := hidB hbx
  clear hbx
  go_upto_region 3 with fail
  go_cut [43] from 36 to 43 (fun s43 wx => s43 = .bool (isV o.tg 1 || isV o.hd 1) ∧ Bk wx gq 46 o.cs ∧ Bk wx w.heap.size 24 #[hv] ∧ Below w.heap.size w wx)
  case first => as_aux_lemma =>
    go_wp2_with (first | ((with_reducible refine ldId 43 (.tmp 36) ?_); refine wpList_load_mid (by rfl) 43 (.tmp 36) (by rfl) (gq) 7 (by rfl) (o.tg.cells) _ (by exact Bk.mid X.out 7 _ rfl) Tryz.underlying43 (by rfl) (by kernel_rfl) ?_))
    refine (rnull_any o.tg HO.out.2.2.1 _).mono ?_; rintro e w3 ⟨rfl, hb⟩
    replace X := hidB (X.out.on hb)
    replace Y := hidB (Y.out.on hb)
    replace B := hidB (B.out.trans (hb.mono B.out.size))
    clear hb
    cases ht : isV o.tg 1
    rotate_left
    · have HT := hidB ht
      clear ht
      go_wp2_with fail
      go_meet
      case rel => exact ⟨congrArg Value.bool (by simp [HT.out]), X.out, Y.out, B.out⟩
    have HT := hidB ht
    clear ht
    go_wp2_with (first | ((with_reducible refine ldId 43 (.tmp 40) ?_); refine wpList_wload_mid 43 (.tmp 40) (by rfl) (by rfl) (gq) 11 (by rfl) (o.hd.cells) _ (by exact Bk.mid X.out 11 _ rfl) Tryz.underlying43 (by rfl) (by kernel_rfl) ?_))
    refine (rnull_any o.hd HO.out.2.2.2 _).mono ?_; rintro e w4 ⟨rfl, hb⟩
    replace X := hidB (X.out.on hb)
    replace Y := hidB (Y.out.on hb)
    replace B := hidB (B.out.trans (hb.mono B.out.size))
    clear hb
    cases ht : isV o.hd 1
    · have HT2 := hidB ht
      clear ht
      go_wp2_with fail
      go_meet
      case rel => exact ⟨congrArg Value.bool (by simp [HT.out, HT2.out]), X.out, Y.out, B.out⟩
    · have HT2 := hidB ht
      clear ht
      go_wp2_with fail
      go_meet
      case rel => exact ⟨congrArg Value.bool (by simp [HT.out, HT2.out]), X.out, Y.out, B.out⟩
  case rest =>
  obtain ⟨rfl, hX, hY, hb⟩ := hcut
  replace X := hidB hX
  replace Y := hidB hY
  replace B := hidB hb
  clear hX hY hb
  have HNO : ∀ v : VI, isV v 1 = true → refB h n v = false := fun v hv => by unfold isV at hv; rw [Bool.and_eq_true, beq_iff_eq] at hv; unfold refB isObj; rw [hv.1]; rfl
  have HNN := hidB HNO
  clear HNO
  cases hnn : (isV o.tg 1 || isV o.hd 1)
  rotate_left
  · have HN := hidB hnn
    clear hnn
    go_wp2_with (first | ((with_reducible refine ldId 43 (.tmp 44) ?_); refine wpList_load_mid (by rfl) 43 (.tmp 44) (by rfl) (gq) 7 (by rfl) (o.tg.cells) _ (by exact Bk.mid X.out 7 _ rfl) Tryz.underlying43 (by rfl) (by kernel_rfl) ?_))
    refine (rnull_any o.tg HO.out.2.2.1 _).mono ?_; rintro e w3 ⟨rfl, hb⟩
    replace X := hidB (X.out.on hb)
    replace Y := hidB (Y.out.on hb)
    replace B := hidB (B.out.trans (hb.mono B.out.size))
    clear hb
    cases ht : isV o.tg 1
    · have HT := hidB ht
      have HH : Hid (isV o.hd 1 = true) := hidB (by have := HN.out; rw [ht] at this; simpa using this)
      have HR2 := hidB (HNN.out _ HH.out)
      clear ht
      have HQ := hidB (show prxB h n o l = _ by unfold prxB; simp only [HB.out, HT.out, HH.out, HR2.out, Bool.not_true, Bool.not_false, Bool.true_and, Bool.false_and, Bool.and_false, Bool.or_true, Bool.true_or, Bool.false_or, Bool.and_true, Bool.and_self]; rfl)
      go_wp2_with fail
      go_ret
      exact ⟨ret_bool (by rw [HQ.out]), B.out⟩
    have HT := hidB ht
    clear ht
    go_wp2_with (first | ((with_reducible refine ldId 43 (.tmp 48) ?_); refine wpList_wload_mid 43 (.tmp 48) (by rfl) (by rfl) (gq) 11 (by rfl) (o.hd.cells) _ (by exact Bk.mid X.out 11 _ rfl) Tryz.underlying43 (by rfl) (by kernel_rfl) ?_))
    refine (rnull_any o.hd HO.out.2.2.2 _).mono ?_; rintro e w4 ⟨rfl, hb⟩
    replace X := hidB (X.out.on hb)
    replace Y := hidB (Y.out.on hb)
    replace B := hidB (B.out.trans (hb.mono B.out.size))
    clear hb
    have HR1 := hidB (HNN.out _ HT.out)
    cases ht : isV o.hd 1
    · have HT2 := hidB ht
      clear ht
      have HQ := hidB (show prxB h n o l = _ by unfold prxB; simp only [HB.out, HT.out, HT2.out, HR1.out, Bool.not_true, Bool.not_false, Bool.true_and, Bool.false_and, Bool.and_false, Bool.or_true, Bool.true_or, Bool.false_or, Bool.and_true, Bool.and_self]; rfl)
      go_wp2_with fail
      go_ret
      exact ⟨ret_bool (by rw [HQ.out]), B.out⟩
    · have HT2 := hidB ht
      clear ht
      have HQ := hidB (show prxB h n o l = _ by unfold prxB; simp only [HB.out, HT.out, HT2.out, HR1.out, Bool.not_true, Bool.not_false, Bool.true_and, Bool.false_and, Bool.and_false, Bool.or_true, Bool.true_or, Bool.false_or, Bool.and_true, Bool.and_self]; rfl)
      go_wp2_with fail
      go_ret
      exact ⟨ret_bool (by rw [HQ.out]), B.out⟩
  have HN : Hid (isV o.tg 1 = false ∧ isV o.hd 1 = false) := hidB (by simpa using hnn)
  clear hnn HNN
  go_upto_region 5 with fail
  go_cut [89] from 52 to 89 (fun s89 wx => s89 = .bool (!(refB h n o.tg && refB h n o.hd)) ∧ Bk wx gq 46 o.cs ∧ Bk wx w.heap.size 24 #[hv] ∧ Below w.heap.size w wx)
  case first => as_aux_lemma =>
    go_wp2_with (first | ((with_reducible refine ldId 43 (.tmp 52) ?_); refine wpList_load_mid (by rfl) 43 (.tmp 52) (by rfl) (gq) 7 (by rfl) (o.tg.cells) _ (by exact Bk.mid X.out 7 _ rfl) Tryz.underlying43 (by rfl) (by kernel_rfl) ?_))
    refine (refObj_any o.tg.k o.tg.x o.tg.s o.tg.r _).mono ?_; rintro e w3 ⟨rfl, hb1⟩
    have hb := hb1 ▸ box_one _ (.cells o.tg.cells.toArray 43)
    clear hb1
    replace X := hidB (X.out.on hb)
    replace Y := hidB (Y.out.on hb)
    replace B := hidB (B.out.trans (hb.mono B.out.size))
    clear hb
    cases hio : isObj o.tg.k
    · have HI1 := hidB hio
      clear hio
      go_wp2_with fail
      go_meet
      case rel => exact ⟨congrArg Value.bool (by unfold refB; simp [HI1.out]), X.out, Y.out, B.out⟩
    have HI1 := hidB hio
    clear hio
    go_wp2_with (first | ((with_reducible refine ldId 43 (.tmp 57) ?_); refine wpList_wload_mid 43 (.tmp 57) (by rfl) (by rfl) (gq) 11 (by rfl) (o.hd.cells) _ (by exact Bk.mid X.out 11 _ rfl) Tryz.underlying43 (by rfl) (by kernel_rfl) ?_))
    refine (refObj_any o.hd.k o.hd.x o.hd.s o.hd.r _).mono ?_; rintro e w4 ⟨rfl, hb1⟩
    have hb := hb1 ▸ box_one _ (.cells o.hd.cells.toArray 43)
    clear hb1
    replace X := hidB (X.out.on hb)
    replace Y := hidB (Y.out.on hb)
    replace B := hidB (B.out.trans (hb.mono B.out.size))
    clear hb
    cases hio : isObj o.hd.k
    · have HI2 := hidB hio
      clear hio
      go_wp2_with fail
      go_meet
      case rel => exact ⟨congrArg Value.bool (by unfold refB; simp [HI1.out, HI2.out]), X.out, Y.out, B.out⟩
    have HI2 := hidB hio
    clear hio
    have x10 : w4.cell? ⟨gq, 10, none⟩ = some (.int .i64 o.tg.r) := X.out.cell 10
    have x14 : w4.cell? ⟨gq, 14, none⟩ = some (.int .i64 o.hd.r) := X.out.cell 14
    by_cases hge : (n : Int) ≤ o.tg.r
    · have HG1 := hidB (show decide (o.tg.r < (n : Int)) = false from decide_eq_false (by omega))
      go_wp2_with fail
      go_meet
      case rel => exact ⟨congrArg Value.bool (by unfold refB; simp [HI1.out, HI2.out, HG1.out]), X.out, Y.out, B.out⟩
    have HG1 := hidB (show decide (o.tg.r < (n : Int)) = true from decide_eq_true (by omega))
    by_cases hge2 : (n : Int) ≤ o.hd.r
    · have HG2 := hidB (show decide (o.hd.r < (n : Int)) = false from decide_eq_false (by omega))
      go_wp2_with fail
      go_meet
      case rel => exact ⟨congrArg Value.bool (by unfold refB; simp [HI1.out, HI2.out, HG1.out, HG2.out]), X.out, Y.out, B.out⟩
    have HG2 := hidB (show decide (o.hd.r < (n : Int)) = true from decide_eq_true (by omega))
    go_wp2_with (first | ((with_reducible refine ldId 24 (.tmp 3) ?_); refine wpList_wload_mid 24 (.tmp 3) (by rfl) (by rfl) (w.heap.size) 0 (by rfl) ([hv]) _ (by exact Bk.mid Y.out 0 _ rfl) Tryz.underlying24 (by rfl) (by kernel_rfl) ?_) | ((with_reducible refine ldId 43 (.tmp 78) ?_); refine wpList_wload_mid 43 (.tmp 78) (by rfl) (by rfl) (gq) 7 (by rfl) (o.tg.cells) _ (by exact Bk.mid X.out 7 _ rfl) Tryz.underlying43 (by rfl) (by kernel_rfl) ?_))
    all_goals try (exfalso; omega)
    refine (rmayin_any h hv o.tg HO.out.2.2.1 _ (HHR.out.on B.out)).mono ?_; rintro e w5 ⟨rfl, hb⟩
    replace X := hidB (X.out.on hb)
    replace Y := hidB (Y.out.on hb)
    replace B := hidB (B.out.trans (hb.mono B.out.size))
    clear hb
    clear x10 x14 hge hge2
    cases hin : inB h o.tg
    · have HN1 := hidB hin
      clear hin
      go_wp2_with fail
      go_meet
      case rel => exact ⟨congrArg Value.bool (by unfold refB; simp [HI1.out, HI2.out, HG1.out, HG2.out, HN1.out]), X.out, Y.out, B.out⟩
    have HN1 := hidB hin
    clear hin
    go_wp2_with (first | ((with_reducible refine ldId 24 (.tmp 3) ?_); refine wpList_wload_mid 24 (.tmp 3) (by rfl) (by rfl) (w.heap.size) 0 (by rfl) ([hv]) _ (by exact Bk.mid Y.out 0 _ rfl) Tryz.underlying24 (by rfl) (by kernel_rfl) ?_) | ((with_reducible refine ldId 43 (.tmp 85) ?_); refine wpList_wload_mid 43 (.tmp 85) (by rfl) (by rfl) (gq) 11 (by rfl) (o.hd.cells) _ (by exact Bk.mid X.out 11 _ rfl) Tryz.underlying43 (by rfl) (by kernel_rfl) ?_))
    refine (rmayin_any h hv o.hd HO.out.2.2.2 _ (HHR.out.on B.out)).mono ?_; rintro e w6 ⟨rfl, hb⟩
    replace X := hidB (X.out.on hb)
    replace Y := hidB (Y.out.on hb)
    replace B := hidB (B.out.trans (hb.mono B.out.size))
    clear hb
    cases hin : inB h o.hd
    · have HN2 := hidB hin
      clear hin
      go_wp2_with fail
      go_meet
      case rel => exact ⟨congrArg Value.bool (by unfold refB; simp [HI1.out, HI2.out, HG1.out, HG2.out, HN1.out, HN2.out]), X.out, Y.out, B.out⟩
    · have HN2 := hidB hin
      clear hin
      go_wp2_with fail
      go_meet
      case rel => exact ⟨congrArg Value.bool (by unfold refB; simp [HI1.out, HI2.out, HG1.out, HG2.out, HN1.out, HN2.out]), X.out, Y.out, B.out⟩
  case rest =>
  obtain ⟨rfl, hX, hY, hb⟩ := hcut
  replace X := hidB hX
  replace Y := hidB hY
  replace B := hidB hb
  clear hX hY hb
  cases hrr : (refB h n o.tg && refB h n o.hd)
  · have HR := hidB hrr
    clear hrr
    have HQ := hidB (show prxB h n o l = false by unfold prxB; rw [HB.out, HN.out.1, HN.out.2, ← Bool.and_assoc (refB h n o.tg), HR.out]; rfl)
    go_wp2_with fail
    go_ret
    exact ⟨ret_bool (by rw [HQ.out]), B.out⟩
  have HRT : Hid (refB h n o.tg = true) := hidB ((Bool.and_eq_true _ _ ▸ hrr).1)
  have HRH : Hid (refB h n o.hd = true) := hidB ((Bool.and_eq_true _ _ ▸ hrr).2)
  clear hrr
  have hI : isObj o.tg.k = true ∧ inB h o.tg = true ∧ o.tg.r < (n : Int) := by have := HRT.out; unfold refB at this; simpa using this
  have hr0 : 0 ≤ o.tg.r := may_ref (by have := hI.2.1; unfold inB at this; exact (Bool.and_eq_true _ _ ▸ this).1) hI.1
  have hx5 : o.tg.r < (h.length : Int) := by omega
  have hn2 : o.tg.r.toNat < h.length := by omega
  have HPE := hidB (HHR.out.props _ (List.getElem_mem hn2))
  have HH := HHR.out
  obtain ⟨⟨pa, c, rfl, e1, e2, e3⟩, _⟩ := HH
  unfold maxLen at e2
  have hlm3 : h.length ≤ 9223372036854775807 := by omega
  obtain ⟨g, o2, rfl, hg, hcell⟩ := e3 (by omega)
  have HCE := hidB (rangeOn B.out hg (hcell o.tg.r.toNat hn2))
  have HK := hidB (show (h[o.tg.r.toNat]?).map (fun e => e.1.ca == o.ca && e.1.ma == o.ma) = some ((h[o.tg.r.toNat]'hn2).1.ca == o.ca && (h[o.tg.r.toNat]'hn2).1.ma == o.ma) by rw [List.getElem?_eq_getElem hn2]; rfl)
  clear hcell e3 hI
  generalize (h[o.tg.r.toNat]'hn2) = e0 at *
  have HQ := hidB (show prxB h n o l = (e0.1.ca == o.ca && e0.1.ma == o.ma) by unfold prxB; rw [HB.out, HN.out.1, HN.out.2, HRT.out, HRH.out, HK.out]; rfl)
  have y0 : wc.cell? ⟨w.heap.size, 0, none⟩ = some (.slice (some ⟨g, o2, none⟩) h.length c) := Y.out.cell 0
  have x10 : wc.cell? ⟨gq, 10, none⟩ = some (.int .i64 o.tg.r) := X.out.cell 10
  have TX := hidB (show Bk (wc.alloc (.cells e0.1.cs 46)) wc.heap.size 46 e0.1.cs from Bk.new wc _ _)
  have X7 := hidB (show Bk (wc.alloc (.cells e0.1.cs 46)) gq 46 o.cs from X.out.alloc _)
  have B7 := hidB (show Below w.heap.size w (wc.alloc (.cells e0.1.cs 46)) from B.out.alloc B.out.size _)
  go_upto_region 8 with (first | ((with_reducible refine ldId 46 (.tmp 95) ?_); refine wpList_load_mid (by rfl) 46 (.tmp 95) (by rfl) g (o2 + o.tg.r.toNat * 18) (by rfl) e0.1.cs.toList _ (by exact HCE.out) Tryz.underlying46 (by rfl) (by kernel_rfl) ?_) | ((with_reducible refine wpId ?_); refine wpList_store_new (by rfl) 46 (.tmp 7) (.tmp 96) (by rfl) e0.1.cs 46 _ (by rfl) (by rfl) (by kernel_rfl) (by rfl) (by exact OJ.one _ (RdP.one HPE.out)) ?_))
  clear y0 x10 X B
  generalize hW : (wc.alloc (.cells e0.1.cs 46)) = w9 at *
  clear hW
  generalize hg9 : wc.heap.size = g9 at *
  clear hg9
  have t16 : w9.cell? ⟨g9, 16, none⟩ = some (.bool e0.1.ca) := TX.out.cell 16
  have t17 : w9.cell? ⟨g9, 17, none⟩ = some (.bool e0.1.ma) := TX.out.cell 17
  have x16 : w9.cell? ⟨gq, 16, none⟩ = some (.bool o.ca) := X7.out.cell 16
  have x17 : w9.cell? ⟨gq, 17, none⟩ = some (.bool o.ma) := X7.out.cell 17
  cases a1 : e0.1.ca <;> cases a2 : o.ca <;> cases a3 : e0.1.ma <;> cases a4 : o.ma
  all_goals
    rw [a1] at t16
    rw [a2] at x16
    rw [a3] at t17
    rw [a4] at x17
    go_wp2_with fail
    go_ret
    exact ⟨ret_bool (by rw [HQ.out, a1, a2, a3, a4]; first | done | rfl), B7.out⟩
set_option maxHeartbeats 8000000 in
set_option maxRecDepth 100000 in
theorem rrevokes_any (h : HI) (hv : Value) (n : Nat) (o : OJ) (ho : o.ok) (w : World) (hr : RdH h hv w) (hn : n ≤ h.length) : Calls Tryz.prog 54 #[.agg #[hv], o.a, .int .i64 n] w fun e w' => e = .returned (.bool (revB h n o)) ∧ Below w.heap.size w w' := by
  have HHR := hidB hr
  have HO := hidB ho
  clear ho
  have Y := hidB (show Bk ((w.alloc (.cells (#[hv]) 24)).alloc (.cells (o.cs) 46)) (w.heap.size) 24 (#[hv]) from (Bk.new w _ _).alloc _)
  have X := hidB (show Bk ((w.alloc (.cells (#[hv]) 24)).alloc (.cells (o.cs) 46)) (w.heap.size + 1) 46 (o.cs) from Bk.new2 w _ _ _)
  have B := hidB (show Below w.heap.size w ((w.alloc (.cells (#[hv]) 24)).alloc (.cells (o.cs) 46)) from (box_one w _).alloc (by simp) _)
  go_enter Tryz.func54, Tryz.ntmps54
  go_upto_region 1 with fail
  generalize hW : ((w.alloc (.cells (#[hv]) 24)).alloc (.cells (o.cs) 46)) = w1 at *
  clear hW
  generalize hgq : w.heap.size + 1 = gq at *
  clear hgq
  have TX := hidB (show Bk (w1.alloc (.cells o.tg.cells.toArray 43)) w1.heap.size 43 o.tg.cells.toArray from Bk.new w1 _ _)
  have X1 := hidB (show Bk (w1.alloc (.cells o.tg.cells.toArray 43)) gq 46 o.cs from X.out.alloc _)
  replace Y := hidB (show Bk (w1.alloc (.cells o.tg.cells.toArray 43)) w.heap.size 24 #[hv] from Y.out.alloc _)
  replace B := hidB (show Below w.heap.size w (w1.alloc (.cells o.tg.cells.toArray 43)) from B.out.alloc B.out.size _)
  go_upto_region 2 with (first | ((with_reducible refine ldId 43 (.tmp 8) ?_); refine wpList_load_mid (by rfl) 43 (.tmp 8) (by rfl) (gq) 7 (by rfl) (o.tg.cells) _ (by exact Bk.mid X.out 7 _ rfl) Tryz.underlying43 (by rfl) (by kernel_rfl) ?_) | ((with_reducible refine wpId ?_); refine wpList_store_new (by rfl) 43 (.tmp 7) (.tmp 9) (by rfl) o.tg.cells.toArray 43 _ (by rfl) (by rfl) (by kernel_rfl) (by rfl) (by exact VI.one _) ?_))
  replace X := X1
  clear X1
  generalize hW : (w1.alloc (.cells o.tg.cells.toArray 43)) = w2 at *
  clear hW
  generalize hg5 : w1.heap.size = g5 at *
  clear hg5
  have x0 : w2.cell? ⟨gq, 0, none⟩ = some (.int .u8 o.kd) := X.out.cell 0
  by_cases h5 : o.kd = 5
  rotate_left
  · have h5b : (o.kd == 5) = false := by rw [beq_eq_false_iff_ne]; exact h5
    have H5 := hidB h5b
    go_wp2_with fail
    go_ret
    exact ⟨ret_bool (by unfold revB; rw [H5.out]; rfl), B.out⟩
  have H5 := hidB (show (o.kd == 5) = true by rw [beq_iff_eq]; exact h5)
  rw [h5] at x0
  clear h5
  skip
  go_wp2_with (first | ((with_reducible refine ldId 43 (.tmp 7) ?_); refine wpList_wload_row 43 (.tmp 7) (by rfl) (by rfl) g5 (by rfl) 43 (o.tg.cells.toArray) (0, 0) _ (by exact TX.out) Tryz.underlying43 (by rfl) (by kernel_rfl) ?_))
  refine (refObj_any o.tg.k o.tg.x o.tg.s o.tg.r _).mono ?_; rintro e w3 ⟨rfl, hb1⟩
  have hb := hb1 ▸ box_one _ (.cells o.tg.cells.toArray 43)
  clear hb1 x0
  replace X := hidB (X.out.on hb)
  replace Y := hidB (Y.out.on hb)
  replace TX := hidB (TX.out.on hb)
  replace B := hidB (B.out.trans (hb.mono B.out.size))
  clear hb
  cases ho : isObj o.tg.k
  · have HO1 := hidB ho
    clear ho
    go_wp2_with fail
    go_ret
    exact ⟨ret_bool (by unfold revB; rw [H5.out, HO1.out]; rfl), B.out⟩
  have HO1 := hidB ho
  clear ho
  have t3 : w3.cell? ⟨g5, 3, none⟩ = some (.int .i64 o.tg.r) := TX.out.cell 3
  by_cases hl : o.tg.r < (n : Int)
  rotate_left
  · have HL := hidB (show decide (o.tg.r < (n : Int)) = false from decide_eq_false hl)
    go_wp2_with fail
    go_ret
    exact ⟨ret_bool (by unfold revB; rw [H5.out, HO1.out, HL.out]; rfl), B.out⟩
  have HL := hidB (show decide (o.tg.r < (n : Int)) = true from decide_eq_true hl)
  go_wp2_with (first | ((with_reducible refine ldId 24 (.tmp 3) ?_); refine wpList_wload_mid 24 (.tmp 3) (by rfl) (by rfl) (w.heap.size) 0 (by rfl) ([hv]) _ (by exact Bk.mid Y.out 0 _ rfl) Tryz.underlying24 (by rfl) (by kernel_rfl) ?_) | ((with_reducible refine ldId 43 (.tmp 7) ?_); refine wpList_wload_row 43 (.tmp 7) (by rfl) (by rfl) g5 (by rfl) 43 (o.tg.cells.toArray) (0, 0) _ (by exact TX.out) Tryz.underlying43 (by rfl) (by kernel_rfl) ?_))
  refine (rmayin_any h hv o.tg HO.out.2.2.1 _ (HHR.out.on B.out)).mono ?_; rintro e w4 ⟨rfl, hb⟩
  replace X := hidB (X.out.on hb)
  replace Y := hidB (Y.out.on hb)
  replace TX := hidB (TX.out.on hb)
  replace B := hidB (B.out.trans (hb.mono B.out.size))
  clear hb
  clear t3
  cases hi : inB h o.tg
  · have HI := hidB hi
    clear hi
    go_wp2_with fail
    go_ret
    exact ⟨ret_bool (by unfold revB; rw [H5.out, HO1.out, HL.out, HI.out]; rfl), B.out⟩
  have HI := hidB hi
  have hr0 : 0 ≤ o.tg.r := may_ref (by unfold inB at hi; exact (Bool.and_eq_true _ _ ▸ hi).1) HO1.out
  clear hi
  have hn2 : o.tg.r.toNat < h.length := by omega
  have hx5 : o.tg.r < (h.length : Int) := by omega
  have HK := hidB (show (h[o.tg.r.toNat]?).map (fun e => e.1.kd) = some (h[o.tg.r.toNat]'hn2).1.kd by rw [List.getElem?_eq_getElem hn2]; rfl)
  have HH := HHR.out
  obtain ⟨⟨pa, c, rfl, e1, e2, e3⟩, _⟩ := HH
  unfold maxLen at e2
  have hlm3 : h.length ≤ 9223372036854775807 := by omega
  obtain ⟨g, o2, rfl, hg, hcell⟩ := e3 (by omega)
  have HCE := hidB (rangeOn B.out hg (hcell o.tg.r.toNat hn2))
  clear hcell e3
  generalize (h[o.tg.r.toNat]'hn2) = e0 at *
  have y0 : w4.cell? ⟨w.heap.size, 0, none⟩ = some (.slice (some ⟨g, o2, none⟩) h.length c) := Y.out.cell 0
  have t3 : w4.cell? ⟨g5, 3, none⟩ = some (.int .i64 o.tg.r) := TX.out.cell 3
  have z0 : w4.cell? ⟨g, o2 + o.tg.r.toNat * 18, none⟩ = some (.int .u8 e0.1.kd) := HCE.out 0 _ rfl
  by_cases hk6 : e0.1.kd = 6
  · rw [hk6] at z0
    have HK6 := hidB hk6
    clear hk6
    go_wp2_with fail
    go_ret
    exact ⟨ret_bool (by unfold revB; rw [H5.out, HO1.out, HL.out, HI.out, HK.out, HK6.out]; rfl), B.out⟩
  · have HK6 := hidB hk6
    have hk7 : (e0.1.kd == 6) = false := by rw [beq_eq_false_iff_ne]; exact hk6
    go_wp2_with fail
    go_ret
    exact ⟨ret_bool (by unfold revB; rw [H5.out, HO1.out, HL.out, HI.out, HK.out]; simp [HK6.out]), B.out⟩

end Go.Proofs.YtnidamkgfgddfaaGreat
