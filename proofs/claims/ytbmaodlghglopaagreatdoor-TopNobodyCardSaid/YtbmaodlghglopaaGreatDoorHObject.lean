/-
  May an object be in a heap: the walk of heap.object.
-/
import Derived.Test.YtbmaodlghglopaaGreatDoorHIndex
namespace Go.Proofs.YtbmaodlghglopaaGreatDoor
open Go.RowKit

/-- Is it a native one that leads to a proxy below it? -/
def revB (h : HI) (n : Nat) (o : OJ) : Bool := (o.kd == 5) && (isObj o.tg.k && (decide (o.tg.r < n) && (inB h o.tg && ((h[o.tg.r.toNat]?).map (fun e => e.1.kd) == some 6))))
def bad5 (h : HI) (n : Nat) (o : OJ) : Bool := (!isV o.tg 0 && !revB h n o) || (!isV o.hd 0 || (!o.tx.toList.isEmpty && !(o.kd == 3)))
def bad7 (h : HI) (o : OJ) (l : List PI) : Bool := (!(o.pr.k == 1) && !isObj o.pr.k) || (!inB h o.pr || !(tabE l == 0))
def propB (h : HI) (q : PI) : Bool := inB h q.d.v && (inB h q.d.g && inB h q.d.t)
/-- The rest, by its kind. -/
def kindB (arrB : List PI → Bool) (boxB : List PI → ByteArray → Bool) (o : OJ) (l : List PI) : Bool :=
  if o.kd = 1 then !o.ca && !o.ma else if o.kd = 2 then !o.ca && (!o.ma && arrB l) else if o.kd = 3 then !o.ca && (!o.ma && boxB l o.tx) else if o.kd = 4 then o.ca && o.ma else if o.kd = 5 then o.ca else false
def plainB (arrB : List PI → Bool) (boxB : List PI → ByteArray → Bool) (h : HI) (n : Nat) (o : OJ) (l : List PI) : Bool := !bad5 h n o && (!bad7 h o l && (l.all (propB h) && kindB arrB boxB o l))

set_option maxHeartbeats 8000000 in
set_option maxRecDepth 100000 in
theorem object_any (arrB : List PI → Bool) (boxB : List PI → ByteArray → Bool) (prxB : Bool) (h : HI) (hok : HOk h) (hv : Value) (n : Nat) (hn : n < h.length) (w : World) (hr : RdH h hv w)
    (hA : (h[n]'hn).1.kd = 2 → ∀ W, Below w.heap.size w W → Calls Tryz.prog 69 #[(h[n]'hn).1.props] W fun e w' => e = .returned (.bool (arrB (h[n]'hn).2)) ∧ Below W.heap.size W w')
    (hB : (h[n]'hn).1.kd = 3 → ∀ W, Below w.heap.size w W → Calls Tryz.prog 70 #[(h[n]'hn).1.props, .string (h[n]'hn).1.tx] W fun e w' => e = .returned (.bool (boxB (h[n]'hn).2 (h[n]'hn).1.tx)) ∧ Below W.heap.size W w')
    (hP : (h[n]'hn).1.kd = 6 → ∀ W, Below w.heap.size w W → Calls Tryz.prog 66 #[.agg #[hv], (h[n]'hn).1.a, .int .i64 n] W fun e w' => e = .returned (.bool prxB) ∧ Below W.heap.size W w') :
    Calls Tryz.prog 48 #[.agg #[hv], .int .i64 n] w fun e w' => e = .returned (.bool (if (h[n]'hn).1.kd = 6 then prxB else plainB arrB boxB h n (h[n]'hn).1 (h[n]'hn).2)) ∧ Below w.heap.size w w' := by
  have INN := hidB (fun (v : VI) (h0 : 0 ≤ v.k) W (hb : Below w.heap.size w W) => in_any h hv v h0 W (hr.on hb))
  have HOB := hidB (hok _ (List.getElem_mem hn))
  have HRP := hidB (hr.props _ (List.getElem_mem hn))
  have HLT := hidB hn
  have HH := hidB (fun i (hi : i < h.length) => hok h[i] (List.getElem_mem hi))
  obtain ⟨⟨pa, c, rfl, h1, h2, h3⟩, _⟩ := hr
  unfold maxLen at h2
  have hlm : h.length ≤ 9223372036854775807 := by omega
  obtain ⟨g, o, rfl, hg, hcell⟩ := h3 (by omega)
  have HC := hidB hcell
  have HG := hidB hg
  have HR := hidB (hcell n hn)
  have HA := hidB hA
  have HB := hidB hB
  have HP := hidB hP
  clear hok hcell hg hA hB hP
  have hx1 : (n : Int) < (h.length : Int) := by omega
  have hx2 : (0 : Int) ≤ (n : Int) := by omega
  generalize he0 : (h[n]'hn) = e0 at *
  obtain ⟨ob, l⟩ := e0
  have HE0 := hidB he0
  clear he0
  have Y := hidB (show Bk (w.alloc (.cells (#[(.slice (some ⟨g, o, none⟩) h.length c)]) 24)) (w.heap.size) 24 (#[(.slice (some ⟨g, o, none⟩) h.length c)]) from Bk.new w _ _)
  have B := hidB (show Below w.heap.size w (w.alloc (.cells (#[(.slice (some ⟨g, o, none⟩) h.length c)]) 24)) from box_one w _)
  go_enter Tryz.func48, Tryz.ntmps48
  go_upto_region 1 with fail
  generalize hW : (w.alloc (.cells (#[(.slice (some ⟨g, o, none⟩) h.length c)]) 24)) = w1 at *
  clear hW
  have y0 : w1.cell? ⟨w.heap.size, 0, none⟩ = some (.slice (some ⟨g, o, none⟩) h.length c) := Y.out.cell 0
  have HR1 := hidB (rangeOn B.out HG.out HR.out)
  have X := hidB (show Bk (w1.alloc (.cells ob.cs 42)) w1.heap.size 42 ob.cs from Bk.new w1 _ _)
  replace Y := hidB (show Bk (w1.alloc (.cells ob.cs 42)) w.heap.size 24 #[(.slice (some ⟨g, o, none⟩) h.length c)] from Y.out.alloc _)
  have HZ := hidB B.out.size
  replace B := hidB (show Below w.heap.size w (w1.alloc (.cells ob.cs 42)) from B.out.alloc B.out.size _)
  go_upto_region 2 with (first | ((with_reducible refine ldId 42 (.tmp 12) ?_); refine wpList_load_mid (by rfl) 42 (.tmp 12) (by rfl) g (o + n * 18) (by rfl) ob.cs.toList _ (by exact HR1.out) Tryz.underlying42 (by rfl) (by kernel_rfl) ?_) | ((with_reducible refine wpId ?_); refine wpList_store_new (by rfl) 42 (.tmp 5) (.tmp 13) (by rfl) ob.cs 42 _ (by rfl) (by rfl) (by kernel_rfl) (by rfl) (by exact OJ.one _ (RdP.one HRP.out)) ?_))
  clear HR1 y0
  generalize hW : (w1.alloc (.cells ob.cs 42)) = w2 at *
  clear hW
  generalize hG : w1.heap.size = g5 at *
  clear hG
  by_cases h6 : ob.kd = 6
  · have x0 : w2.cell? ⟨g5, 0, none⟩ = some (.int .u8 6) := by rw [← h6]; exact X.out.cell 0
    have H6 := hidB h6
    have PC := hidB (HP.out h6)
    clear h6
    go_wp2_with (first | ((with_reducible refine ldId 24 (.tmp 2) ?_); refine wpList_load_row (by rfl) 24 (.tmp 2) (by rfl) (w.heap.size) (by rfl) 24 (#[(.slice (some ⟨g, o, none⟩) h.length c)]) (0, 0) _ (by exact Y.out) Tryz.underlying24 (by rfl) (by kernel_rfl) ?_) | ((with_reducible refine ldId 42 (.tmp 5) ?_); refine wpList_load_row (by rfl) 42 (.tmp 5) (by rfl) (g5) (by rfl) 42 (ob.cs) (0, 0) _ (by exact X.out) Tryz.underlying42 (by rfl) (by kernel_rfl) ?_))
    refine (PC.out _ B.out).mono ?_; rintro e w3 ⟨rfl, hb⟩
    replace X := hidB (X.out.on hb)
    replace Y := hidB (Y.out.on hb)
    replace B := hidB (B.out.trans (hb.mono B.out.size))
    clear hb
    go_wp2_with fail
    go_ret
    exact ⟨ret_bool (by first | rfl | rw [if_pos H6.out]), B.out⟩
  have x0 : w2.cell? ⟨g5, 0, none⟩ = some (.int .u8 ob.kd) := X.out.cell 0
  have H6 := hidB h6
  have h6b : (ob.kd == 6) = false := by rw [beq_eq_false_iff_ne]; exact h6
  clear HP
  go_upto_region 4 with fail
  clear h6 h6b x0
  go_cut [6] from 14 to 52 (fun s6 wx => s6 = .bool (revB h n ob) ∧ Bk wx g5 42 ob.cs ∧ Bk wx w.heap.size 24 #[(.slice (some ⟨g, o, none⟩) h.length c)] ∧ Below w.heap.size w wx)
  case first => as_aux_lemma =>
    by_cases h5 : ob.kd = 5
    rotate_left
    · have x0 : w2.cell? ⟨g5, 0, none⟩ = some (.int .u8 ob.kd) := X.out.cell 0
      have H5 := hidB (show (ob.kd == 5) = false by rw [beq_eq_false_iff_ne]; exact h5)
      go_wp2_with fail
      go_meet
      case rel => exact ⟨congrArg Value.bool (by unfold revB; rw [H5.out]; rfl), X.out, Y.out, B.out⟩
    have x0 : w2.cell? ⟨g5, 0, none⟩ = some (.int .u8 5) := by rw [← h5]; exact X.out.cell 0
    have H5 := hidB (show (ob.kd == 5) = true by rw [beq_iff_eq]; exact h5)
    clear h5
    go_wp2_with (first | ((with_reducible refine ldId 29 (.tmp 25) ?_); refine wpList_wload_mid 29 (.tmp 25) (by rfl) (by rfl) (g5) 7 (by rfl) (ob.tg.cells) _ (by exact Bk.mid X.out 7 _ rfl) Tryz.underlying29 (by rfl) (by kernel_rfl) ?_))
    refine (isObj_any ob.tg.k ob.tg.x ob.tg.s ob.tg.r _).mono ?_; rintro e w3 ⟨rfl, hb1⟩
    have hb := hb1 ▸ box_one _ (.cells ob.tg.cells.toArray 29)
    clear hb1
    replace X := hidB (X.out.on hb)
    replace Y := hidB (Y.out.on hb)
    replace B := hidB (B.out.trans (hb.mono B.out.size))
    clear hb
    cases ho : isObj ob.tg.k
    · have HO := hidB ho
      clear ho
      go_wp2_with fail
      go_meet
      case rel => exact ⟨congrArg Value.bool (by unfold revB; rw [H5.out, HO.out]; rfl), X.out, Y.out, B.out⟩
    have HO := hidB ho
    clear ho
    have x10 : w3.cell? ⟨g5, 10, none⟩ = some (.int .i64 ob.tg.r) := X.out.cell 10
    by_cases hl : ob.tg.r < (n : Int)
    rotate_left
    · have HL := hidB (show decide (ob.tg.r < (n : Int)) = false from decide_eq_false hl)
      go_wp2_with fail
      go_meet
      case rel => exact ⟨congrArg Value.bool (by unfold revB; rw [H5.out, HO.out, HL.out]; rfl), X.out, Y.out, B.out⟩
    have HL := hidB (show decide (ob.tg.r < (n : Int)) = true from decide_eq_true hl)
    have HLL := hidB hl
    skip
    go_wp2_with (first | ((with_reducible refine ldId 24 (.tmp 2) ?_); refine wpList_wload_mid 24 (.tmp 2) (by rfl) (by rfl) (w.heap.size) 0 (by rfl) ([(.slice (some ⟨g, o, none⟩) h.length c)]) _ (by exact Bk.mid Y.out 0 _ rfl) Tryz.underlying24 (by rfl) (by kernel_rfl) ?_) | ((with_reducible refine ldId 29 (.tmp 38) ?_); refine wpList_wload_mid 29 (.tmp 38) (by rfl) (by rfl) (g5) 7 (by rfl) (ob.tg.cells) _ (by exact Bk.mid X.out 7 _ rfl) Tryz.underlying29 (by rfl) (by kernel_rfl) ?_))
    refine (INN.out ob.tg HOB.out.1.2.2.1 _ B.out).mono ?_; rintro e w4 ⟨rfl, hb⟩
    replace X := hidB (X.out.on hb)
    replace Y := hidB (Y.out.on hb)
    replace B := hidB (B.out.trans (hb.mono B.out.size))
    clear hb
    clear x0 x10
    cases hi : inB h ob.tg
    · have HI := hidB hi
      clear hi
      go_wp2_with fail
      go_meet
      case rel => exact ⟨congrArg Value.bool (by unfold revB; rw [H5.out, HO.out, HL.out, HI.out]; rfl), X.out, Y.out, B.out⟩
    have HI := hidB hi
    have hr0 : 0 ≤ ob.tg.r := may_ref (by unfold inB at hi; exact (Bool.and_eq_true _ _ ▸ hi).1) HO.out
    clear hi
    have hn2 : ob.tg.r.toNat < h.length := by have := HLT.out; omega
    have hx5 : ob.tg.r < (h.length : Int) := by omega
    have HK := hidB (show (h[ob.tg.r.toNat]?).map (fun e => e.1.kd) = some (h[ob.tg.r.toNat]'hn2).1.kd by rw [List.getElem?_eq_getElem hn2]; rfl)
    have HCE := hidB (rangeOn B.out HG.out (HC.out ob.tg.r.toNat hn2))
    generalize (h[ob.tg.r.toNat]'hn2) = e2 at *
    have x10 : w4.cell? ⟨g5, 10, none⟩ = some (.int .i64 ob.tg.r) := X.out.cell 10
    have y0 : w4.cell? ⟨w.heap.size, 0, none⟩ = some (.slice (some ⟨g, o, none⟩) h.length c) := Y.out.cell 0
    have z0 : w4.cell? ⟨g, o + ob.tg.r.toNat * 18, none⟩ = some (.int .u8 e2.1.kd) := HCE.out 0 _ rfl
    by_cases hk6 : e2.1.kd = 6
    · rw [hk6] at z0
      have HK6 := hidB hk6
      clear hk6
      go_wp2_with fail
      go_meet
      case rel => exact ⟨congrArg Value.bool (by unfold revB; rw [H5.out, HO.out, HL.out, HI.out, HK.out, HK6.out]; rfl), X.out, Y.out, B.out⟩
    · have HK6 := hidB hk6
      have hk7 : (e2.1.kd == 6) = false := by rw [beq_eq_false_iff_ne]; exact hk6
      go_wp2_with fail
      go_meet
      case rel => exact ⟨congrArg Value.bool (by unfold revB; rw [H5.out, HO.out, HL.out, HI.out, HK.out]; simp [HK6.out]), X.out, Y.out, B.out⟩
  case rest =>
  obtain ⟨rfl, hX, hY, hb⟩ := hcut
  replace X := hidB hX
  replace Y := hidB hY
  replace B := hidB hb
  clear hX hY hb
  generalize hrv : revB h n ob = rv at *
  have HRV := hidB hrv
  clear hrv
  go_upto_region 5 with fail
  go_cut [76] from 53 to 76 (fun s76 wx => s76 = .bool (bad5 h n ob) ∧ Bk wx g5 42 ob.cs ∧ Bk wx w.heap.size 24 #[(.slice (some ⟨g, o, none⟩) h.length c)] ∧ Below w.heap.size w wx)
  case first => as_aux_lemma =>
    go_wp2_with (first | ((with_reducible refine ldId 29 (.tmp 53) ?_); refine wpList_load_mid (by rfl) 29 (.tmp 53) (by rfl) (g5) 7 (by rfl) (ob.tg.cells) _ (by exact Bk.mid X.out 7 _ rfl) Tryz.underlying29 (by rfl) (by kernel_rfl) ?_))
    refine (is_any ob.tg HOB.out.1.2.2.1 0 _).mono ?_; rintro e w5 ⟨rfl, hb⟩
    replace X := hidB (X.out.on hb)
    replace Y := hidB (Y.out.on hb)
    replace B := hidB (B.out.trans (hb.mono B.out.size))
    clear hb
    cases hit : isV ob.tg 0
    all_goals have HIT := hidB hit
    all_goals clear hit
    all_goals cases rv
    · skip
      go_wp2_with fail
      go_meet
      case rel => exact ⟨congrArg Value.bool (by unfold bad5; rw [HIT.out, HRV.out]; rfl), X.out, Y.out, B.out⟩
    · skip
      go_wp2_with (first | ((with_reducible refine ldId 29 (.tmp 62) ?_); refine wpList_wload_mid 29 (.tmp 62) (by rfl) (by rfl) (g5) 11 (by rfl) (ob.hd.cells) _ (by exact Bk.mid X.out 11 _ rfl) Tryz.underlying29 (by rfl) (by kernel_rfl) ?_))
      refine (is_any ob.hd HOB.out.1.2.2.2 0 _).mono ?_; rintro e w6 ⟨rfl, hb⟩
      replace X := hidB (X.out.on hb)
      replace Y := hidB (Y.out.on hb)
      replace B := hidB (B.out.trans (hb.mono B.out.size))
      clear hb
      cases hih : isV ob.hd 0
      · have HIH := hidB hih
        clear hih
        go_wp2_with fail
        go_meet
        case rel => exact ⟨congrArg Value.bool (by unfold bad5; rw [HIT.out, HRV.out, HIH.out]; rfl), X.out, Y.out, B.out⟩
      have HIH := hidB hih
      clear hih
      have x15 : w6.cell? ⟨g5, 15, none⟩ = some (.string ob.tx) := X.out.cell 15
      have x0 : w6.cell? ⟨g5, 0, none⟩ = some (.int .u8 ob.kd) := X.out.cell 0
      cases htx : ob.tx.toList.isEmpty
      rotate_left
      · have htx2 : (ob.tx.toList == []) = true := by rw [← htx]; cases ob.tx.toList <;> rfl
        have HTX := hidB htx
        go_wp2_with fail
        go_meet
        case rel => exact ⟨congrArg Value.bool (by unfold bad5; rw [HIT.out, HRV.out, HIH.out, HTX.out]; rfl), X.out, Y.out, B.out⟩
      have htx2 : (ob.tx.toList == []) = false := by rw [← htx]; cases ob.tx.toList <;> rfl
      have HTX := hidB htx
      by_cases h3 : ob.kd = 3
      · rw [h3] at x0
        have H3 := hidB h3
        clear h3
        go_wp2_with fail
        go_meet
        case rel => exact ⟨congrArg Value.bool (by unfold bad5; rw [HIT.out, HRV.out, HIH.out, HTX.out, H3.out]; rfl), X.out, Y.out, B.out⟩
      · have H3 := hidB (show (ob.kd == 3) = false by rw [beq_eq_false_iff_ne]; exact h3)
        have h3b : (ob.kd != 3) = true := by rw [bne_iff_ne]; exact h3
        go_wp2_with fail
        go_meet
        case rel => exact ⟨congrArg Value.bool (by unfold bad5; rw [HIT.out, HRV.out, HIH.out, HTX.out, H3.out]; rfl), X.out, Y.out, B.out⟩
    · skip
      go_wp2_with (first | ((with_reducible refine ldId 29 (.tmp 62) ?_); refine wpList_wload_mid 29 (.tmp 62) (by rfl) (by rfl) (g5) 11 (by rfl) (ob.hd.cells) _ (by exact Bk.mid X.out 11 _ rfl) Tryz.underlying29 (by rfl) (by kernel_rfl) ?_))
      refine (is_any ob.hd HOB.out.1.2.2.2 0 _).mono ?_; rintro e w6 ⟨rfl, hb⟩
      replace X := hidB (X.out.on hb)
      replace Y := hidB (Y.out.on hb)
      replace B := hidB (B.out.trans (hb.mono B.out.size))
      clear hb
      cases hih : isV ob.hd 0
      · have HIH := hidB hih
        clear hih
        go_wp2_with fail
        go_meet
        case rel => exact ⟨congrArg Value.bool (by unfold bad5; rw [HIT.out, HRV.out, HIH.out]; rfl), X.out, Y.out, B.out⟩
      have HIH := hidB hih
      clear hih
      have x15 : w6.cell? ⟨g5, 15, none⟩ = some (.string ob.tx) := X.out.cell 15
      have x0 : w6.cell? ⟨g5, 0, none⟩ = some (.int .u8 ob.kd) := X.out.cell 0
      cases htx : ob.tx.toList.isEmpty
      rotate_left
      · have htx2 : (ob.tx.toList == []) = true := by rw [← htx]; cases ob.tx.toList <;> rfl
        have HTX := hidB htx
        go_wp2_with fail
        go_meet
        case rel => exact ⟨congrArg Value.bool (by unfold bad5; rw [HIT.out, HRV.out, HIH.out, HTX.out]; rfl), X.out, Y.out, B.out⟩
      have htx2 : (ob.tx.toList == []) = false := by rw [← htx]; cases ob.tx.toList <;> rfl
      have HTX := hidB htx
      by_cases h3 : ob.kd = 3
      · rw [h3] at x0
        have H3 := hidB h3
        clear h3
        go_wp2_with fail
        go_meet
        case rel => exact ⟨congrArg Value.bool (by unfold bad5; rw [HIT.out, HRV.out, HIH.out, HTX.out, H3.out]; rfl), X.out, Y.out, B.out⟩
      · have H3 := hidB (show (ob.kd == 3) = false by rw [beq_eq_false_iff_ne]; exact h3)
        have h3b : (ob.kd != 3) = true := by rw [bne_iff_ne]; exact h3
        go_wp2_with fail
        go_meet
        case rel => exact ⟨congrArg Value.bool (by unfold bad5; rw [HIT.out, HRV.out, HIH.out, HTX.out, H3.out]; rfl), X.out, Y.out, B.out⟩
    · skip
      go_wp2_with (first | ((with_reducible refine ldId 29 (.tmp 62) ?_); refine wpList_wload_mid 29 (.tmp 62) (by rfl) (by rfl) (g5) 11 (by rfl) (ob.hd.cells) _ (by exact Bk.mid X.out 11 _ rfl) Tryz.underlying29 (by rfl) (by kernel_rfl) ?_))
      refine (is_any ob.hd HOB.out.1.2.2.2 0 _).mono ?_; rintro e w6 ⟨rfl, hb⟩
      replace X := hidB (X.out.on hb)
      replace Y := hidB (Y.out.on hb)
      replace B := hidB (B.out.trans (hb.mono B.out.size))
      clear hb
      cases hih : isV ob.hd 0
      · have HIH := hidB hih
        clear hih
        go_wp2_with fail
        go_meet
        case rel => exact ⟨congrArg Value.bool (by unfold bad5; rw [HIT.out, HRV.out, HIH.out]; rfl), X.out, Y.out, B.out⟩
      have HIH := hidB hih
      clear hih
      have x15 : w6.cell? ⟨g5, 15, none⟩ = some (.string ob.tx) := X.out.cell 15
      have x0 : w6.cell? ⟨g5, 0, none⟩ = some (.int .u8 ob.kd) := X.out.cell 0
      cases htx : ob.tx.toList.isEmpty
      rotate_left
      · have htx2 : (ob.tx.toList == []) = true := by rw [← htx]; cases ob.tx.toList <;> rfl
        have HTX := hidB htx
        go_wp2_with fail
        go_meet
        case rel => exact ⟨congrArg Value.bool (by unfold bad5; rw [HIT.out, HRV.out, HIH.out, HTX.out]; rfl), X.out, Y.out, B.out⟩
      have htx2 : (ob.tx.toList == []) = false := by rw [← htx]; cases ob.tx.toList <;> rfl
      have HTX := hidB htx
      by_cases h3 : ob.kd = 3
      · rw [h3] at x0
        have H3 := hidB h3
        clear h3
        go_wp2_with fail
        go_meet
        case rel => exact ⟨congrArg Value.bool (by unfold bad5; rw [HIT.out, HRV.out, HIH.out, HTX.out, H3.out]; rfl), X.out, Y.out, B.out⟩
      · have H3 := hidB (show (ob.kd == 3) = false by rw [beq_eq_false_iff_ne]; exact h3)
        have h3b : (ob.kd != 3) = true := by rw [bne_iff_ne]; exact h3
        go_wp2_with fail
        go_meet
        case rel => exact ⟨congrArg Value.bool (by unfold bad5; rw [HIT.out, HRV.out, HIH.out, HTX.out, H3.out]; rfl), X.out, Y.out, B.out⟩
  case rest =>
  obtain ⟨rfl, hX, hY, hb⟩ := hcut
  replace X := hidB hX
  replace Y := hidB hY
  replace B := hidB hb
  clear hX hY hb HRV
  cases hb5 : bad5 h n ob
  rotate_left
  · have HB5 := hidB hb5
    clear hb5
    go_wp2_with fail
    go_ret
    exact ⟨ret_bool (by first | (unfold plainB; rw [HB5.out]; rfl) | (rw [if_neg H6.out]; (unfold plainB; rw [HB5.out]; rfl))), B.out⟩
  have HB5 := hidB hb5
  clear hb5
  go_upto_region 7 with fail
  go_cut [99] from 77 to 99 (fun s99 wx => s99 = .bool (bad7 h ob l) ∧ Bk wx g5 42 ob.cs ∧ Bk wx w.heap.size 24 #[(.slice (some ⟨g, o, none⟩) h.length c)] ∧ Below w.heap.size w wx)
  case first => as_aux_lemma =>
    by_cases hp1 : ob.pr.k = 1
    · have x1 : wc.cell? ⟨g5, 1, none⟩ = some (.int .u8 1) := by rw [← hp1]; exact X.out.cell 1
      have HP1 := hidB (show (ob.pr.k == 1) = true by rw [beq_iff_eq]; exact hp1)
      clear hp1
      go_wp2_with (first | ((with_reducible refine ldId 24 (.tmp 2) ?_); refine wpList_wload_mid 24 (.tmp 2) (by rfl) (by rfl) (w.heap.size) 0 (by rfl) ([(.slice (some ⟨g, o, none⟩) h.length c)]) _ (by exact Bk.mid Y.out 0 _ rfl) Tryz.underlying24 (by rfl) (by kernel_rfl) ?_) | ((with_reducible refine ldId 29 (.tmp 89) ?_); refine wpList_wload_mid 29 (.tmp 89) (by rfl) (by rfl) (g5) 1 (by rfl) (ob.pr.cells) _ (by exact Bk.mid X.out 1 _ rfl) Tryz.underlying29 (by rfl) (by kernel_rfl) ?_))
      refine (INN.out ob.pr HOB.out.1.2.1 _ B.out).mono ?_; rintro e w8 ⟨rfl, hb⟩
      replace X := hidB (X.out.on hb)
      replace Y := hidB (Y.out.on hb)
      replace B := hidB (B.out.trans (hb.mono B.out.size))
      clear hb
      cases hip : inB h ob.pr
      · have HIP := hidB hip
        clear hip
        go_wp2_with fail
        go_meet
        case rel => exact ⟨congrArg Value.bool (by unfold bad7; rw [HP1.out, HIP.out]; rfl), X.out, Y.out, B.out⟩
      have HIP := hidB hip
      clear hip
      have x6 : w8.cell? ⟨g5, 6, none⟩ = some ob.props := X.out.cell 6
      go_wp2_with fail
      refine (tabCheck_any l HOB.out.2 ob.props _ (HRP.out.on B.out)).mono ?_; rintro e w9 ⟨rfl, hb⟩
      replace X := hidB (X.out.on hb)
      replace Y := hidB (Y.out.on hb)
      replace B := hidB (B.out.trans (hb.mono B.out.size))
      clear hb
      clear x6
      have HTE : Hid (tabE l = tabE l) := hidB rfl
      generalize hte : tabE l = te at *
      by_cases ht : te = 0
      · have HT0 := hidB (hte.trans ht)
        subst ht
        clear hte HTE
        go_wp2_with fail
        go_meet
        case rel => exact ⟨congrArg Value.bool (by unfold bad7; rw [HP1.out, HIP.out, HT0.out]; rfl), X.out, Y.out, B.out⟩
      · have ht1 : (te != 0) = true := by rw [bne_iff_ne]; exact ht
        have HT0 := hidB (show (tabE l == 0) = false by rw [hte, beq_eq_false_iff_ne]; exact ht)
        clear hte HTE
        go_wp2_with fail
        go_meet
        case rel => exact ⟨congrArg Value.bool (by unfold bad7; rw [HP1.out, HIP.out, HT0.out]; rfl), X.out, Y.out, B.out⟩
    have x1 : wc.cell? ⟨g5, 1, none⟩ = some (.int .u8 ob.pr.k) := X.out.cell 1
    have HP1 := hidB (show (ob.pr.k == 1) = false by rw [beq_eq_false_iff_ne]; exact hp1)
    have hp2 : (ob.pr.k != 1) = true := by rw [bne_iff_ne]; exact hp1
    go_wp2_with (first | ((with_reducible refine ldId 29 (.tmp 82) ?_); refine wpList_wload_mid 29 (.tmp 82) (by rfl) (by rfl) (g5) 1 (by rfl) (ob.pr.cells) _ (by exact Bk.mid X.out 1 _ rfl) Tryz.underlying29 (by rfl) (by kernel_rfl) ?_))
    refine (isObj_any ob.pr.k ob.pr.x ob.pr.s ob.pr.r _).mono ?_; rintro e w7 ⟨rfl, hb1⟩
    have hb := hb1 ▸ box_one _ (.cells ob.pr.cells.toArray 29)
    clear hb1
    replace X := hidB (X.out.on hb)
    replace Y := hidB (Y.out.on hb)
    replace B := hidB (B.out.trans (hb.mono B.out.size))
    clear hb
    cases hio : isObj ob.pr.k
    · have HIO := hidB hio
      clear hio
      go_wp2_with fail
      go_meet
      case rel => exact ⟨congrArg Value.bool (by unfold bad7; rw [HP1.out, HIO.out]; rfl), X.out, Y.out, B.out⟩
    have HIO := hidB hio
    clear hio x1 hp1 hp2
    go_wp2_with (first | ((with_reducible refine ldId 24 (.tmp 2) ?_); refine wpList_wload_mid 24 (.tmp 2) (by rfl) (by rfl) (w.heap.size) 0 (by rfl) ([(.slice (some ⟨g, o, none⟩) h.length c)]) _ (by exact Bk.mid Y.out 0 _ rfl) Tryz.underlying24 (by rfl) (by kernel_rfl) ?_) | ((with_reducible refine ldId 29 (.tmp 89) ?_); refine wpList_wload_mid 29 (.tmp 89) (by rfl) (by rfl) (g5) 1 (by rfl) (ob.pr.cells) _ (by exact Bk.mid X.out 1 _ rfl) Tryz.underlying29 (by rfl) (by kernel_rfl) ?_))
    refine (INN.out ob.pr HOB.out.1.2.1 _ B.out).mono ?_; rintro e w8 ⟨rfl, hb⟩
    replace X := hidB (X.out.on hb)
    replace Y := hidB (Y.out.on hb)
    replace B := hidB (B.out.trans (hb.mono B.out.size))
    clear hb
    cases hip : inB h ob.pr
    · have HIP := hidB hip
      clear hip
      go_wp2_with fail
      go_meet
      case rel => exact ⟨congrArg Value.bool (by unfold bad7; rw [HP1.out, HIO.out, HIP.out]; rfl), X.out, Y.out, B.out⟩
    have HIP := hidB hip
    clear hip
    have x6 : w8.cell? ⟨g5, 6, none⟩ = some ob.props := X.out.cell 6
    go_wp2_with fail
    refine (tabCheck_any l HOB.out.2 ob.props _ (HRP.out.on B.out)).mono ?_; rintro e w9 ⟨rfl, hb⟩
    replace X := hidB (X.out.on hb)
    replace Y := hidB (Y.out.on hb)
    replace B := hidB (B.out.trans (hb.mono B.out.size))
    clear hb
    clear x6
    have HTE : Hid (tabE l = tabE l) := hidB rfl
    generalize hte : tabE l = te at *
    by_cases ht : te = 0
    · have HT0 := hidB (hte.trans ht)
      subst ht
      clear hte HTE
      go_wp2_with fail
      go_meet
      case rel => exact ⟨congrArg Value.bool (by unfold bad7; rw [HP1.out, HIO.out, HIP.out, HT0.out]; rfl), X.out, Y.out, B.out⟩
    · have ht1 : (te != 0) = true := by rw [bne_iff_ne]; exact ht
      have HT0 := hidB (show (tabE l == 0) = false by rw [hte, beq_eq_false_iff_ne]; exact ht)
      clear hte HTE
      go_wp2_with fail
      go_meet
      case rel => exact ⟨congrArg Value.bool (by unfold bad7; rw [HP1.out, HIO.out, HIP.out, HT0.out]; rfl), X.out, Y.out, B.out⟩
  case rest =>
  obtain ⟨rfl, hX, hY, hb⟩ := hcut
  replace X := hidB hX
  replace Y := hidB hY
  replace B := hidB hb
  clear hX hY hb
  cases hb7 : bad7 h ob l
  rotate_left
  · have HB7 := hidB hb7
    clear hb7
    go_wp2_with fail
    go_ret
    exact ⟨ret_bool (by first | (unfold plainB; rw [HB5.out, HB7.out]; rfl) | (rw [if_neg H6.out]; (unfold plainB; rw [HB5.out, HB7.out]; rfl))), B.out⟩
  have HB7 := hidB hb7
  clear hb7
  have HRP2 : RdP l ob.props w := HRP.out
  obtain ⟨pa2, c2, hpp, hl1, hl2, hl3⟩ := HRP2
  unfold maxLen at hl2
  have hlm2 : l.length ≤ 9223372036854775807 := by omega
  have HL3 := hidB hl3
  have HPP := hidB hpp
  clear hl3
  have x6 : wc.cell? ⟨g5, 6, none⟩ = some (.slice pa2 l.length c2) := (X.out.cell 6).trans (congrArg some hpp)
  clear hpp
  go_wp2_with fail
  clear x6
  go_loopw [103] (fun s103 wr => ∃ i : Nat, i ≤ l.length ∧ s103 = .int .i64 i ∧ (l.take i).all (propB h) = true ∧ Bk wr g5 42 ob.cs ∧ Bk wr w.heap.size 24 #[(.slice (some ⟨g, o, none⟩) h.length c)] ∧ Below w.heap.size w wr) (fun i _ => l.length - (intOf i).toNat)
  case atStart => exact ⟨0, by omega, rfl, rfl, X.out, Y.out, B.out⟩
  case round =>
    obtain ⟨i, hi, rfl, hall, hX, hY, hb⟩ := hrel
    replace X := hidB hX
    replace Y := hidB hY
    replace B := hidB hb
    have HALL := hidB hall
    clear hX hY hb hall
    have hx8 : (0 : Int) ≤ (i : Int) := by omega
    by_cases hlt : i < l.length
    · have hx9 : (i : Int) < (l.length : Int) := by omega
      obtain ⟨g2, o2, rfl, hg2, hcell2⟩ := HL3.out (by omega)
      have HR2 := hidB (rangeOn B.out hg2 (hcell2 i hlt))
      have HQ := hidB (HOB.out.2 l[i] (List.getElem_mem hlt))
      have HSN := hidB (show (l.take (i + 1)).all (propB h) = propB h (l[i]'hlt) by rw [List.take_succ_eq_append_getElem hlt, List.all_append, HALL.out]; simp)
      have HNA := hidB (show propB h (l[i]'hlt) = false → l.all (propB h) = false from fun hf => by rw [Bool.eq_false_iff]; intro hh; have := List.all_eq_true.1 hh _ (List.getElem_mem hlt); rw [hf] at this; cases this)
      clear hcell2 hg2
      generalize (l[i]'hlt) = q0 at *
      have PX := hidB (show Bk (wr.alloc (.cells q0.cs 91)) wr.heap.size 91 q0.cs from Bk.new wr _ _)
      replace X := hidB (show Bk (wr.alloc (.cells q0.cs 91)) g5 42 ob.cs from X.out.alloc _)
      replace Y := hidB (show Bk (wr.alloc (.cells q0.cs 91)) w.heap.size 24 #[(.slice (some ⟨g, o, none⟩) h.length c)] from Y.out.alloc _)
      have hsz := hidB B.out.size
      replace B := hidB (show Below w.heap.size w (wr.alloc (.cells q0.cs 91)) from B.out.alloc B.out.size _)
      go_upto_region 12 with (first | ((with_reducible refine ldId 91 (.tmp 105) ?_); refine wpList_load_mid (by rfl) 91 (.tmp 105) (by rfl) g2 (o2 + i * 18) (by rfl) q0.cs.toList _ (by exact HR2.out) Tryz.underlying91 (by rfl) (by kernel_rfl) ?_) | ((with_reducible refine wpId ?_); refine wpList_store_new (by rfl) 91 (.tmp 8) (.tmp 106) (by rfl) q0.cs 91 _ (by rfl) (by rfl) (by kernel_rfl) (by rfl) (by exact PI.one _) ?_))
      clear HR2
      generalize hW : (wr.alloc (.cells q0.cs 91)) = w10 at *
      clear hW
      generalize hG : wr.heap.size = gp at *
      clear hG
      go_wp2_with (first | ((with_reducible refine ldId 24 (.tmp 2) ?_); refine wpList_load_row (by rfl) 24 (.tmp 2) (by rfl) (w.heap.size) (by rfl) 24 (#[(.slice (some ⟨g, o, none⟩) h.length c)]) (0, 0) _ (by exact Y.out) Tryz.underlying24 (by rfl) (by kernel_rfl) ?_) | ((with_reducible refine ldId 29 (.tmp 109) ?_); refine wpList_load_mid (by rfl) 29 (.tmp 109) (by rfl) (gp) 3 (by rfl) (q0.d.v.cells) _ (by exact Bk.mid PX.out 3 _ rfl) Tryz.underlying29 (by rfl) (by kernel_rfl) ?_))
      refine (INN.out q0.d.v HQ.out.1 _ B.out).mono ?_; rintro e w11 ⟨rfl, hb⟩
      replace PX := hidB (PX.out.on hb)
      replace X := hidB (X.out.on hb)
      replace Y := hidB (Y.out.on hb)
      replace B := hidB (B.out.trans (hb.mono B.out.size))
      clear hb
      cases hiv : inB h q0.d.v
      · have HIV := hidB hiv
        clear hiv
        have HPB := hidB (HNA.out (by unfold propB; rw [HIV.out]; rfl))
        go_wp2_with fail
        go_ret
        exact ⟨ret_bool (by first | (unfold plainB; rw [HB5.out, HB7.out, HPB.out]; rfl) | (rw [if_neg H6.out]; (unfold plainB; rw [HB5.out, HB7.out, HPB.out]; rfl))), B.out⟩
      have HIV := hidB hiv
      clear hiv
      go_wp2_with (first | ((with_reducible refine ldId 24 (.tmp 2) ?_); refine wpList_wload_mid 24 (.tmp 2) (by rfl) (by rfl) (w.heap.size) 0 (by rfl) ([(.slice (some ⟨g, o, none⟩) h.length c)]) _ (by exact Bk.mid Y.out 0 _ rfl) Tryz.underlying24 (by rfl) (by kernel_rfl) ?_) | ((with_reducible refine ldId 29 (.tmp 116) ?_); refine wpList_wload_mid 29 (.tmp 116) (by rfl) (by rfl) (gp) 7 (by rfl) (q0.d.g.cells) _ (by exact Bk.mid PX.out 7 _ rfl) Tryz.underlying29 (by rfl) (by kernel_rfl) ?_))
      refine (INN.out q0.d.g HQ.out.2.1 _ B.out).mono ?_; rintro e w12 ⟨rfl, hb⟩
      replace PX := hidB (PX.out.on hb)
      replace X := hidB (X.out.on hb)
      replace Y := hidB (Y.out.on hb)
      replace B := hidB (B.out.trans (hb.mono B.out.size))
      clear hb
      cases hig : inB h q0.d.g
      · have HIG := hidB hig
        clear hig
        have HPB := hidB (HNA.out (by unfold propB; rw [HIV.out, HIG.out]; rfl))
        go_wp2_with fail
        go_ret
        exact ⟨ret_bool (by first | (unfold plainB; rw [HB5.out, HB7.out, HPB.out]; rfl) | (rw [if_neg H6.out]; (unfold plainB; rw [HB5.out, HB7.out, HPB.out]; rfl))), B.out⟩
      have HIG := hidB hig
      clear hig
      go_wp2_with (first | ((with_reducible refine ldId 24 (.tmp 2) ?_); refine wpList_wload_mid 24 (.tmp 2) (by rfl) (by rfl) (w.heap.size) 0 (by rfl) ([(.slice (some ⟨g, o, none⟩) h.length c)]) _ (by exact Bk.mid Y.out 0 _ rfl) Tryz.underlying24 (by rfl) (by kernel_rfl) ?_) | ((with_reducible refine ldId 29 (.tmp 124) ?_); refine wpList_wload_mid 29 (.tmp 124) (by rfl) (by rfl) (gp) 11 (by rfl) (q0.d.t.cells) _ (by exact Bk.mid PX.out 11 _ rfl) Tryz.underlying29 (by rfl) (by kernel_rfl) ?_))
      refine (INN.out q0.d.t HQ.out.2.2 _ B.out).mono ?_; rintro e w13 ⟨rfl, hb⟩
      replace PX := hidB (PX.out.on hb)
      replace X := hidB (X.out.on hb)
      replace Y := hidB (Y.out.on hb)
      replace B := hidB (B.out.trans (hb.mono B.out.size))
      clear hb
      cases hit : inB h q0.d.t
      · have HIT := hidB hit
        clear hit
        have HPB := hidB (HNA.out (by unfold propB; rw [HIV.out, HIG.out, HIT.out]; rfl))
        go_wp2_with fail
        go_ret
        exact ⟨ret_bool (by first | (unfold plainB; rw [HB5.out, HB7.out, HPB.out]; rfl) | (rw [if_neg H6.out]; (unfold plainB; rw [HB5.out, HB7.out, HPB.out]; rfl))), B.out⟩
      have HIT := hidB hit
      clear hit
      have HSN2 := hidB (show (l.take (i + 1)).all (propB h) = true by rw [HSN.out]; unfold propB; rw [HIV.out, HIG.out, HIT.out]; rfl)
      go_wp2_with fail
      go_roundw
      case rel => exact ⟨i + 1, by omega, by go_num, HSN2.out, X.out, Y.out, B.out⟩
      case measure => simp [intOf]; omega
    · obtain rfl : i = l.length := by omega
      have hx9 : ¬ ((l.length : Int) < (l.length : Int)) := by omega
      have HALLE := hidB (show l.all (propB h) = true by have := HALL.out; rwa [List.take_length] at this)
      clear HALL hi hlt
      skip
      have x0 : wr.cell? ⟨g5, 0, none⟩ = some (.int .u8 ob.kd) := X.out.cell 0
      have x16 : wr.cell? ⟨g5, 16, none⟩ = some (.bool ob.ca) := X.out.cell 16
      have x17 : wr.cell? ⟨g5, 17, none⟩ = some (.bool ob.ma) := X.out.cell 17
      have x6 : wr.cell? ⟨g5, 6, none⟩ = some ob.props := X.out.cell 6
      have x15 : wr.cell? ⟨g5, 15, none⟩ = some (.string ob.tx) := X.out.cell 15
      by_cases hkd : ob.kd = 1
      · skip
        rw [hkd] at x0
        cases hca : ob.ca
        · rw [hca] at x16
          cases hma : ob.ma
          · rw [hma] at x17
            have HKD := hidB (show kindB arrB boxB ob l = true by unfold kindB; simp [hkd, hca, hma])
            clear hkd hca hma
            go_wp2_with fail
            go_ret
            exact ⟨ret_bool (by first | (unfold plainB; rw [HB5.out, HB7.out, HALLE.out, HKD.out]; rfl) | (rw [if_neg H6.out]; (unfold plainB; rw [HB5.out, HB7.out, HALLE.out, HKD.out]; rfl))), B.out⟩
          · rw [hma] at x17
            have HKD := hidB (show kindB arrB boxB ob l = false by unfold kindB; simp [hkd, hca, hma])
            clear hkd hca hma
            go_wp2_with fail
            go_ret
            exact ⟨ret_bool (by first | (unfold plainB; rw [HB5.out, HB7.out, HALLE.out, HKD.out]; rfl) | (rw [if_neg H6.out]; (unfold plainB; rw [HB5.out, HB7.out, HALLE.out, HKD.out]; rfl))), B.out⟩
        · rw [hca] at x16
          cases hma : ob.ma
          · rw [hma] at x17
            have HKD := hidB (show kindB arrB boxB ob l = false by unfold kindB; simp [hkd, hca, hma])
            clear hkd hca hma
            go_wp2_with fail
            go_ret
            exact ⟨ret_bool (by first | (unfold plainB; rw [HB5.out, HB7.out, HALLE.out, HKD.out]; rfl) | (rw [if_neg H6.out]; (unfold plainB; rw [HB5.out, HB7.out, HALLE.out, HKD.out]; rfl))), B.out⟩
          · rw [hma] at x17
            have HKD := hidB (show kindB arrB boxB ob l = false by unfold kindB; simp [hkd, hca, hma])
            clear hkd hca hma
            go_wp2_with fail
            go_ret
            exact ⟨ret_bool (by first | (unfold plainB; rw [HB5.out, HB7.out, HALLE.out, HKD.out]; rfl) | (rw [if_neg H6.out]; (unfold plainB; rw [HB5.out, HB7.out, HALLE.out, HKD.out]; rfl))), B.out⟩
      have hk1 : (ob.kd == 1) = false := by rw [beq_eq_false_iff_ne]; exact hkd
      rename ¬ ob.kd = 1 => hn1
      by_cases hkd : ob.kd = 2
      · skip
        rw [hkd] at x0
        cases hca : ob.ca
        · rw [hca] at x16
          cases hma : ob.ma
          · rw [hma] at x17
            have PC := hidB (HA.out hkd)
            have HKD := hidB (show kindB arrB boxB ob l = arrB l by unfold kindB; simp [hkd, hca, hma])
            clear hkd hca hma
            go_wp2_with fail
            refine (PC.out _ B.out).mono ?_; rintro e wz ⟨rfl, hb⟩
            replace X := hidB (X.out.on hb)
            replace Y := hidB (Y.out.on hb)
            replace B := hidB (B.out.trans (hb.mono B.out.size))
            clear hb
            generalize hgz : arrB l = bz at *
            clear hgz x0 x16 x17 x6 x15
            go_wp2_with fail
            go_ret
            exact ⟨ret_bool (by first | (unfold plainB; rw [HB5.out, HB7.out, HALLE.out, HKD.out]; rfl) | (rw [if_neg H6.out]; (unfold plainB; rw [HB5.out, HB7.out, HALLE.out, HKD.out]; rfl))), B.out⟩
          · rw [hma] at x17
            have HKD := hidB (show kindB arrB boxB ob l = false by unfold kindB; simp [hkd, hca, hma])
            clear hkd hca hma
            go_wp2_with fail
            go_ret
            exact ⟨ret_bool (by first | (unfold plainB; rw [HB5.out, HB7.out, HALLE.out, HKD.out]; rfl) | (rw [if_neg H6.out]; (unfold plainB; rw [HB5.out, HB7.out, HALLE.out, HKD.out]; rfl))), B.out⟩
        · rw [hca] at x16
          cases hma : ob.ma
          · rw [hma] at x17
            have HKD := hidB (show kindB arrB boxB ob l = false by unfold kindB; simp [hkd, hca, hma])
            clear hkd hca hma
            go_wp2_with fail
            go_ret
            exact ⟨ret_bool (by first | (unfold plainB; rw [HB5.out, HB7.out, HALLE.out, HKD.out]; rfl) | (rw [if_neg H6.out]; (unfold plainB; rw [HB5.out, HB7.out, HALLE.out, HKD.out]; rfl))), B.out⟩
          · rw [hma] at x17
            have HKD := hidB (show kindB arrB boxB ob l = false by unfold kindB; simp [hkd, hca, hma])
            clear hkd hca hma
            go_wp2_with fail
            go_ret
            exact ⟨ret_bool (by first | (unfold plainB; rw [HB5.out, HB7.out, HALLE.out, HKD.out]; rfl) | (rw [if_neg H6.out]; (unfold plainB; rw [HB5.out, HB7.out, HALLE.out, HKD.out]; rfl))), B.out⟩
      have hk2 : (ob.kd == 2) = false := by rw [beq_eq_false_iff_ne]; exact hkd
      rename ¬ ob.kd = 2 => hn2
      by_cases hkd : ob.kd = 3
      · skip
        rw [hkd] at x0
        cases hca : ob.ca
        · rw [hca] at x16
          cases hma : ob.ma
          · rw [hma] at x17
            have PC := hidB (HB.out hkd)
            have HKD := hidB (show kindB arrB boxB ob l = boxB l ob.tx by unfold kindB; simp [hkd, hca, hma])
            clear hkd hca hma
            go_wp2_with fail
            refine (PC.out _ B.out).mono ?_; rintro e wz ⟨rfl, hb⟩
            replace X := hidB (X.out.on hb)
            replace Y := hidB (Y.out.on hb)
            replace B := hidB (B.out.trans (hb.mono B.out.size))
            clear hb
            generalize hgz : boxB l ob.tx = bz at *
            clear hgz x0 x16 x17 x6 x15
            go_wp2_with fail
            go_ret
            exact ⟨ret_bool (by first | (unfold plainB; rw [HB5.out, HB7.out, HALLE.out, HKD.out]; rfl) | (rw [if_neg H6.out]; (unfold plainB; rw [HB5.out, HB7.out, HALLE.out, HKD.out]; rfl))), B.out⟩
          · rw [hma] at x17
            have HKD := hidB (show kindB arrB boxB ob l = false by unfold kindB; simp [hkd, hca, hma])
            clear hkd hca hma
            go_wp2_with fail
            go_ret
            exact ⟨ret_bool (by first | (unfold plainB; rw [HB5.out, HB7.out, HALLE.out, HKD.out]; rfl) | (rw [if_neg H6.out]; (unfold plainB; rw [HB5.out, HB7.out, HALLE.out, HKD.out]; rfl))), B.out⟩
        · rw [hca] at x16
          cases hma : ob.ma
          · rw [hma] at x17
            have HKD := hidB (show kindB arrB boxB ob l = false by unfold kindB; simp [hkd, hca, hma])
            clear hkd hca hma
            go_wp2_with fail
            go_ret
            exact ⟨ret_bool (by first | (unfold plainB; rw [HB5.out, HB7.out, HALLE.out, HKD.out]; rfl) | (rw [if_neg H6.out]; (unfold plainB; rw [HB5.out, HB7.out, HALLE.out, HKD.out]; rfl))), B.out⟩
          · rw [hma] at x17
            have HKD := hidB (show kindB arrB boxB ob l = false by unfold kindB; simp [hkd, hca, hma])
            clear hkd hca hma
            go_wp2_with fail
            go_ret
            exact ⟨ret_bool (by first | (unfold plainB; rw [HB5.out, HB7.out, HALLE.out, HKD.out]; rfl) | (rw [if_neg H6.out]; (unfold plainB; rw [HB5.out, HB7.out, HALLE.out, HKD.out]; rfl))), B.out⟩
      have hk3 : (ob.kd == 3) = false := by rw [beq_eq_false_iff_ne]; exact hkd
      rename ¬ ob.kd = 3 => hn3
      by_cases hkd : ob.kd = 4
      · skip
        rw [hkd] at x0
        cases hca : ob.ca
        · rw [hca] at x16
          cases hma : ob.ma
          · rw [hma] at x17
            have HKD := hidB (show kindB arrB boxB ob l = false by unfold kindB; simp [hkd, hca, hma])
            clear hkd hca hma
            go_wp2_with fail
            go_ret
            exact ⟨ret_bool (by first | (unfold plainB; rw [HB5.out, HB7.out, HALLE.out, HKD.out]; rfl) | (rw [if_neg H6.out]; (unfold plainB; rw [HB5.out, HB7.out, HALLE.out, HKD.out]; rfl))), B.out⟩
          · rw [hma] at x17
            have HKD := hidB (show kindB arrB boxB ob l = false by unfold kindB; simp [hkd, hca, hma])
            clear hkd hca hma
            go_wp2_with fail
            go_ret
            exact ⟨ret_bool (by first | (unfold plainB; rw [HB5.out, HB7.out, HALLE.out, HKD.out]; rfl) | (rw [if_neg H6.out]; (unfold plainB; rw [HB5.out, HB7.out, HALLE.out, HKD.out]; rfl))), B.out⟩
        · rw [hca] at x16
          cases hma : ob.ma
          · rw [hma] at x17
            have HKD := hidB (show kindB arrB boxB ob l = false by unfold kindB; simp [hkd, hca, hma])
            clear hkd hca hma
            go_wp2_with fail
            go_ret
            exact ⟨ret_bool (by first | (unfold plainB; rw [HB5.out, HB7.out, HALLE.out, HKD.out]; rfl) | (rw [if_neg H6.out]; (unfold plainB; rw [HB5.out, HB7.out, HALLE.out, HKD.out]; rfl))), B.out⟩
          · rw [hma] at x17
            have HKD := hidB (show kindB arrB boxB ob l = true by unfold kindB; simp [hkd, hca, hma])
            clear hkd hca hma
            go_wp2_with fail
            go_ret
            exact ⟨ret_bool (by first | (unfold plainB; rw [HB5.out, HB7.out, HALLE.out, HKD.out]; rfl) | (rw [if_neg H6.out]; (unfold plainB; rw [HB5.out, HB7.out, HALLE.out, HKD.out]; rfl))), B.out⟩
      have hk4 : (ob.kd == 4) = false := by rw [beq_eq_false_iff_ne]; exact hkd
      rename ¬ ob.kd = 4 => hn4
      by_cases hkd : ob.kd = 5
      · skip
        rw [hkd] at x0
        cases hca : ob.ca
        · rw [hca] at x16
          cases hma : ob.ma
          · rw [hma] at x17
            have HKD := hidB (show kindB arrB boxB ob l = false by unfold kindB; simp [hkd, hca, hma])
            clear hkd hca hma
            go_wp2_with fail
            go_ret
            exact ⟨ret_bool (by first | (unfold plainB; rw [HB5.out, HB7.out, HALLE.out, HKD.out]; rfl) | (rw [if_neg H6.out]; (unfold plainB; rw [HB5.out, HB7.out, HALLE.out, HKD.out]; rfl))), B.out⟩
          · rw [hma] at x17
            have HKD := hidB (show kindB arrB boxB ob l = false by unfold kindB; simp [hkd, hca, hma])
            clear hkd hca hma
            go_wp2_with fail
            go_ret
            exact ⟨ret_bool (by first | (unfold plainB; rw [HB5.out, HB7.out, HALLE.out, HKD.out]; rfl) | (rw [if_neg H6.out]; (unfold plainB; rw [HB5.out, HB7.out, HALLE.out, HKD.out]; rfl))), B.out⟩
        · rw [hca] at x16
          cases hma : ob.ma
          · rw [hma] at x17
            have HKD := hidB (show kindB arrB boxB ob l = true by unfold kindB; simp [hkd, hca, hma])
            clear hkd hca hma
            go_wp2_with fail
            go_ret
            exact ⟨ret_bool (by first | (unfold plainB; rw [HB5.out, HB7.out, HALLE.out, HKD.out]; rfl) | (rw [if_neg H6.out]; (unfold plainB; rw [HB5.out, HB7.out, HALLE.out, HKD.out]; rfl))), B.out⟩
          · rw [hma] at x17
            have HKD := hidB (show kindB arrB boxB ob l = true by unfold kindB; simp [hkd, hca, hma])
            clear hkd hca hma
            go_wp2_with fail
            go_ret
            exact ⟨ret_bool (by first | (unfold plainB; rw [HB5.out, HB7.out, HALLE.out, HKD.out]; rfl) | (rw [if_neg H6.out]; (unfold plainB; rw [HB5.out, HB7.out, HALLE.out, HKD.out]; rfl))), B.out⟩
      have hk5 : (ob.kd == 5) = false := by rw [beq_eq_false_iff_ne]; exact hkd
      rename ¬ ob.kd = 5 => hn5
      have HKD := hidB (show kindB arrB boxB ob l = false by unfold kindB; rw [if_neg hn1, if_neg hn2, if_neg hn3, if_neg hn4, if_neg hn5])
      clear hn1 hn2 hn3 hn4 hn5
      go_wp2_with fail
      go_ret
      exact ⟨ret_bool (by first | (unfold plainB; rw [HB5.out, HB7.out, HALLE.out, HKD.out]; rfl) | (rw [if_neg H6.out]; (unfold plainB; rw [HB5.out, HB7.out, HALLE.out, HKD.out]; rfl))), B.out⟩

end Go.Proofs.YtbmaodlghglopaaGreatDoor
