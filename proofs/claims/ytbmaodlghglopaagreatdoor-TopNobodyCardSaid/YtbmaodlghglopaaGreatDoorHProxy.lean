/-
  May a proxy be in a heap: the walk of heap.proxy.
-/
import Derived.Test.YtbmaodlghglopaaGreatDoorHIndex
namespace Go.Proofs.YtbmaodlghglopaaGreatDoor
open Go.RowKit

theorem run_buildSliceH {P : Program} (w : World) (t e : TypeId) (n size : Nat) (i : TypeInfo) (z : Value) (parts : Array (Nat × Value)) (cells : Array Value) (ht : P.underlying t = some (.slice e)) (hi : P.info? e = some i) (hz : i.zero = some z) (hs : i.size = size) (hn : ¬ n * size > 2 ^ 24) (h0 : n * size ≠ 0)
    (hf : Instr.fill (fun j => some (j * size, size)) ((Array.range (n * size)).map (z.cells[· % z.cells.size]!)) parts.toList = some cells) : (Instr.buildSlice t n parts).run P w = .ok (.slice (some ⟨w.heap.size, 0, none⟩) n n) (w.alloc (.cells cells e)) := by
  have hsz : (sizeOf e).run P w = .ok size w := by rw [run_sizeOf w hi, Program.cellsOf, hi]; simp [hs]
  have hzv : (zeroValue e).run P w = .ok z w := by simp [zeroValue, hi, hz, typeInfo]
  unfold Instr.buildSlice
  simp only [Sem.run_bind, run_underlying ht, Result.andThen_ok, hsz, Sem.run_ite, if_neg hn, if_neg h0, hzv, Sem.run_pure, hf]
  simp only [newRow, Sem.run_bind]
  rfl
theorem wp_buildSliceH {P : Program} {op : Oper} {a : Act} {w : World} {K : Act → World → Prop} {Q : Exit → Act → World → Prop} (t e : TypeId) (n size : Nat) (parts : Array (Nat × Operand)) (ho : op.op = .buildSlice t n parts) (vals : List (Nat × Value)) (hv : (parts.map fun (i, x) => (i, a.eval x)).toList = vals) (z : Value) (cells : Array Value) (ht : P.underlying t = some (.slice e)) (hi : (P.info? e).map (fun i => (i.zero, i.size)) = some (some z, size)) (hn : ¬ n * size > 2 ^ 24) (h0 : n * size ≠ 0)
    (hf : Instr.fill (fun j => some (j * size, size)) ((Array.range (n * size)).map (z.cells[· % z.cells.size]!)) vals = some cells) (h : K (a.put op.dst (.slice (some ⟨w.heap.size, 0, none⟩) n n)) (w.alloc (.cells cells e))) : op.wp P a w K Q := by
  obtain ⟨i, hi, he⟩ := Option.map_eq_some_iff.1 hi
  simp only [Prod.mk.injEq] at he
  unfold Oper.wp execOp
  simp only [ho, Sem.run_bind, run_buildSliceH w t e n size i z _ cells ht hi he.1 he.2 hn h0 (by rw [hv]; exact hf), Result.andThen_ok]
  exact h
theorem wpList_mkSliceH {P : Program} {ops : Array Oper} {rest : List Oper} {op : Oper} {a : Act} {w : World} {Q : Exit → Act → World → Prop} (hgd : op.guard = none) (t e : TypeId) (n size : Nat) (parts : Array (Nat × Operand)) (ho : op.op = .buildSlice t n parts) (vals : List (Nat × Value)) (hv : (parts.map fun (i, x) => (i, a.eval x)).toList = vals) (z : Value) (cells : Array Value) (ht : P.underlying t = some (.slice e)) (hi : (P.info? e).map (fun i => (i.zero, i.size)) = some (some z, size)) (hn : ¬ n * size > 2 ^ 24) (h0 : n * size ≠ 0)
    (hf : Instr.fill (fun j => some (j * size, size)) ((Array.range (n * size)).map (z.cells[· % z.cells.size]!)) vals = some cells) (h : wpList P ops Q rest (a.put op.dst (.slice (some ⟨w.heap.size, 0, none⟩) n n)) (w.alloc (.cells cells e))) : wpList P ops Q (op :: rest) a w :=
  wpList_plain hgd fun _ hK => wp_buildSliceH t e n size parts ho vals hv z cells ht hi hn h0 hf (hK _ _ h)
def refB (h : HI) (n : Nat) (v : VI) : Bool := isObj v.k && (inB h v && decide (v.r < (n : Int)))
def badX (o : OJ) (l : List PI) : Bool := decide (0 < l.length) || (o.ext || (!isV o.pr 1 || (!o.tx.toList.isEmpty || (o.ma && !o.ca))))
def prxB (h : HI) (n : Nat) (o : OJ) (l : List PI) : Bool := !badX o l && ((isV o.tg 1 && isV o.hd 1) || (refB h n o.tg && (refB h n o.hd && ((h[o.tg.r.toNat]?).map (fun e => e.1.ca == o.ca && e.1.ma == o.ma)).getD false)))

set_option maxHeartbeats 8000000 in
set_option maxRecDepth 100000 in
theorem proxy_any (h : HI) (hok : HOk h) (hv : Value) (n : Nat) (o : OJ) (l : List PI) (ho : o.ok) (w : World) (hr : RdH h hv w) (hp : RdP l o.props w) (hn : n ≤ h.length) : Calls Tryz.prog 66 #[.agg #[hv], o.a, .int .i64 n] w fun e w' => e = .returned (.bool (prxB h n o l)) ∧ Below w.heap.size w w' := by
  have HHR := hidB hr
  have HOK := hidB hok
  obtain ⟨pa2, c2, hpp, hl1, hl2, hl3⟩ := hp
  unfold maxLen at hl2
  have hlm2 : l.length ≤ 9223372036854775807 := by omega
  have HO := hidB ho
  clear hl3 hok ho
  have Y := hidB (show Bk ((w.alloc (.cells (#[hv]) 24)).alloc (.cells (o.cs) 42)) (w.heap.size) 24 (#[hv]) from (Bk.new w _ _).alloc _)
  have X := hidB (show Bk ((w.alloc (.cells (#[hv]) 24)).alloc (.cells (o.cs) 42)) (w.heap.size + 1) 42 (o.cs) from Bk.new2 w _ _ _)
  have B := hidB (show Below w.heap.size w ((w.alloc (.cells (#[hv]) 24)).alloc (.cells (o.cs) 42)) from (box_one w _).alloc (by simp) _)
  go_enter Tryz.func66, Tryz.ntmps66
  go_upto_region 1 with fail
  generalize hW : ((w.alloc (.cells (#[hv]) 24)).alloc (.cells (o.cs) 42)) = w1 at *
  clear hW
  generalize hgq : w.heap.size + 1 = gq at *
  clear hgq
  have HPP := hidB hpp
  go_cut [37] from 10 to 37 (fun s37 wx => s37 = .bool (badX o l) ∧ Bk wx gq 42 o.cs ∧ Bk wx w.heap.size 24 #[hv] ∧ Below w.heap.size w wx)
  case first => as_aux_lemma =>
    have x6 : w1.cell? ⟨gq, 6, none⟩ = some (.slice pa2 l.length c2) := (X.out.cell 6).trans (congrArg some HPP.out)
    have x5 : w1.cell? ⟨gq, 5, none⟩ = some (.bool o.ext) := X.out.cell 5
    clear hpp
    by_cases h0 : 0 < l.length
    · have H0 := hidB h0
      have h0i : (0 : Int) < (l.length : Int) := by omega
      go_wp2_with fail
      go_meet
      case rel => exact ⟨congrArg Value.bool (by unfold badX; simp [H0.out]), X.out, Y.out, B.out⟩
    have H0 := hidB h0
    have h0i : ¬ (0 : Int) < (l.length : Int) := by omega
    cases hx : o.ext
    rotate_left
    · rw [hx] at x5
      go_wp2_with fail
      go_meet
      case rel => exact ⟨congrArg Value.bool (by unfold badX; simp [hx]), X.out, Y.out, B.out⟩
    rw [hx] at x5
    have HX := hidB hx
    clear hx
    go_wp2_with (first | ((with_reducible refine ldId 29 (.tmp 19) ?_); refine wpList_wload_mid 29 (.tmp 19) (by rfl) (by rfl) (gq) 1 (by rfl) (o.pr.cells) _ (by exact Bk.mid X.out 1 _ rfl) Tryz.underlying29 (by rfl) (by kernel_rfl) ?_))
    refine (is_any o.pr HO.out.2.1 1 _).mono ?_; rintro e w2 ⟨rfl, hb⟩
    replace X := hidB (X.out.on hb)
    replace Y := hidB (Y.out.on hb)
    replace B := hidB (B.out.trans (hb.mono B.out.size))
    clear hb
    clear x5 x6
    cases hp : isV o.pr 1
    · have HP := hidB hp
      clear hp
      go_wp2_with fail
      go_meet
      case rel => exact ⟨congrArg Value.bool (by unfold badX; simp [HP.out]), X.out, Y.out, B.out⟩
    have HP := hidB hp
    clear hp
    have x15 : w2.cell? ⟨gq, 15, none⟩ = some (.string o.tx) := X.out.cell 15
    have x16 : w2.cell? ⟨gq, 16, none⟩ = some (.bool o.ca) := X.out.cell 16
    have x17 : w2.cell? ⟨gq, 17, none⟩ = some (.bool o.ma) := X.out.cell 17
    cases htx : o.tx.toList.isEmpty
    · have htx2 : (o.tx.toList == []) = false := by rw [← htx]; cases o.tx.toList <;> rfl
      have HT := hidB htx
      go_wp2_with fail
      go_meet
      case rel => exact ⟨congrArg Value.bool (by unfold badX; simp [HT.out]), X.out, Y.out, B.out⟩
    have htx2 : (o.tx.toList == []) = true := by rw [← htx]; cases o.tx.toList <;> rfl
    have HT := hidB htx
    clear htx
    cases hma : o.ma
    · rw [hma] at x17
      have HM := hidB hma
      go_wp2_with fail
      go_meet
      case rel => exact ⟨congrArg Value.bool (by unfold badX; simp [H0.out, HX.out, HP.out, HT.out, HM.out]), X.out, Y.out, B.out⟩
    rw [hma] at x17
    have HM := hidB hma
    cases hca : o.ca
    · rw [hca] at x16
      have HC := hidB hca
      go_wp2_with fail
      go_meet
      case rel => exact ⟨congrArg Value.bool (by unfold badX; simp [H0.out, HX.out, HP.out, HT.out, HM.out, HC.out]), X.out, Y.out, B.out⟩
    · rw [hca] at x16
      have HC := hidB hca
      go_wp2_with fail
      go_meet
      case rel => exact ⟨congrArg Value.bool (by unfold badX; simp [H0.out, HX.out, HP.out, HT.out, HM.out, HC.out]), X.out, Y.out, B.out⟩
  case rest =>
  obtain ⟨rfl, hX, hY, hb⟩ := hcut
  replace X := hidB hX
  replace Y := hidB hY
  replace B := hidB hb
  clear hX hY hb hpp
  cases hbx : badX o l
  rotate_left
  · have HB := hidB hbx
    clear hbx
    have HQ := hidB (show prxB h n o l = _ by unfold prxB; simp only [HB.out, Bool.not_true, Bool.not_false, Bool.true_and, Bool.false_and, Bool.and_false, Bool.or_true, Bool.true_or, Bool.false_or]; rfl)
    go_wp2_with fail
    go_ret
    exact ⟨ret_bool (by rw [HQ.out]), B.out⟩
  have HB := hidB hbx
  clear hbx
  go_upto_region 3 with fail
  go_cut [45] from 38 to 45 (fun s45 wx => s45 = .bool (isV o.tg 1 && isV o.hd 1) ∧ Bk wx gq 42 o.cs ∧ Bk wx w.heap.size 24 #[hv] ∧ Below w.heap.size w wx)
  case first => as_aux_lemma =>
    go_wp2_with (first | ((with_reducible refine ldId 29 (.tmp 38) ?_); refine wpList_load_mid (by rfl) 29 (.tmp 38) (by rfl) (gq) 7 (by rfl) (o.tg.cells) _ (by exact Bk.mid X.out 7 _ rfl) Tryz.underlying29 (by rfl) (by kernel_rfl) ?_))
    refine (is_any o.tg HO.out.2.2.1 1 _).mono ?_; rintro e w3 ⟨rfl, hb⟩
    replace X := hidB (X.out.on hb)
    replace Y := hidB (Y.out.on hb)
    replace B := hidB (B.out.trans (hb.mono B.out.size))
    clear hb
    cases ht : isV o.tg 1
    · have HT := hidB ht
      clear ht
      go_wp2_with fail
      go_meet
      case rel => exact ⟨congrArg Value.bool (by simp [HT.out]), X.out, Y.out, B.out⟩
    have HT := hidB ht
    clear ht
    go_wp2_with (first | ((with_reducible refine ldId 29 (.tmp 42) ?_); refine wpList_wload_mid 29 (.tmp 42) (by rfl) (by rfl) (gq) 11 (by rfl) (o.hd.cells) _ (by exact Bk.mid X.out 11 _ rfl) Tryz.underlying29 (by rfl) (by kernel_rfl) ?_))
    refine (is_any o.hd HO.out.2.2.2 1 _).mono ?_; rintro e w4 ⟨rfl, hb⟩
    replace X := hidB (X.out.on hb)
    replace Y := hidB (Y.out.on hb)
    replace B := hidB (B.out.trans (hb.mono B.out.size))
    clear hb
    cases ht : isV o.hd 1
    · have HT2 := hidB ht
      clear ht
      go_wp2_with fail
      go_meet
      case rel => exact ⟨congrArg Value.bool (by simp [HT.out, HT2.out]), X.out, Y.out, B.out⟩
    · have HT2 := hidB ht
      clear ht
      go_wp2_with fail
      go_meet
      case rel => exact ⟨congrArg Value.bool (by simp [HT.out, HT2.out]), X.out, Y.out, B.out⟩
  case rest =>
  obtain ⟨rfl, hX, hY, hb⟩ := hcut
  replace X := hidB hX
  replace Y := hidB hY
  replace B := hidB hb
  clear hX hY hb
  cases hnn : (isV o.tg 1 && isV o.hd 1)
  rotate_left
  · have HN := hidB hnn
    clear hnn
    have HQ := hidB (show prxB h n o l = _ by unfold prxB; simp only [HB.out, HN.out, Bool.not_true, Bool.not_false, Bool.true_and, Bool.false_and, Bool.and_false, Bool.or_true, Bool.true_or, Bool.false_or]; rfl)
    go_wp2_with fail
    go_ret
    exact ⟨ret_bool (by rw [HQ.out]), B.out⟩
  have HN := hidB hnn
  clear hnn
  have Z := hidB (show Bk (wc.alloc (.cells #[.int .u8 o.tg.k, .float .f64 o.tg.x, .string o.tg.s, .int .i64 o.tg.r, .int .u8 o.hd.k, .float .f64 o.hd.x, .string o.hd.s, .int .i64 o.hd.r] 29)) wc.heap.size 29 #[.int .u8 o.tg.k, .float .f64 o.tg.x, .string o.tg.s, .int .i64 o.tg.r, .int .u8 o.hd.k, .float .f64 o.hd.x, .string o.hd.s, .int .i64 o.hd.r] from Bk.new wc _ _)
  have X5 := hidB (show Bk (wc.alloc (.cells #[.int .u8 o.tg.k, .float .f64 o.tg.x, .string o.tg.s, .int .i64 o.tg.r, .int .u8 o.hd.k, .float .f64 o.hd.x, .string o.hd.s, .int .i64 o.hd.r] 29)) gq 42 o.cs from X.out.alloc _)
  have Y5 := hidB (show Bk (wc.alloc (.cells #[.int .u8 o.tg.k, .float .f64 o.tg.x, .string o.tg.s, .int .i64 o.tg.r, .int .u8 o.hd.k, .float .f64 o.hd.x, .string o.hd.s, .int .i64 o.hd.r] 29)) w.heap.size 24 #[hv] from Y.out.alloc _)
  have B5 := hidB (show Below w.heap.size w (wc.alloc (.cells #[.int .u8 o.tg.k, .float .f64 o.tg.x, .string o.tg.s, .int .i64 o.tg.r, .int .u8 o.hd.k, .float .f64 o.hd.x, .string o.hd.s, .int .i64 o.hd.r] 29)) from B.out.alloc B.out.size _)
  go_wp2_with (first | ((with_reducible refine ldId 29 (.tmp 46) ?_); refine wpList_load_mid (by rfl) 29 (.tmp 46) (by rfl) (gq) 7 (by rfl) (o.tg.cells) _ (by exact Bk.mid X.out 7 _ rfl) Tryz.underlying29 (by rfl) (by kernel_rfl) ?_) | ((with_reducible refine ldId 29 (.tmp 48) ?_); refine wpList_load_mid (by rfl) 29 (.tmp 48) (by rfl) (gq) 11 (by rfl) (o.hd.cells) _ (by exact Bk.mid X.out 11 _ rfl) Tryz.underlying29 (by rfl) (by kernel_rfl) ?_) | ((with_reducible refine wpId ?_); refine wpList_mkSliceH (by rfl) 32 29 2 4 _ (by rfl) [(0, o.tg.a), (1, o.hd.a)] (by kernel_rfl) (.agg #[.int .u8 0, .float .f64 0, .string ⟨#[]⟩, .int .i64 0]) #[.int .u8 o.tg.k, .float .f64 o.tg.x, .string o.tg.s, .int .i64 o.tg.r, .int .u8 o.hd.k, .float .f64 o.hd.x, .string o.hd.s, .int .i64 o.hd.r] Tryz.underlying32 (by kernel_rfl) (by decide) (by decide) (by kernel_rfl) ?_))
  clear X Y B
  generalize hW : (wc.alloc (.cells #[.int .u8 o.tg.k, .float .f64 o.tg.x, .string o.tg.s, .int .i64 o.tg.r, .int .u8 o.hd.k, .float .f64 o.hd.x, .string o.hd.s, .int .i64 o.hd.r] 29)) = w5 at *
  clear hW
  generalize hgb : wc.heap.size = gb at *
  clear hgb
  go_loopw [52] (fun s52 wr => ∃ i : Nat, i ≤ 2 ∧ s52 = .int .i64 i ∧ (0 < i → refB h n o.tg = true) ∧ (1 < i → refB h n o.hd = true) ∧ Bk wr gb 29 #[.int .u8 o.tg.k, .float .f64 o.tg.x, .string o.tg.s, .int .i64 o.tg.r, .int .u8 o.hd.k, .float .f64 o.hd.x, .string o.hd.s, .int .i64 o.hd.r] ∧ Bk wr gq 42 o.cs ∧ Bk wr w.heap.size 24 #[hv] ∧ Below w.heap.size w wr) (fun i _ => 2 - (intOf i).toNat)
  case atStart => exact ⟨0, by omega, rfl, fun h => absurd h (by omega), fun h => absurd h (by omega), Z.out, X5.out, Y5.out, B5.out⟩
  case round =>
    obtain ⟨i, hi, hs, h1, h2, hZ, hX, hY, hb⟩ := hrel
    replace Z := hidB hZ
    have X := hidB hX
    have Y := hidB hY
    have B := hidB hb
    have HR1 := hidB h1
    have HR2 := hidB h2
    clear hZ hX hY hb h1 h2 X5 Y5 B5
    obtain rfl | rfl | rfl : i = 0 ∨ i = 1 ∨ i = 2 := by omega
    · skip
      obtain rfl := (show _ = Value.int .i64 0 from hs)
      have VX := hidB (show Bk (wr.alloc (.cells o.tg.cells.toArray 29)) wr.heap.size 29 o.tg.cells.toArray from Bk.new wr _ _)
      have Z6 := hidB (show Bk (wr.alloc (.cells o.tg.cells.toArray 29)) gb 29 #[.int .u8 o.tg.k, .float .f64 o.tg.x, .string o.tg.s, .int .i64 o.tg.r, .int .u8 o.hd.k, .float .f64 o.hd.x, .string o.hd.s, .int .i64 o.hd.r] from Z.out.alloc _)
      replace X := hidB (show Bk (wr.alloc (.cells o.tg.cells.toArray 29)) gq 42 o.cs from X.out.alloc _)
      replace Y := hidB (show Bk (wr.alloc (.cells o.tg.cells.toArray 29)) w.heap.size 24 #[hv] from Y.out.alloc _)
      have hsz := hidB B.out.size
      replace B := hidB (show Below w.heap.size w (wr.alloc (.cells o.tg.cells.toArray 29)) from B.out.alloc B.out.size _)
      go_upto_region 8 with (first | ((with_reducible refine ldId 29 (.tmp 54) ?_); refine wpList_load_mid (by rfl) 29 (.tmp 54) (by rfl) (gb) 0 (by rfl) (o.tg.cells) _ (by exact Bk.mid Z.out 0 _ rfl) Tryz.underlying29 (by rfl) (by kernel_rfl) ?_) | ((with_reducible refine wpId ?_); refine wpList_store_new (by rfl) 29 (.tmp 8) (.tmp 55) (by rfl) o.tg.cells.toArray 29 _ (by rfl) (by rfl) (by kernel_rfl) (by rfl) (by rfl) ?_))
      clear Z
      generalize hW : (wr.alloc (.cells o.tg.cells.toArray 29)) = w6 at *
      clear hW
      generalize hgv : wr.heap.size = gv at *
      clear hgv
      go_wp2_with (first | ((with_reducible refine ldId 29 (.tmp 8) ?_); refine wpList_load_row (by rfl) 29 (.tmp 8) (by rfl) (gv) (by rfl) 29 (o.tg.cells.toArray) (0, 0) _ (by exact VX.out) Tryz.underlying29 (by rfl) (by kernel_rfl) ?_))
      refine (isObj_any o.tg.k o.tg.x o.tg.s o.tg.r _).mono ?_; rintro e w7 ⟨rfl, hb1⟩
      have hb := hb1 ▸ box_one _ (.cells o.tg.cells.toArray 29)
      clear hb1
      replace VX := hidB (VX.out.on hb)
      replace Z6 := hidB (Z6.out.on hb)
      replace X := hidB (X.out.on hb)
      replace Y := hidB (Y.out.on hb)
      replace B := hidB (B.out.trans (hb.mono B.out.size))
      clear hb
      cases hio : isObj o.tg.k
      · have HIO := hidB hio
        clear hio
        have HRB := hidB (show refB h n o.tg = false by unfold refB; simp [HIO.out])
        have HQ := hidB (show prxB h n o l = _ by unfold prxB; simp only [HB.out, HN.out, HRB.out, Bool.not_true, Bool.not_false, Bool.true_and, Bool.false_and, Bool.and_false, Bool.or_true, Bool.true_or, Bool.false_or]; rfl)
        go_wp2_with fail
        go_ret
        exact ⟨ret_bool (by rw [HQ.out]), B.out⟩
      have HIO := hidB hio
      clear hio
      go_wp2_with (first | ((with_reducible refine ldId 24 (.tmp 3) ?_); refine wpList_wload_mid 24 (.tmp 3) (by rfl) (by rfl) (w.heap.size) 0 (by rfl) ([hv]) _ (by exact Bk.mid Y.out 0 _ rfl) Tryz.underlying24 (by rfl) (by kernel_rfl) ?_) | ((with_reducible refine ldId 29 (.tmp 8) ?_); refine wpList_wload_mid 29 (.tmp 8) (by rfl) (by rfl) (gv) 0 (by rfl) (o.tg.cells) _ (by exact Bk.mid VX.out 0 _ rfl) Tryz.underlying29 (by rfl) (by kernel_rfl) ?_))
      refine (in_any h hv o.tg HO.out.2.2.1 _ (HHR.out.on B.out)).mono ?_; rintro e w8 ⟨rfl, hb⟩
      replace VX := hidB (VX.out.on hb)
      replace Z6 := hidB (Z6.out.on hb)
      replace X := hidB (X.out.on hb)
      replace Y := hidB (Y.out.on hb)
      replace B := hidB (B.out.trans (hb.mono B.out.size))
      clear hb
      cases hin : inB h o.tg
      · have HIN := hidB hin
        clear hin
        have HRB := hidB (show refB h n o.tg = false by unfold refB; simp [HIO.out, HIN.out])
        have HQ := hidB (show prxB h n o l = _ by unfold prxB; simp only [HB.out, HN.out, HRB.out, Bool.not_true, Bool.not_false, Bool.true_and, Bool.false_and, Bool.and_false, Bool.or_true, Bool.true_or, Bool.false_or]; rfl)
        go_wp2_with fail
        go_ret
        exact ⟨ret_bool (by rw [HQ.out]), B.out⟩
      have HIN := hidB hin
      clear hin
      have v3 : w8.cell? ⟨gv, 3, none⟩ = some (.int .i64 o.tg.r) := VX.out.cell 3
      by_cases hge : (n : Int) ≤ o.tg.r
      · have HGE := hidB (show decide (o.tg.r < (n : Int)) = false from decide_eq_false (by omega))
        have HRB := hidB (show refB h n o.tg = false by unfold refB; simp [HIO.out, HIN.out, HGE.out])
        have HQ := hidB (show prxB h n o l = _ by unfold prxB; simp only [HB.out, HN.out, HRB.out, Bool.not_true, Bool.not_false, Bool.true_and, Bool.false_and, Bool.and_false, Bool.or_true, Bool.true_or, Bool.false_or]; rfl)
        go_wp2_with fail
        go_ret
        exact ⟨ret_bool (by rw [HQ.out]), B.out⟩
      have HGE := hidB (show decide (o.tg.r < (n : Int)) = true from decide_eq_true (by omega))
      have HRB := hidB (show refB h n o.tg = true by unfold refB; simp [HIO.out, HIN.out, HGE.out])
      go_wp2_with fail
      go_roundw
      case rel => exact ⟨1, by omega, by go_num, fun _ => HRB.out, fun hh => absurd hh (by decide), Z6.out, X.out, Y.out, B.out⟩
      case measure => simp [intOf]
    · skip
      obtain rfl := (show _ = Value.int .i64 1 from hs)
      have VX := hidB (show Bk (wr.alloc (.cells o.hd.cells.toArray 29)) wr.heap.size 29 o.hd.cells.toArray from Bk.new wr _ _)
      have Z6 := hidB (show Bk (wr.alloc (.cells o.hd.cells.toArray 29)) gb 29 #[.int .u8 o.tg.k, .float .f64 o.tg.x, .string o.tg.s, .int .i64 o.tg.r, .int .u8 o.hd.k, .float .f64 o.hd.x, .string o.hd.s, .int .i64 o.hd.r] from Z.out.alloc _)
      replace X := hidB (show Bk (wr.alloc (.cells o.hd.cells.toArray 29)) gq 42 o.cs from X.out.alloc _)
      replace Y := hidB (show Bk (wr.alloc (.cells o.hd.cells.toArray 29)) w.heap.size 24 #[hv] from Y.out.alloc _)
      have hsz := hidB B.out.size
      replace B := hidB (show Below w.heap.size w (wr.alloc (.cells o.hd.cells.toArray 29)) from B.out.alloc B.out.size _)
      go_upto_region 8 with (first | ((with_reducible refine ldId 29 (.tmp 54) ?_); refine wpList_load_mid (by rfl) 29 (.tmp 54) (by rfl) (gb) 4 (by rfl) (o.hd.cells) _ (by exact Bk.mid Z.out 4 _ rfl) Tryz.underlying29 (by rfl) (by kernel_rfl) ?_) | ((with_reducible refine wpId ?_); refine wpList_store_new (by rfl) 29 (.tmp 8) (.tmp 55) (by rfl) o.hd.cells.toArray 29 _ (by rfl) (by rfl) (by kernel_rfl) (by rfl) (by rfl) ?_))
      clear Z
      generalize hW : (wr.alloc (.cells o.hd.cells.toArray 29)) = w6 at *
      clear hW
      generalize hgv : wr.heap.size = gv at *
      clear hgv
      go_wp2_with (first | ((with_reducible refine ldId 29 (.tmp 8) ?_); refine wpList_load_row (by rfl) 29 (.tmp 8) (by rfl) (gv) (by rfl) 29 (o.hd.cells.toArray) (0, 0) _ (by exact VX.out) Tryz.underlying29 (by rfl) (by kernel_rfl) ?_))
      refine (isObj_any o.hd.k o.hd.x o.hd.s o.hd.r _).mono ?_; rintro e w7 ⟨rfl, hb1⟩
      have hb := hb1 ▸ box_one _ (.cells o.hd.cells.toArray 29)
      clear hb1
      replace VX := hidB (VX.out.on hb)
      replace Z6 := hidB (Z6.out.on hb)
      replace X := hidB (X.out.on hb)
      replace Y := hidB (Y.out.on hb)
      replace B := hidB (B.out.trans (hb.mono B.out.size))
      clear hb
      cases hio : isObj o.hd.k
      · have HIO := hidB hio
        clear hio
        have HRB := hidB (show refB h n o.hd = false by unfold refB; simp [HIO.out])
        have HQ := hidB (show prxB h n o l = _ by unfold prxB; simp only [HB.out, HN.out, HR1.out (by decide), HRB.out, Bool.not_true, Bool.not_false, Bool.true_and, Bool.false_and, Bool.and_false, Bool.or_true, Bool.true_or, Bool.false_or]; rfl)
        go_wp2_with fail
        go_ret
        exact ⟨ret_bool (by rw [HQ.out]), B.out⟩
      have HIO := hidB hio
      clear hio
      go_wp2_with (first | ((with_reducible refine ldId 24 (.tmp 3) ?_); refine wpList_wload_mid 24 (.tmp 3) (by rfl) (by rfl) (w.heap.size) 0 (by rfl) ([hv]) _ (by exact Bk.mid Y.out 0 _ rfl) Tryz.underlying24 (by rfl) (by kernel_rfl) ?_) | ((with_reducible refine ldId 29 (.tmp 8) ?_); refine wpList_wload_mid 29 (.tmp 8) (by rfl) (by rfl) (gv) 0 (by rfl) (o.hd.cells) _ (by exact Bk.mid VX.out 0 _ rfl) Tryz.underlying29 (by rfl) (by kernel_rfl) ?_))
      refine (in_any h hv o.hd HO.out.2.2.2 _ (HHR.out.on B.out)).mono ?_; rintro e w8 ⟨rfl, hb⟩
      replace VX := hidB (VX.out.on hb)
      replace Z6 := hidB (Z6.out.on hb)
      replace X := hidB (X.out.on hb)
      replace Y := hidB (Y.out.on hb)
      replace B := hidB (B.out.trans (hb.mono B.out.size))
      clear hb
      cases hin : inB h o.hd
      · have HIN := hidB hin
        clear hin
        have HRB := hidB (show refB h n o.hd = false by unfold refB; simp [HIO.out, HIN.out])
        have HQ := hidB (show prxB h n o l = _ by unfold prxB; simp only [HB.out, HN.out, HR1.out (by decide), HRB.out, Bool.not_true, Bool.not_false, Bool.true_and, Bool.false_and, Bool.and_false, Bool.or_true, Bool.true_or, Bool.false_or]; rfl)
        go_wp2_with fail
        go_ret
        exact ⟨ret_bool (by rw [HQ.out]), B.out⟩
      have HIN := hidB hin
      clear hin
      have v3 : w8.cell? ⟨gv, 3, none⟩ = some (.int .i64 o.hd.r) := VX.out.cell 3
      by_cases hge : (n : Int) ≤ o.hd.r
      · have HGE := hidB (show decide (o.hd.r < (n : Int)) = false from decide_eq_false (by omega))
        have HRB := hidB (show refB h n o.hd = false by unfold refB; simp [HIO.out, HIN.out, HGE.out])
        have HQ := hidB (show prxB h n o l = _ by unfold prxB; simp only [HB.out, HN.out, HR1.out (by decide), HRB.out, Bool.not_true, Bool.not_false, Bool.true_and, Bool.false_and, Bool.and_false, Bool.or_true, Bool.true_or, Bool.false_or]; rfl)
        go_wp2_with fail
        go_ret
        exact ⟨ret_bool (by rw [HQ.out]), B.out⟩
      have HGE := hidB (show decide (o.hd.r < (n : Int)) = true from decide_eq_true (by omega))
      have HRB := hidB (show refB h n o.hd = true by unfold refB; simp [HIO.out, HIN.out, HGE.out])
      go_wp2_with fail
      go_roundw
      case rel => exact ⟨2, by omega, by go_num, fun _ => HR1.out (by decide), fun hh => HRB.out, Z6.out, X.out, Y.out, B.out⟩
      case measure => simp [intOf]
    · skip
      obtain rfl := (show _ = Value.int .i64 2 from hs)
      skip
      have HRT := hidB (HR1.out (by decide))
      have HRH := hidB (HR2.out (by decide))
      have hI : isObj o.tg.k = true ∧ inB h o.tg = true ∧ o.tg.r < (n : Int) := by have := HRT.out; unfold refB at this; simpa using this
      have hr0 : 0 ≤ o.tg.r := may_ref (by have := hI.2.1; unfold inB at this; exact (Bool.and_eq_true _ _ ▸ this).1) hI.1
      have hx5 : o.tg.r < (h.length : Int) := by omega
      have hn2 : o.tg.r.toNat < h.length := by omega
      have HPE := hidB (HHR.out.props _ (List.getElem_mem hn2))
      have HH := HHR.out
      obtain ⟨⟨pa, c, rfl, e1, e2, e3⟩, _⟩ := HH
      unfold maxLen at e2
      have hlm3 : h.length ≤ 9223372036854775807 := by omega
      obtain ⟨g, o2, rfl, hg, hcell⟩ := e3 (by omega)
      have HCE := hidB (rangeOn B.out hg (hcell o.tg.r.toNat hn2))
      have HK := hidB (show (h[o.tg.r.toNat]?).map (fun e => e.1.ca == o.ca && e.1.ma == o.ma) = some ((h[o.tg.r.toNat]'hn2).1.ca == o.ca && (h[o.tg.r.toNat]'hn2).1.ma == o.ma) by rw [List.getElem?_eq_getElem hn2]; rfl)
      clear hcell e3 hI
      generalize (h[o.tg.r.toNat]'hn2) = e0 at *
      have HQ := hidB (show prxB h n o l = (e0.1.ca == o.ca && e0.1.ma == o.ma) by unfold prxB; rw [HB.out, HN.out, HRT.out, HRH.out, HK.out]; rfl)
      have y0 : wr.cell? ⟨w.heap.size, 0, none⟩ = some (.slice (some ⟨g, o2, none⟩) h.length c) := Y.out.cell 0
      have x10 : wr.cell? ⟨gq, 10, none⟩ = some (.int .i64 o.tg.r) := X.out.cell 10
      have TX := hidB (show Bk (wr.alloc (.cells e0.1.cs 42)) wr.heap.size 42 e0.1.cs from Bk.new wr _ _)
      have X7 := hidB (show Bk (wr.alloc (.cells e0.1.cs 42)) gq 42 o.cs from X.out.alloc _)
      have B7 := hidB (show Below w.heap.size w (wr.alloc (.cells e0.1.cs 42)) from B.out.alloc B.out.size _)
      go_upto_region 12 with (first | ((with_reducible refine ldId 42 (.tmp 77) ?_); refine wpList_load_mid (by rfl) 42 (.tmp 77) (by rfl) g (o2 + o.tg.r.toNat * 18) (by rfl) e0.1.cs.toList _ (by exact HCE.out) Tryz.underlying42 (by rfl) (by kernel_rfl) ?_) | ((with_reducible refine wpId ?_); refine wpList_store_new (by rfl) 42 (.tmp 9) (.tmp 78) (by rfl) e0.1.cs 42 _ (by rfl) (by rfl) (by kernel_rfl) (by rfl) (by exact OJ.one _ (RdP.one HPE.out)) ?_))
      clear y0 x10 X B Z
      generalize hW : (wr.alloc (.cells e0.1.cs 42)) = w9 at *
      clear hW
      generalize hg9 : wr.heap.size = g9 at *
      clear hg9
      have t16 : w9.cell? ⟨g9, 16, none⟩ = some (.bool e0.1.ca) := TX.out.cell 16
      have t17 : w9.cell? ⟨g9, 17, none⟩ = some (.bool e0.1.ma) := TX.out.cell 17
      have x16 : w9.cell? ⟨gq, 16, none⟩ = some (.bool o.ca) := X7.out.cell 16
      have x17 : w9.cell? ⟨gq, 17, none⟩ = some (.bool o.ma) := X7.out.cell 17
      cases a1 : e0.1.ca <;> cases a2 : o.ca <;> cases a3 : e0.1.ma <;> cases a4 : o.ma
      all_goals
        rw [a1] at t16
        rw [a2] at x16
        rw [a3] at t17
        rw [a4] at x17
        go_wp2_with fail
        go_ret
        exact ⟨ret_bool (by rw [HQ.out, a1, a2, a3, a4]; first | done | rfl), B7.out⟩

end Go.Proofs.YtbmaodlghglopaaGreatDoor
