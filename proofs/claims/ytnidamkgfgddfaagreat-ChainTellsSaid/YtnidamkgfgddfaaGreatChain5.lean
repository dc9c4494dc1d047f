/-
  A proxy made: chain.Make.
-/
import Derived.Test.YtnidamkgfgddfaaGreatChain4
namespace Go.Proofs.YtnidamkgfgddfaaGreat
open Go.RowKit

/-- A proxy of two objects. -/
def prxO (h : HI) (n m : Nat) : OJ := ⟨6, nullI, false, .slice none 0 0, namedI (objAt h n) n, namedI (objAt h m) m, ⟨#[]⟩, (objAt h n).ca, (objAt h n).ma⟩
theorem askE_two {h : HI} {n m : Int} (e : askE h [n, m] = 0) : chkH h = 0 ∧ (0 ≤ n ∧ n < (h.length : Int)) ∧ 0 ≤ m ∧ m < (h.length : Int) := by
  unfold askE at e
  split at e
  · rename_i h0
    split at e
    · rename_i ha
      simp only [List.all_cons, List.all_nil, Bool.and_true, Bool.and_eq_true, decide_eq_true_eq] at ha
      exact ⟨h0, ha.1, ha.2⟩
    · cases e
  · rename_i h0; exact absurd e h0
def MakeQ (h : HI) (n m : Int) (w : World) (e : Ending) (w' : World) : Prop := Below w.heap.size w w' ∧
  ((askE h [n, m] ≠ 0 ∧ e = .returned (.tuple #[.agg #[.slice none 0 0], .int .i64 0, .int .i64 (askE h [n, m])])) ∨
   (askE h [n, m] = 0 ∧ (goneB (objAt h n.toNat) || goneB (objAt h m.toNat)) = true ∧ e = .returned (.tuple #[.agg #[.slice none 0 0], .int .i64 0, .int .i64 140])) ∨
   (askE h [n, m] = 0 ∧ (goneB (objAt h n.toNat) || goneB (objAt h m.toNat)) = false ∧ h.length = 4096 ∧ e = .returned (.tuple #[.agg #[.slice none 0 0], .int .i64 0, .int .i64 4])) ∨
   (askE h [n, m] = 0 ∧ (goneB (objAt h n.toNat) || goneB (objAt h m.toNat)) = false ∧ h.length ≠ 4096 ∧ chkH (h ++ [(prxO h n.toNat m.toNat, [])]) ≠ 0 ∧ e = .returned (.tuple #[.agg #[.slice none 0 0], .int .i64 0, .int .i64 (chkH (h ++ [(prxO h n.toNat m.toNat, [])]))])) ∨
   (askE h [n, m] = 0 ∧ (goneB (objAt h n.toNat) || goneB (objAt h m.toNat)) = false ∧ h.length ≠ 4096 ∧ chkH (h ++ [(prxO h n.toNat m.toNat, [])]) = 0 ∧ ∃ h2 v2, e = .returned (.tuple #[.agg #[v2], .int .i64 h.length, .int .i64 0]) ∧ bareH h2 = bareH (h ++ [(prxO h n.toNat m.toNat, [])]) ∧ FreshH w.heap.size h2 v2 w'))
theorem kind_nn (o : OJ) : 0 ≤ kindO o := by
  unfold kindO
  split
  · decide
  · split <;> decide
theorem rdP_nil (w : World) : RdP [] (.slice none 0 0) w := ⟨none, 0, rfl, Nat.le_refl _, Nat.zero_le _, fun h => absurd h (by decide)⟩

theorem yieldsIf_build {P : Program} {ops : Array Oper} {S : World → Prop} {op : Oper} {a : Act} (hw : Region.wanted op (yielded ops a.tmps) = true) (t : TypeId) (parts : Array (Nat × Operand)) (ho : op.op = .build t parts) (vals : List (Nat × Value)) (hv : (parts.map fun (i, x) => (i, a.eval x)).toList = vals) (cells : Array Value) (hf : P.built t vals = some cells) : YieldsIf P ops S op (.agg cells) a :=
  .inl ⟨hw, fun w _ => by
    unfold execOp
    simp only [ho, Sem.run_bind, run_build w t _ cells (by rw [hv]; exact hf), Result.andThen_ok]
    rfl⟩
theorem run_buildSlice {P : Program} (w : World) (t e : TypeId) (n size : Nat) (i : TypeInfo) (z : Value) (parts : Array (Nat × Value)) (cells : Array Value) (ht : P.underlying t = some (.slice e)) (hi : P.info? e = some i) (hz : i.zero = some z) (hs : i.size = size) (hn : ¬ n * size > 2 ^ 24) (h0 : n * size ≠ 0)
    (hf : Instr.fill (fun j => some (j * size, size)) ((Array.range (n * size)).map (z.cells[· % z.cells.size]!)) parts.toList = some cells) : (Instr.buildSlice t n parts).run P w = .ok (.slice (some ⟨w.heap.size, 0, none⟩) n n) (w.alloc (.cells cells e)) := by
  have hsz : (sizeOf e).run P w = .ok size w := by rw [run_sizeOf w hi, Program.cellsOf, hi]; simp [hs]
  have hzv : (zeroValue e).run P w = .ok z w := by simp [zeroValue, hi, hz, typeInfo]
  unfold Instr.buildSlice
  simp only [Sem.run_bind, run_underlying ht, Result.andThen_ok, hsz, Sem.run_ite, if_neg hn, if_neg h0, hzv, Sem.run_pure, hf]
  simp only [newRow, Sem.run_bind]
  rfl

theorem wp_buildSlice {P : Program} {op : Oper} {a : Act} {w : World} {K : Act → World → Prop} {Q : Exit → Act → World → Prop} (t e : TypeId) (n size : Nat) (parts : Array (Nat × Operand)) (ho : op.op = .buildSlice t n parts) (vals : List (Nat × Value)) (hv : (parts.map fun (i, x) => (i, a.eval x)).toList = vals) (z : Value) (cells : Array Value) (ht : P.underlying t = some (.slice e)) (hi : (P.info? e).map (fun i => (i.zero, i.size)) = some (some z, size)) (hn : ¬ n * size > 2 ^ 24) (h0 : n * size ≠ 0)
    (hf : Instr.fill (fun j => some (j * size, size)) ((Array.range (n * size)).map (z.cells[· % z.cells.size]!)) vals = some cells) (h : K (a.put op.dst (.slice (some ⟨w.heap.size, 0, none⟩) n n)) (w.alloc (.cells cells e))) : op.wp P a w K Q := by
  obtain ⟨i, hi, he⟩ := Option.map_eq_some_iff.1 hi
  simp only [Prod.mk.injEq] at he
  unfold Oper.wp execOp
  simp only [ho, Sem.run_bind, run_buildSlice w t e n size i z _ cells ht hi he.1 he.2 hn h0 (by rw [hv]; exact hf), Result.andThen_ok]
  exact h
theorem put_none_K {K : Act → World → Prop} {a : Act} {o : Option Tmp} {v : Value} {w : World} (h : o = none) (k : K a w) : K (a.put o v) w := put_none_KH h k
set_option maxHeartbeats 8000000 in
set_option maxRecDepth 100000 in
theorem make_heap (h : HI) (hok : HOk h) (hk : HKeys h) (hv : Value) (n m : Int) (w : World) (hr : RdH h hv w) : Calls Tryz.prog 6 #[.agg #[hv], .int .i64 n, .int .i64 m] w (MakeQ h n m w) := by
  have HRD := hidB (fun W (hb : Below w.heap.size w W) => hr.on hb)
  have HOK := hidB hok
  have HKY := hidB hk
  obtain ⟨⟨pa, c, rfl, h1, h2, _⟩, _⟩ := hr
  unfold maxLen at h2
  have hlm : h.length ≤ 9223372036854775807 := by omega
  clear hok hk h1 h2
  have Y := hidB (show Bk ((w.alloc (.cells (#[(.slice pa h.length c)]) 24)).alloc (.cells (#[.slice none 0 0]) 24)) (w.heap.size) 24 (#[(.slice pa h.length c)]) from (Bk.new w _ _).alloc _)
  have R := hidB (show Bk ((w.alloc (.cells (#[(.slice pa h.length c)]) 24)).alloc (.cells (#[.slice none 0 0]) 24)) (w.heap.size + 1) 24 (#[.slice none 0 0]) from Bk.new2 w _ _ _)
  have B := hidB (show Below w.heap.size w ((w.alloc (.cells (#[(.slice pa h.length c)]) 24)).alloc (.cells (#[.slice none 0 0]) 24)) from (box_one w _).alloc (by simp) _)
  go_enter Tryz.func6, Tryz.ntmps6
  go_upto_region 1 with fail
  generalize hW : ((w.alloc (.cells (#[(.slice pa h.length c)]) 24)).alloc (.cells (#[.slice none 0 0]) 24)) = w1 at *
  clear hW
  have NB := hidB (show Bk (w1.alloc (.cells #[.int .i64 n, .int .i64 m] 3)) w1.heap.size 3 (intsC [n, m]) from Bk.new w1 _ _)
  have BA := hidB (show Below w.heap.size w (w1.alloc (.cells #[.int .i64 n, .int .i64 m] 3)) from B.out.alloc B.out.size _)
  have RA := hidB (R.out.alloc (.cells #[.int .i64 n, .int .i64 m] 3))
  have YA := hidB (show Bk (w1.alloc (.cells #[.int .i64 n, .int .i64 m] 3)) w.heap.size 24 #[(.slice pa h.length c)] from Y.out.alloc _)
  go_wp2_with (first | ((with_reducible refine ldId 24 (.tmp 3) ?_); refine wpList_load_row (by rfl) 24 (.tmp 3) (by rfl) (w.heap.size) (by rfl) 24 (#[(.slice pa h.length c)]) (0, 0) _ (by exact Y.out) Tryz.underlying24 (by rfl) (by kernel_rfl) ?_) | ((with_reducible refine wpId ?_); refine wpList_mkSliceH (by rfl) 32 3 2 1 _ (by rfl) [(0, .int .i64 n), (1, .int .i64 m)] (by kernel_rfl) (.int .i64 0) #[.int .i64 n, .int .i64 m] Tryz.underlying32 (by kernel_rfl) (by decide) (by decide) (by kernel_rfl) ?_))
  refine (asked_chain h HOK.out HKY.out (.slice pa h.length c) [n, m] (by simp) _ (HRD.out _ BA.out) _ NB.out).mono ?_; rintro e w3 ⟨rfl, hb⟩
  replace Y := hidB (YA.out.on hb)
  replace R := hidB (RA.out.on hb)
  replace B := hidB (BA.out.trans (hb.mono BA.out.size))
  clear hb NB BA YA RA
  obtain ⟨ck, hck⟩ : ∃ ck, askE h [n, m] = ck := ⟨_, rfl⟩
  have HCK := hidB hck
  rw [hck]
  clear hck
  by_cases h0 : ck = 0
  rotate_left
  · have h0b : (ck == 0) = false := by rw [beq_eq_false_iff_ne]; exact h0
    have h0n : (ck != 0) = true := by rw [bne, h0b]; rfl
    have HN := hidB h0
    clear h0
    have r0 : w3.cell? ⟨w.heap.size + 1, 0, none⟩ = some (.slice none 0 0) := R.out.cell 0
    have f0 : w3.frozen? ⟨w.heap.size + 1, 0, none⟩ = false := R.out.free 0
    go_wp2_with fail
    exact bodyPost_ret (v := .tuple #[.agg (#[.slice none 0 0]), .int .i64 0, .int .i64 ck]) (results_row3 Tryz.results6 _ _ (w.heap.size + 1) 24 (#[.slice none 0 0]) (0, 0) _ rfl (R.out.set 0 _) Tryz.underlying24 rfl (by kernel_rfl)) rfl (⟨B.out.setCell (by show w.heap.size ≤ w.heap.size + 1; omega) _, Or.inl ⟨by rw [HCK.out]; exact HN.out, by rw [HCK.out]⟩⟩)
  subst h0
  have HC := hidB (chkH_ok (askE_two HCK.out).1)
  obtain ⟨_, ⟨hn0, hn1⟩, hm0, hm1⟩ := askE_two HCK.out
  obtain ⟨n, rfl⟩ : ∃ k : Nat, n = (k : Int) := ⟨n.toNat, by omega⟩
  obtain ⟨m, rfl⟩ : ∃ k : Nat, m = (k : Int) := ⟨m.toNat, by omega⟩
  have hn : n < h.length := by omega
  have hm : m < h.length := by omega
  have HRW := HRD.out _ B.out
  obtain ⟨g, o, rfl, hgl, hrow⟩ := rd_rowH HRW hn
  obtain ⟨g2, o2, he2, _, hrow2⟩ := rd_rowH HRW hm
  simp only [Option.some.injEq, Addr.mk.injEq] at he2
  obtain ⟨rfl, rfl, _⟩ := he2
  have HPO := hidB (HRW.props _ (List.getElem_mem hn)).one
  have HGL := hidB hgl
  have HROW := hidB hrow
  have HROW2 := hidB hrow2
  clear hrow hgl hrow2 HRW
  have HOE := hidB (objAt_lt hn)
  have HOE2 := hidB (objAt_lt hm)
  rw [← HOE.out] at HPO HROW
  rw [← HOE2.out] at HROW2
  have HPX := hidB (show prxO h n m = OJ.mk 6 nullI false (.slice none 0 0) (namedI (objAt h n) n) (namedI (objAt h m) m) ⟨#[]⟩ (objAt h n).ca (objAt h n).ma from rfl)
  have NMN := hidB (fun W hr => named_any h (.slice (some ⟨g, o, none⟩) h.length c) n hn W hr)
  have NMM := hidB (fun W hr => named_any h (.slice (some ⟨g, o, none⟩) h.length c) m hm W hr)
  rw [← HOE.out] at NMN
  rw [← HOE2.out] at NMM
  obtain ⟨e0, he⟩ : ∃ q, objAt h n = q := ⟨_, rfl⟩
  obtain ⟨e1, he1⟩ : ∃ q, objAt h m = q := ⟨_, rfl⟩
  replace HOE := hidB he
  replace HOE2 := hidB he1
  rw [he] at HPO HROW HPX NMN
  rw [he1] at HROW2 HPX NMM
  clear he he1
  have y0 : w3.cell? ⟨w.heap.size, 0, none⟩ = some (.slice (some ⟨g, o, none⟩) h.length c) := Y.out.cell 0
  have X := hidB (show Bk (w3.alloc (.cells e0.cs 46)) w3.heap.size 46 e0.cs from Bk.new w3 _ _)
  have Y4 := hidB (show Bk (w3.alloc (.cells e0.cs 46)) w.heap.size 24 #[(.slice (some ⟨g, o, none⟩) h.length c)] from Y.out.alloc _)
  have R4 := hidB (show Bk (w3.alloc (.cells e0.cs 46)) (w.heap.size + 1) 24 #[.slice none 0 0] from R.out.alloc _)
  have hb3 := box_one w3 (.cells e0.cs 46)
  have B4 := hidB (show Below w.heap.size w (w3.alloc (.cells e0.cs 46)) from B.out.alloc B.out.size _)
  have BB := hidB hb3
  clear hb3 Y R B
  have ROWM := hidB (rangeOn BB.out HGL.out HROW2.out)
  have ROWMG := hidB (Nat.lt_of_lt_of_le HGL.out BB.out.size)
  clear BB HROW2
  go_upto_region 5 with (first | ((with_reducible refine ldId 46 (.tmp 24) ?_); refine wpList_load_mid (by rfl) 46 (.tmp 24) (by rfl) g (o + n * 18) (by rfl) e0.cs.toList _ (by exact HROW.out) Tryz.underlying46 (by rfl) (by kernel_rfl) ?_) | ((with_reducible refine wpId ?_); refine wpList_store_new (by rfl) 46 (.tmp 10) (.tmp 25) (by rfl) e0.cs 46 _ (by rfl) (by rfl) (by kernel_rfl) (by rfl) (by exact OJ.one _ HPO.out) ?_))
  generalize (w3.alloc (.cells e0.cs 46)) = w4 at *
  have HGX := hidB X.out.lt
  generalize w3.heap.size = gx at *
  clear y0
  skip
  have Y := Y4
  have R := R4
  have B := B4
  clear Y4 R4 B4
  clear HROW HGL HPO
  go_wp2_with (first | ((with_reducible refine ldId 46 (.tmp 10) ?_); refine wpList_load_row (by rfl) 46 (.tmp 10) (by rfl) (gx) (by rfl) 46 (e0.cs) (0, 0) _ (by exact X.out) Tryz.underlying46 (by rfl) (by kernel_rfl) ?_))
  refine (gone_any e0 _).mono ?_; rintro e w5 ⟨rfl, hb⟩
  replace X := hidB (X.out.on hb)
  replace Y := hidB (Y.out.on hb)
  replace R := hidB (R.out.on hb)
  replace B := hidB (B.out.trans (hb.mono B.out.size))
  replace ROWM := hidB (rangeOn hb ROWMG.out ROWM.out)
  replace ROWMG := hidB (Nat.lt_of_lt_of_le ROWMG.out hb.size)
  clear hb
  have y0 : w5.cell? ⟨w.heap.size, 0, none⟩ = some (.slice (some ⟨g, o, none⟩) h.length c) := Y.out.cell 0
  have hm0i : (0 : Int) ≤ (m : Int) := by omega
  cases hg : goneB e0
  rotate_left
  · have HG := hidB (show (goneB (objAt h n) || goneB (objAt h m)) = true by rw [HOE.out, hg]; rfl)
    clear hg
    have r0 : w5.cell? ⟨w.heap.size + 1, 0, none⟩ = some (.slice none 0 0) := R.out.cell 0
    have f0 : w5.frozen? ⟨w.heap.size + 1, 0, none⟩ = false := R.out.free 0
    go_wp2_with fail
    exact bodyPost_ret (v := .tuple #[.agg (#[.slice none 0 0]), .int .i64 0, .int .i64 140]) (results_row3 Tryz.results6 _ _ (w.heap.size + 1) 24 (#[.slice none 0 0]) (0, 0) _ rfl (R.out.set 0 _) Tryz.underlying24 rfl (by kernel_rfl)) rfl (⟨B.out.setCell (by show w.heap.size ≤ w.heap.size + 1; omega) _, Or.inr (Or.inl ⟨HCK.out, HG.out, rfl⟩)⟩)
  have HG0 := hidB hg
  clear hg
  go_wp2_with (first | ((with_reducible refine ldId 46 (.tmp 32) ?_); refine wpList_wload_mid 46 (.tmp 32) (by rfl) (by rfl) g (o + m * 18) (by rfl) e1.cs.toList _ (by exact ROWM.out) Tryz.underlying46 (by rfl) (by kernel_rfl) ?_))
  refine (gone_any e1 _).mono ?_; rintro e w6 ⟨rfl, hb⟩
  replace X := hidB (X.out.on hb)
  replace Y := hidB (Y.out.on hb)
  replace R := hidB (R.out.on hb)
  replace B := hidB (B.out.trans (hb.mono B.out.size))
  replace ROWM := hidB (rangeOn hb ROWMG.out ROWM.out)
  replace ROWMG := hidB (Nat.lt_of_lt_of_le ROWMG.out hb.size)
  clear hb
  clear y0
  cases hg : goneB e1
  rotate_left
  · have HG := hidB (show (goneB (objAt h n) || goneB (objAt h m)) = true by rw [HOE.out, HOE2.out, hg, Bool.or_true])
    clear hg
    have r0 : w6.cell? ⟨w.heap.size + 1, 0, none⟩ = some (.slice none 0 0) := R.out.cell 0
    have f0 : w6.frozen? ⟨w.heap.size + 1, 0, none⟩ = false := R.out.free 0
    go_wp2_with fail
    exact bodyPost_ret (v := .tuple #[.agg (#[.slice none 0 0]), .int .i64 0, .int .i64 140]) (results_row3 Tryz.results6 _ _ (w.heap.size + 1) 24 (#[.slice none 0 0]) (0, 0) _ rfl (R.out.set 0 _) Tryz.underlying24 rfl (by kernel_rfl)) rfl (⟨B.out.setCell (by show w.heap.size ≤ w.heap.size + 1; omega) _, Or.inr (Or.inl ⟨HCK.out, HG.out, rfl⟩)⟩)
  have HG := hidB (show (goneB (objAt h n) || goneB (objAt h m)) = false by rw [HOE.out, HOE2.out, hg, HG0.out]; rfl)
  clear hg HG0
  go_upto_region 7 with fail
  have RDD := hidB (fun W (hb : Below w6.heap.size w6 W) => HRD.out W (B.out.trans (hb.mono B.out.size)))
  have YH := hidB Y.out
  have XH := hidB X.out
  go_cut [11] from 12 to 54 (fun s11 wx => ∃ gp, s11 = .pointer (some ⟨gp, 0, none⟩) ∧ Bk wx gp 46 (OJ.mk 6 nullI false (.slice none 0 0) (namedI e0 n) (namedI e1 m) ⟨#[]⟩ e0.ca e0.ma).cs ∧ Below w6.heap.size w6 wx)
  case first =>
    refine wp_region_noPanic ?_
    refine wp_region_held_drew (S := fun W => Below w6.heap.size w6 W) (by kernel_rfl) ?_ (fun hHeld => ?_)
    · exact (Below.refl _ _).drew
    generalize hWd : w6.drew = wd at *
    clear hWd
    (refine wpAnyH_take (i := 0) (v := .agg (nullI.cells.toArray)) (by simp only [List.getElem?_toArray, List.getElem?_cons_zero]; exact rfl) (by kernel_rfl) (by kernel_rfl) (by kernel_rfl) (fun _ _ _ h => h) (yieldsIf_build (by rfl) 43 _ (by rfl) [(0, .int .u8 1)] (by kernel_rfl) (nullI.cells.toArray) (by kernel_rfl)) (by assumption) ?_; try simp only [Act.put, List.setIfInBounds_toArray, List.set_cons_zero, List.set_cons_succ])
    (refine wpAnyH_take (i := 1) (v := .agg #[(.slice (some ⟨g, o, none⟩) h.length c)]) (by simp only [List.getElem?_toArray, List.getElem?_cons_succ, List.getElem?_cons_zero]; exact rfl) (by kernel_rfl) (by kernel_rfl) (by kernel_rfl) (fun _ _ _ h => h) (yieldsIf_load_mid (by rfl) 24 (.tmp 3) (by rfl) (w.heap.size) (0) (by rfl) ([(.slice (some ⟨g, o, none⟩) h.length c)]) _ (fun W hS => Bk.mid (YH.out.on hS) 0 _ rfl) Tryz.underlying24 (by rfl) (by kernel_rfl)) (by assumption) ?_; try simp only [Act.put, List.setIfInBounds_toArray, List.set_cons_zero, List.set_cons_succ])
    first | (refine wpAnyH_take (i := 2) (v := undef) (by simp only [List.getElem?_toArray, List.getElem?_cons_succ, List.getElem?_cons_zero]; exact rfl) (by kernel_rfl) (by kernel_rfl) (by kernel_rfl) (fun _ _ _ h => h) (Or.inr ⟨?_, rfl⟩) (by assumption) ?_; (rfl); try simp only [Act.put, List.setIfInBounds_toArray, List.set_cons_zero, List.set_cons_succ]) | (refine wpAnyH_take (i := 2) (v := ?_) (by simp only [List.getElem?_toArray, List.getElem?_cons_succ, List.getElem?_cons_zero]; exact rfl) (by kernel_rfl) (by kernel_rfl) (by kernel_rfl) (fun _ _ _ h => h) (Or.inl ⟨?_, ?_⟩) (by assumption) ?_; rotate_left; (rfl); (focus (intro w hSw; (try dsimp only at hSw); go_simp; try with_reducible rfl)); try simp only [Act.put, List.setIfInBounds_toArray, List.set_cons_zero, List.set_cons_succ])
    (refine wpAnyH_take (i := 4) (v := .agg #[(.slice (some ⟨g, o, none⟩) h.length c)]) (by simp only [List.getElem?_toArray, List.getElem?_cons_succ, List.getElem?_cons_zero]; exact rfl) (by kernel_rfl) (by kernel_rfl) (by kernel_rfl) (fun _ _ _ h => h) (yieldsIf_load_mid (by rfl) 24 (.tmp 3) (by rfl) (w.heap.size) (0) (by rfl) ([(.slice (some ⟨g, o, none⟩) h.length c)]) _ (fun W hS => Bk.mid (YH.out.on hS) 0 _ rfl) Tryz.underlying24 (by rfl) (by kernel_rfl)) (by assumption) ?_; try simp only [Act.put, List.setIfInBounds_toArray, List.set_cons_zero, List.set_cons_succ])
    first | (refine wpAnyH_take (i := 5) (v := undef) (by simp only [List.getElem?_toArray, List.getElem?_cons_succ, List.getElem?_cons_zero]; exact rfl) (by kernel_rfl) (by kernel_rfl) (by kernel_rfl) (fun _ _ _ h => h) (Or.inr ⟨?_, rfl⟩) (by assumption) ?_; (rfl); try simp only [Act.put, List.setIfInBounds_toArray, List.set_cons_zero, List.set_cons_succ]) | (refine wpAnyH_take (i := 5) (v := ?_) (by simp only [List.getElem?_toArray, List.getElem?_cons_succ, List.getElem?_cons_zero]; exact rfl) (by kernel_rfl) (by kernel_rfl) (by kernel_rfl) (fun _ _ _ h => h) (Or.inl ⟨?_, ?_⟩) (by assumption) ?_; rotate_left; (rfl); (focus (intro w hSw; (try dsimp only at hSw); go_simp; try with_reducible rfl)); try simp only [Act.put, List.setIfInBounds_toArray, List.set_cons_zero, List.set_cons_succ])
    first | (refine wpAnyH_take (i := 7) (v := undef) (by simp only [List.getElem?_toArray, List.getElem?_cons_succ, List.getElem?_cons_zero]; exact rfl) (by kernel_rfl) (by kernel_rfl) (by kernel_rfl) (fun _ _ _ h => h) (Or.inr ⟨?_, rfl⟩) (by assumption) ?_; (rfl); try simp only [Act.put, List.setIfInBounds_toArray, List.set_cons_zero, List.set_cons_succ]) | (refine wpAnyH_take (i := 7) (v := ?_) (by simp only [List.getElem?_toArray, List.getElem?_cons_succ, List.getElem?_cons_zero]; exact rfl) (by kernel_rfl) (by kernel_rfl) (by kernel_rfl) (fun _ _ _ h => h) (Or.inl ⟨?_, ?_⟩) (by assumption) ?_; rotate_left; (rfl); (focus (intro w hSw; (try dsimp only at hSw); go_simp; try with_reducible rfl)); try simp only [Act.put, List.setIfInBounds_toArray, List.set_cons_zero, List.set_cons_succ])
    first | (refine wpAnyH_take (i := 8) (v := undef) (by simp only [List.getElem?_toArray, List.getElem?_cons_succ, List.getElem?_cons_zero]; exact rfl) (by kernel_rfl) (by kernel_rfl) (by kernel_rfl) (fun _ _ _ h => h) (Or.inr ⟨?_, rfl⟩) (by assumption) ?_; (rfl); try simp only [Act.put, List.setIfInBounds_toArray, List.set_cons_zero, List.set_cons_succ]) | (refine wpAnyH_take (i := 8) (v := ?_) (by simp only [List.getElem?_toArray, List.getElem?_cons_succ, List.getElem?_cons_zero]; exact rfl) (by kernel_rfl) (by kernel_rfl) (by kernel_rfl) (fun _ _ _ h => h) (Or.inl ⟨?_, ?_⟩) (by assumption) ?_; rotate_left; (rfl); (focus (intro W hSw; have hc0 := (show W.cell? ⟨gx, 16, none⟩ = some (.bool e0.ca) from (XH.out.on hSw).cell 16); clear hSw; go_simp; try with_reducible rfl)); try simp only [Act.put, List.setIfInBounds_toArray, List.set_cons_zero, List.set_cons_succ])
    first | (refine wpAnyH_take (i := 9) (v := undef) (by simp only [List.getElem?_toArray, List.getElem?_cons_succ, List.getElem?_cons_zero]; exact rfl) (by kernel_rfl) (by kernel_rfl) (by kernel_rfl) (fun _ _ _ h => h) (Or.inr ⟨?_, rfl⟩) (by assumption) ?_; (rfl); try simp only [Act.put, List.setIfInBounds_toArray, List.set_cons_zero, List.set_cons_succ]) | (refine wpAnyH_take (i := 9) (v := ?_) (by simp only [List.getElem?_toArray, List.getElem?_cons_succ, List.getElem?_cons_zero]; exact rfl) (by kernel_rfl) (by kernel_rfl) (by kernel_rfl) (fun _ _ _ h => h) (Or.inl ⟨?_, ?_⟩) (by assumption) ?_; rotate_left; (rfl); (focus (intro w hSw; (try dsimp only at hSw); go_simp; try with_reducible rfl)); try simp only [Act.put, List.setIfInBounds_toArray, List.set_cons_zero, List.set_cons_succ])
    first | (refine wpAnyH_take (i := 10) (v := undef) (by simp only [List.getElem?_toArray, List.getElem?_cons_succ, List.getElem?_cons_zero]; exact rfl) (by kernel_rfl) (by kernel_rfl) (by kernel_rfl) (fun _ _ _ h => h) (Or.inr ⟨?_, rfl⟩) (by assumption) ?_; (rfl); try simp only [Act.put, List.setIfInBounds_toArray, List.set_cons_zero, List.set_cons_succ]) | (refine wpAnyH_take (i := 10) (v := ?_) (by simp only [List.getElem?_toArray, List.getElem?_cons_succ, List.getElem?_cons_zero]; exact rfl) (by kernel_rfl) (by kernel_rfl) (by kernel_rfl) (fun _ _ _ h => h) (Or.inl ⟨?_, ?_⟩) (by assumption) ?_; rotate_left; (rfl); (focus (intro W hSw; have hc0 := (show W.cell? ⟨gx, 17, none⟩ = some (.bool e0.ma) from (XH.out.on hSw).cell 17); clear hSw; go_simp; try with_reducible rfl)); try simp only [Act.put, List.setIfInBounds_toArray, List.set_cons_zero, List.set_cons_succ])
    refine wpAnyH_ready (rs := [3, 12]) (by kernel_rfl) (by simp) ?_
    refine AllReadyH.cons rfl (fun K hK => ?_) ?_
    · skip
      go_simp
      refine (NMN.out _ (RDD.out _ hHeld)).mono ?_; rintro e v1 ⟨rfl, hb⟩
      replace hHeld := hHeld.trans (hb.mono hHeld.size)
      clear hb
      refine hK.out _ _ hHeld (fun _ => ?_)
      clear hK K
      try simp only [Act.put, List.setIfInBounds_toArray, List.set_cons_zero, List.set_cons_succ]
      refine wpAnyH_ready (rs := [6, 12]) (by kernel_rfl) (by simp) ?_
      refine AllReadyH.cons rfl (fun K hK => ?_) ?_
      · skip
        go_simp
        refine (NMM.out _ (RDD.out _ hHeld)).mono ?_; rintro e v2 ⟨rfl, hb⟩
        replace hHeld := hHeld.trans (hb.mono hHeld.size)
        clear hb
        refine hK.out _ _ hHeld (fun _ => ?_)
        clear hK K
        try simp only [Act.put, List.setIfInBounds_toArray, List.set_cons_zero, List.set_cons_succ]
        (refine wpAnyH_take (i := 11) (v := .agg ((OJ.mk 6 nullI false (.slice none 0 0) (namedI e0 n) (namedI e1 m) ⟨#[]⟩ e0.ca e0.ma).cs)) (by simp only [List.getElem?_toArray, List.getElem?_cons_succ, List.getElem?_cons_zero]; exact rfl) (by kernel_rfl) (by kernel_rfl) (by kernel_rfl) (fun _ _ _ h => h) (yieldsIf_build (by rfl) 46 _ (by rfl) [(0, .int .u8 6), (1, nullI.a), (4, (namedI e0 n).a), (5, (namedI e1 m).a), (7, .bool e0.ca), (8, .bool e0.ma)] (by kernel_rfl) ((OJ.mk 6 nullI false (.slice none 0 0) (namedI e0 n) (namedI e1 m) ⟨#[]⟩ e0.ca e0.ma).cs) (by kernel_rfl)) (by assumption) ?_; try simp only [Act.put, List.setIfInBounds_toArray, List.set_cons_zero, List.set_cons_succ])
        refine wpAnyH_ready (rs := [12]) (by kernel_rfl) (by simp) ?_
        refine AllReadyH.cons rfl (fun K hK => ?_) AllReadyH.nil
        go_simp
        have RD_ := hidB (Bk.new v2 46 #[.int .u8 0, .int .u8 0, .float .f64 0, .string ⟨#[]⟩, .int .i64 0, .bool false, .slice none 0 0, .int .u8 0, .float .f64 0, .string ⟨#[]⟩, .int .i64 0, .int .u8 0, .float .f64 0, .string ⟨#[]⟩, .int .i64 0, .string ⟨#[]⟩, .bool false, .bool false])
        have hgB_gR := hHeld.size
        replace hHeld := hHeld.alloc hHeld.size (.cells #[.int .u8 0, .int .u8 0, .float .f64 0, .string ⟨#[]⟩, .int .i64 0, .bool false, .slice none 0 0, .int .u8 0, .float .f64 0, .string ⟨#[]⟩, .int .i64 0, .int .u8 0, .float .f64 0, .string ⟨#[]⟩, .int .i64 0, .string ⟨#[]⟩, .bool false, .bool false] 46)
        refine hK.out _ _ hHeld (fun _ => ?_)
        clear hK K
        try simp only [Act.put, List.setIfInBounds_toArray, List.set_cons_zero, List.set_cons_succ]
        generalize hWn : (v2.alloc (.cells #[.int .u8 0, .int .u8 0, .float .f64 0, .string ⟨#[]⟩, .int .i64 0, .bool false, .slice none 0 0, .int .u8 0, .float .f64 0, .string ⟨#[]⟩, .int .i64 0, .int .u8 0, .float .f64 0, .string ⟨#[]⟩, .int .i64 0, .string ⟨#[]⟩, .bool false, .bool false] 46)) = v3 at *
        clear hWn
        generalize hGn : v2.heap.size = gR at *
        clear hGn
        refine wpAnyH_ready (rs := [13]) (by kernel_rfl) (by simp) ?_
        refine AllReadyH.cons rfl (fun K hK => ?_) AllReadyH.nil
        rw [if_pos (by kernel_rfl)]
        refine wp_store_row 46 (.tmp 11) (.tmp 48) (by rfl) gR (OJ.mk 6 nullI false (.slice none 0 0) (namedI e0 n) (namedI e1 m) ⟨#[]⟩ e0.ca e0.ma).cs (by rfl) (by rfl) 46 #[.int .u8 0, .int .u8 0, .float .f64 0, .string ⟨#[]⟩, .int .i64 0, .bool false, .slice none 0 0, .int .u8 0, .float .f64 0, .string ⟨#[]⟩, .int .i64 0, .int .u8 0, .float .f64 0, .string ⟨#[]⟩, .int .i64 0, .string ⟨#[]⟩, .bool false, .bool false] (by exact RD_.out) (by kernel_rfl) (by rfl) (by exact (OJ.one _ rfl)) ?_
        replace RD_ := hidB (RD_.out.setRow (OJ.mk 6 nullI false (.slice none 0 0) (namedI e0 n) (namedI e1 m) ⟨#[]⟩ e0.ca e0.ma).cs)
        replace hHeld := below_setRow hHeld hgB_gR (OJ.mk 6 nullI false (.slice none 0 0) (namedI e0 n) (namedI e1 m) ⟨#[]⟩ e0.ca e0.ma).cs
        refine put_none_K (by first | rfl | kernel_rfl) ?_
        refine hK.out _ _ hHeld (fun _ => ?_)
        clear hK K
        generalize hWn : v3.setRow gR (OJ.mk 6 nullI false (.slice none 0 0) (namedI e0 n) (namedI e1 m) ⟨#[]⟩ e0.ca e0.ma).cs = v4 at *
        clear hWn
        refine wpAnyH_done (by kernel_rfl) ?_ _
        refine NoPanic.normal ?_
        go_wp2_with fail
        go_meet
        case rel => exact ⟨_, rfl, RD_.out, hHeld⟩
      refine AllReadyH.cons rfl (fun K hK => ?_) AllReadyH.nil
      go_simp
      have RD_ := hidB (Bk.new v1 46 #[.int .u8 0, .int .u8 0, .float .f64 0, .string ⟨#[]⟩, .int .i64 0, .bool false, .slice none 0 0, .int .u8 0, .float .f64 0, .string ⟨#[]⟩, .int .i64 0, .int .u8 0, .float .f64 0, .string ⟨#[]⟩, .int .i64 0, .string ⟨#[]⟩, .bool false, .bool false])
      have hgB_gR := hHeld.size
      replace hHeld := hHeld.alloc hHeld.size (.cells #[.int .u8 0, .int .u8 0, .float .f64 0, .string ⟨#[]⟩, .int .i64 0, .bool false, .slice none 0 0, .int .u8 0, .float .f64 0, .string ⟨#[]⟩, .int .i64 0, .int .u8 0, .float .f64 0, .string ⟨#[]⟩, .int .i64 0, .string ⟨#[]⟩, .bool false, .bool false] 46)
      refine hK.out _ _ hHeld (fun _ => ?_)
      clear hK K
      try simp only [Act.put, List.setIfInBounds_toArray, List.set_cons_zero, List.set_cons_succ]
      generalize hWn : (v1.alloc (.cells #[.int .u8 0, .int .u8 0, .float .f64 0, .string ⟨#[]⟩, .int .i64 0, .bool false, .slice none 0 0, .int .u8 0, .float .f64 0, .string ⟨#[]⟩, .int .i64 0, .int .u8 0, .float .f64 0, .string ⟨#[]⟩, .int .i64 0, .string ⟨#[]⟩, .bool false, .bool false] 46)) = v2 at *
      clear hWn
      generalize hGn : v1.heap.size = gR at *
      clear hGn
      refine wpAnyH_ready (rs := [6]) (by kernel_rfl) (by simp) ?_
      refine AllReadyH.cons rfl (fun K hK => ?_) AllReadyH.nil
      go_simp
      refine (NMM.out _ (RDD.out _ hHeld)).mono ?_; rintro e v3 ⟨rfl, hb⟩
      replace RD_ := hidB (RD_.out.on hb)
      replace hHeld := hHeld.trans (hb.mono hHeld.size)
      clear hb
      refine hK.out _ _ hHeld (fun _ => ?_)
      clear hK K
      try simp only [Act.put, List.setIfInBounds_toArray, List.set_cons_zero, List.set_cons_succ]
      (refine wpAnyH_take (i := 11) (v := .agg ((OJ.mk 6 nullI false (.slice none 0 0) (namedI e0 n) (namedI e1 m) ⟨#[]⟩ e0.ca e0.ma).cs)) (by simp only [List.getElem?_toArray, List.getElem?_cons_succ, List.getElem?_cons_zero]; exact rfl) (by kernel_rfl) (by kernel_rfl) (by kernel_rfl) (fun _ _ _ h => h) (yieldsIf_build (by rfl) 46 _ (by rfl) [(0, .int .u8 6), (1, nullI.a), (4, (namedI e0 n).a), (5, (namedI e1 m).a), (7, .bool e0.ca), (8, .bool e0.ma)] (by kernel_rfl) ((OJ.mk 6 nullI false (.slice none 0 0) (namedI e0 n) (namedI e1 m) ⟨#[]⟩ e0.ca e0.ma).cs) (by kernel_rfl)) (by assumption) ?_; try simp only [Act.put, List.setIfInBounds_toArray, List.set_cons_zero, List.set_cons_succ])
      refine wpAnyH_ready (rs := [13]) (by kernel_rfl) (by simp) ?_
      refine AllReadyH.cons rfl (fun K hK => ?_) AllReadyH.nil
      rw [if_pos (by kernel_rfl)]
      refine wp_store_row 46 (.tmp 11) (.tmp 48) (by rfl) gR (OJ.mk 6 nullI false (.slice none 0 0) (namedI e0 n) (namedI e1 m) ⟨#[]⟩ e0.ca e0.ma).cs (by rfl) (by rfl) 46 #[.int .u8 0, .int .u8 0, .float .f64 0, .string ⟨#[]⟩, .int .i64 0, .bool false, .slice none 0 0, .int .u8 0, .float .f64 0, .string ⟨#[]⟩, .int .i64 0, .int .u8 0, .float .f64 0, .string ⟨#[]⟩, .int .i64 0, .string ⟨#[]⟩, .bool false, .bool false] (by exact RD_.out) (by kernel_rfl) (by rfl) (by exact (OJ.one _ rfl)) ?_
      replace RD_ := hidB (RD_.out.setRow (OJ.mk 6 nullI false (.slice none 0 0) (namedI e0 n) (namedI e1 m) ⟨#[]⟩ e0.ca e0.ma).cs)
      replace hHeld := below_setRow hHeld hgB_gR (OJ.mk 6 nullI false (.slice none 0 0) (namedI e0 n) (namedI e1 m) ⟨#[]⟩ e0.ca e0.ma).cs
      refine put_none_K (by first | rfl | kernel_rfl) ?_
      refine hK.out _ _ hHeld (fun _ => ?_)
      clear hK K
      generalize hWn : v3.setRow gR (OJ.mk 6 nullI false (.slice none 0 0) (namedI e0 n) (namedI e1 m) ⟨#[]⟩ e0.ca e0.ma).cs = v4 at *
      clear hWn
      refine wpAnyH_done (by kernel_rfl) ?_ _
      refine NoPanic.normal ?_
      go_wp2_with fail
      go_meet
      case rel => exact ⟨_, rfl, RD_.out, hHeld⟩
    refine AllReadyH.cons rfl (fun K hK => ?_) AllReadyH.nil
    go_simp
    have RD_ := hidB (Bk.new wd 46 #[.int .u8 0, .int .u8 0, .float .f64 0, .string ⟨#[]⟩, .int .i64 0, .bool false, .slice none 0 0, .int .u8 0, .float .f64 0, .string ⟨#[]⟩, .int .i64 0, .int .u8 0, .float .f64 0, .string ⟨#[]⟩, .int .i64 0, .string ⟨#[]⟩, .bool false, .bool false])
    have hgB_gR := hHeld.size
    replace hHeld := hHeld.alloc hHeld.size (.cells #[.int .u8 0, .int .u8 0, .float .f64 0, .string ⟨#[]⟩, .int .i64 0, .bool false, .slice none 0 0, .int .u8 0, .float .f64 0, .string ⟨#[]⟩, .int .i64 0, .int .u8 0, .float .f64 0, .string ⟨#[]⟩, .int .i64 0, .string ⟨#[]⟩, .bool false, .bool false] 46)
    refine hK.out _ _ hHeld (fun _ => ?_)
    clear hK K
    try simp only [Act.put, List.setIfInBounds_toArray, List.set_cons_zero, List.set_cons_succ]
    generalize hWn : (wd.alloc (.cells #[.int .u8 0, .int .u8 0, .float .f64 0, .string ⟨#[]⟩, .int .i64 0, .bool false, .slice none 0 0, .int .u8 0, .float .f64 0, .string ⟨#[]⟩, .int .i64 0, .int .u8 0, .float .f64 0, .string ⟨#[]⟩, .int .i64 0, .string ⟨#[]⟩, .bool false, .bool false] 46)) = v1 at *
    clear hWn
    generalize hGn : wd.heap.size = gR at *
    clear hGn
    refine wpAnyH_ready (rs := [3]) (by kernel_rfl) (by simp) ?_
    refine AllReadyH.cons rfl (fun K hK => ?_) AllReadyH.nil
    go_simp
    refine (NMN.out _ (RDD.out _ hHeld)).mono ?_; rintro e v2 ⟨rfl, hb⟩
    replace RD_ := hidB (RD_.out.on hb)
    replace hHeld := hHeld.trans (hb.mono hHeld.size)
    clear hb
    refine hK.out _ _ hHeld (fun _ => ?_)
    clear hK K
    try simp only [Act.put, List.setIfInBounds_toArray, List.set_cons_zero, List.set_cons_succ]
    refine wpAnyH_ready (rs := [6]) (by kernel_rfl) (by simp) ?_
    refine AllReadyH.cons rfl (fun K hK => ?_) AllReadyH.nil
    go_simp
    refine (NMM.out _ (RDD.out _ hHeld)).mono ?_; rintro e v3 ⟨rfl, hb⟩
    replace RD_ := hidB (RD_.out.on hb)
    replace hHeld := hHeld.trans (hb.mono hHeld.size)
    clear hb
    refine hK.out _ _ hHeld (fun _ => ?_)
    clear hK K
    try simp only [Act.put, List.setIfInBounds_toArray, List.set_cons_zero, List.set_cons_succ]
    (refine wpAnyH_take (i := 11) (v := .agg ((OJ.mk 6 nullI false (.slice none 0 0) (namedI e0 n) (namedI e1 m) ⟨#[]⟩ e0.ca e0.ma).cs)) (by simp only [List.getElem?_toArray, List.getElem?_cons_succ, List.getElem?_cons_zero]; exact rfl) (by kernel_rfl) (by kernel_rfl) (by kernel_rfl) (fun _ _ _ h => h) (yieldsIf_build (by rfl) 46 _ (by rfl) [(0, .int .u8 6), (1, nullI.a), (4, (namedI e0 n).a), (5, (namedI e1 m).a), (7, .bool e0.ca), (8, .bool e0.ma)] (by kernel_rfl) ((OJ.mk 6 nullI false (.slice none 0 0) (namedI e0 n) (namedI e1 m) ⟨#[]⟩ e0.ca e0.ma).cs) (by kernel_rfl)) (by assumption) ?_; try simp only [Act.put, List.setIfInBounds_toArray, List.set_cons_zero, List.set_cons_succ])
    refine wpAnyH_ready (rs := [13]) (by kernel_rfl) (by simp) ?_
    refine AllReadyH.cons rfl (fun K hK => ?_) AllReadyH.nil
    rw [if_pos (by kernel_rfl)]
    refine wp_store_row 46 (.tmp 11) (.tmp 48) (by rfl) gR (OJ.mk 6 nullI false (.slice none 0 0) (namedI e0 n) (namedI e1 m) ⟨#[]⟩ e0.ca e0.ma).cs (by rfl) (by rfl) 46 #[.int .u8 0, .int .u8 0, .float .f64 0, .string ⟨#[]⟩, .int .i64 0, .bool false, .slice none 0 0, .int .u8 0, .float .f64 0, .string ⟨#[]⟩, .int .i64 0, .int .u8 0, .float .f64 0, .string ⟨#[]⟩, .int .i64 0, .string ⟨#[]⟩, .bool false, .bool false] (by exact RD_.out) (by kernel_rfl) (by rfl) (by exact (OJ.one _ rfl)) ?_
    replace RD_ := hidB (RD_.out.setRow (OJ.mk 6 nullI false (.slice none 0 0) (namedI e0 n) (namedI e1 m) ⟨#[]⟩ e0.ca e0.ma).cs)
    replace hHeld := below_setRow hHeld hgB_gR (OJ.mk 6 nullI false (.slice none 0 0) (namedI e0 n) (namedI e1 m) ⟨#[]⟩ e0.ca e0.ma).cs
    refine put_none_K (by first | rfl | kernel_rfl) ?_
    refine hK.out _ _ hHeld (fun _ => ?_)
    clear hK K
    generalize hWn : v3.setRow gR (OJ.mk 6 nullI false (.slice none 0 0) (namedI e0 n) (namedI e1 m) ⟨#[]⟩ e0.ca e0.ma).cs = v4 at *
    clear hWn
    refine wpAnyH_done (by kernel_rfl) ?_ _
    refine NoPanic.normal ?_
    go_wp2_with fail
    go_meet
    case rel => exact ⟨_, rfl, RD_.out, hHeld⟩
  case rest =>
  obtain ⟨gp, rfl, hP, hb⟩ := hcut
  have PB := hidB hP
  have HH := hidB (HRD.out _ (B.out.trans (hb.mono B.out.size)))
  have HWC := hidB (Nat.le_trans B.out.size hb.size)
  replace Y := hidB (Y.out.on hb)
  replace R := hidB (R.out.on hb)
  replace B := hidB (B.out.trans (hb.mono B.out.size))
  clear hP hb X ROWM ROWMG RDD YH XH NMN NMM
  have CN := hidB (new_heap h HOK.out HKY.out (OJ.mk 6 nullI false (.slice none 0 0) (namedI e0 n) (namedI e1 m) ⟨#[]⟩ e0.ca e0.ma) [] ⟨(by decide : (0 : Int) ≤ 6), (by decide : (0 : Int) ≤ 1), kind_nn _, kind_nn _⟩ (fun q hq => by cases hq) (fun q hq => by cases hq) (by decide) (.slice (some ⟨g, o, none⟩) h.length c) wc HH.out (rdP_nil wc))
  rw [← HPX.out] at CN PB
  go_wp2_with (first | ((with_reducible refine ldId 24 (.tmp 3) ?_); refine wpList_load_row (by rfl) 24 (.tmp 3) (by rfl) (w.heap.size) (by rfl) 24 (#[(.slice (some ⟨g, o, none⟩) h.length c)]) (0, 0) _ (by exact Y.out) Tryz.underlying24 (by rfl) (by kernel_rfl) ?_) | ((with_reducible refine ldId 46 (.tmp 11) ?_); refine wpList_load_row (by rfl) 46 (.tmp 11) (by rfl) (gp) (by rfl) 46 ((prxO h n m).cs) (0, 0) _ (by exact PB.out) Tryz.underlying46 (by rfl) (by kernel_rfl) ?_))
  refine CN.out.mono ?_; rintro e w8 ⟨hb, hq⟩
  replace R := hidB (R.out.on hb)
  replace B := hidB (B.out.trans (hb.mono B.out.size))
  skip
  clear hb CN PB Y HH
  rcases hq with ⟨hq1, rfl⟩ | ⟨_, hq1, rfl⟩ | ⟨_, hq1, hq2, rfl⟩ | ⟨_, hq1, hq2, h2, v2, rfl, hbr, hfr⟩
  · exact absurd (askE_two HCK.out).1 hq1
  · have HQ1 := hidB hq1
    clear hq1
    have r0 : w8.cell? ⟨w.heap.size + 1, 0, none⟩ = some (.slice none 0 0) := R.out.cell 0
    have f0 : w8.frozen? ⟨w.heap.size + 1, 0, none⟩ = false := R.out.free 0
    go_wp2_with fail
    exact bodyPost_ret (v := .tuple #[.agg (#[.slice none 0 0]), .int .i64 0, .int .i64 4]) (results_row3 Tryz.results6 _ _ (w.heap.size + 1) 24 (#[.slice none 0 0]) (0, 0) _ rfl (R.out.set 0 _) Tryz.underlying24 rfl (by kernel_rfl)) rfl (⟨B.out.setCell (by show w.heap.size ≤ w.heap.size + 1; omega) _, Or.inr (Or.inr (Or.inl ⟨HCK.out, HG.out, HQ1.out, rfl⟩))⟩)
  · have HQ1 := hidB hq1
    have HQ2 := hidB hq2
    clear hq1 hq2
    obtain ⟨ck, hck⟩ : ∃ ck, chkH (h ++ [(prxO h n m, [])]) = ck := ⟨_, rfl⟩
    have HC2 := hidB hck
    rw [hck]
    clear hck
    have r0 : w8.cell? ⟨w.heap.size + 1, 0, none⟩ = some (.slice none 0 0) := R.out.cell 0
    have f0 : w8.frozen? ⟨w.heap.size + 1, 0, none⟩ = false := R.out.free 0
    go_wp2_with fail
    exact bodyPost_ret (v := .tuple #[.agg (#[.slice none 0 0]), .int .i64 0, .int .i64 ck]) (results_row3 Tryz.results6 _ _ (w.heap.size + 1) 24 (#[.slice none 0 0]) (0, 0) _ rfl (R.out.set 0 _) Tryz.underlying24 rfl (by kernel_rfl)) rfl (⟨B.out.setCell (by show w.heap.size ≤ w.heap.size + 1; omega) _, Or.inr (Or.inr (Or.inr (Or.inl ⟨HCK.out, HG.out, HQ1.out, HQ2.out, by rw [Int.toNat_natCast, Int.toNat_natCast, HC2.out]⟩)))⟩)
  · have HQ1 := hidB hq1
    have HQ2 := hidB hq2
    have HBR := hidB hbr
    have FR := hidB hfr
    clear hq1 hq2 hbr hfr
    have r0 : w8.cell? ⟨w.heap.size + 1, 0, none⟩ = some (.slice none 0 0) := R.out.cell 0
    have f0 : w8.frozen? ⟨w.heap.size + 1, 0, none⟩ = false := R.out.free 0
    obtain ⟨q3, c3, hv3⟩ := own_sliceH FR.out.own
    subst hv3
    skip
    go_wp2_with fail
    have FR9 := hidB (show FreshH w.heap.size h2 (.slice q3 h2.length c3) (w8.setCell ⟨w.heap.size + 1, 0, none⟩ (.slice q3 h2.length c3)) from ⟨(own_baseH FR.out.own (HWC.out)).kept (set_grownH w8 _ _) (Or.inr (own_ne_typeH FR.out.own (by decide) R.out)), fun e he => (FR.out.props e he).far R.out (by decide) (Nat.zero_le _) (Nat.le_of_eq (by simp [World.setCell])) (fun b hb => Below.heap_setCell w8 _ _ b hb)⟩)
    exact bodyPost_ret (v := .tuple #[.agg (#[.slice q3 h2.length c3]), .int .i64 h.length, .int .i64 0]) (results_row3 Tryz.results6 _ _ (w.heap.size + 1) 24 (#[.slice q3 h2.length c3]) (0, 0) _ rfl (R.out.set 0 _) Tryz.underlying24 rfl (by kernel_rfl)) rfl (⟨B.out.setCell (by show w.heap.size ≤ w.heap.size + 1; omega) _, Or.inr (Or.inr (Or.inr (Or.inr ⟨HCK.out, HG.out, HQ1.out, HQ2.out, h2, _, rfl, HBR.out, FR9.out⟩)))⟩)

end Go.Proofs.YtnidamkgfgddfaaGreat
