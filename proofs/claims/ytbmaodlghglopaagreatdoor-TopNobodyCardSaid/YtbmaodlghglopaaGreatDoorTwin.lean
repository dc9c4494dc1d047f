/-
  Outcomes in memory of their own: slices.Clone, inner.Twin, inner.Done, call.only.
-/
import Derived.Test.YtbmaodlghglopaaGreatDoorFits
import Derived.Lib.SliceRun
import Derived.Lib.Walk
namespace Go.Proofs.YtbmaodlghglopaaGreatDoor
open Go.RowKit

theorem info_key : (Tryz.prog.info? 26).map (fun i => (i.zero, i.size, i.bytes)) = some (some (.agg #[.string ⟨#[]⟩, .int .i64 0]), 2, 24) := by kernel_rfl
theorem info_val : (Tryz.prog.info? 29).map (fun i => (i.zero, i.size, i.bytes)) = some (some (.agg #[.int .u8 0, .float .f64 0, .string ⟨#[]⟩, .int .i64 0]), 4, 40) := by kernel_rfl
theorem alloc_some {w : World} {o : Obj} {a : Addr} {v : Value} (h : w.cell? a = some v) : (w.alloc o).cell? a = some v :=
  (World.cell?_of_block (Below.heap_alloc w o a.block (World.block_lt_of_cell? w a h))).trans h

set_option maxHeartbeats 8000000 in
set_option maxRecDepth 100000 in
theorem cloneK_any (l : List KI) (v : Value) (w : World) (h : RdL KI.cells 2 l v w) (hl : l.length ≤ 1024) : Calls Tryz.prog 44 #[v] w fun e w' => ∃ v', e = .returned v' ∧ w'.ownsRow w.heap.size 26 2 v' l.length (l.flatMap KI.cells) ∧ Below w.heap.size w w' := by
  obtain ⟨pa, c, rfl, h1, h2, h3⟩ := h
  have HC := hidB h3
  clear h3
  have HL := hidB hl
  have q : ∀ (w : World) (a : Option Addr) (n c n' c' : Nat), (binOp .eql 47 (.slice a n c) (.slice none n' c')).run Tryz.prog w = .ok (.bool a.isNone) w := fun w a n c n' c' => Go.Lib.run_eql_slice_nil w _ _ a n c n' c' Tryz.underlying47
  obtain ⟨i0, hi, hz0, hz1, hz2⟩ := info_parts info_key
  cases pa with
  | none =>
    have h0 : l = [] := by
      cases l with
      | nil => rfl
      | cons a r => obtain ⟨g, o, e, _⟩ := HC.out (by simp); cases e
    subst h0
    clear h1 HC
    go_enter Tryz.func44, Tryz.ntmps44
    go_wp2
    go_ret
    exact ⟨_, rfl, World.ownsRow_nil _ _ _ _, Below.refl _ _⟩
  | some ad =>
    go_enter Tryz.func44, Tryz.ntmps44
    go_wp2_with (at_builtin; refine wpList_append_own _ rfl _ _ 47 rfl w.heap.size 26 i0 (.agg #[.string ⟨#[]⟩, .int .i64 0]) 2 24 Tryz.underlying47 hi hz0 hz1 hz2 rfl (by decide) _ _ _ rfl (World.ownsRow_made w #[] 0 (Nat.le_refl _) (Nat.zero_le _) rfl) ad l.length c (l.flatMap KI.cells) rfl ?qc1 ?qc2 ?qc3 ?qc4 ?qc5 ?qc6 ?_)
    case qc1 => exact flat_length _ _ KI.cells_len l
    case qc2 =>
      intro j u hj
      have hne : 0 < l.length := by
        cases l with
        | nil => simp at hj
        | cons a r => simp
      obtain ⟨g, o, e, hg, hx⟩ := HC.out hne
      cases e
      exact alloc_some (flat_cells KI.cells_len (by decide) hx j u hj)
    case qc3 => exact flat_one KI.cells_one l
    case qc4 => unfold maxLen; have := HL.out; omega
    case qc5 => have := HL.out; omega
    case qc6 => simp
    intro v' w1 hown hgrow hnil
    go_wp2
    go_ret
    refine ⟨v', rfl, by simpa using hown, ?_⟩
    exact ((Below.refl _ w).alloc (Nat.le_refl _) _).grown hgrow (by simp) (by intro k hk; simp [Value.ownBlock] at hk; omega)
set_option maxHeartbeats 8000000 in
set_option maxRecDepth 100000 in
theorem cloneV_any (l : List VI) (v : Value) (w : World) (h : RdL VI.cells 4 l v w) (hl : l.length ≤ 1024) : Calls Tryz.prog 15 #[v] w fun e w' => ∃ v', e = .returned v' ∧ w'.ownsRow w.heap.size 29 4 v' l.length (l.flatMap VI.cells) ∧ Below w.heap.size w w' := by
  obtain ⟨pa, c, rfl, h1, h2, h3⟩ := h
  have HC := hidB h3
  clear h3
  have HL := hidB hl
  have q : ∀ (w : World) (a : Option Addr) (n c n' c' : Nat), (binOp .eql 32 (.slice a n c) (.slice none n' c')).run Tryz.prog w = .ok (.bool a.isNone) w := fun w a n c n' c' => Go.Lib.run_eql_slice_nil w _ _ a n c n' c' Tryz.underlying32
  obtain ⟨i0, hi, hz0, hz1, hz2⟩ := info_parts info_val
  cases pa with
  | none =>
    have h0 : l = [] := by
      cases l with
      | nil => rfl
      | cons a r => obtain ⟨g, o, e, _⟩ := HC.out (by simp); cases e
    subst h0
    clear h1 HC
    go_enter Tryz.func15, Tryz.ntmps15
    go_wp2
    go_ret
    exact ⟨_, rfl, World.ownsRow_nil _ _ _ _, Below.refl _ _⟩
  | some ad =>
    go_enter Tryz.func15, Tryz.ntmps15
    go_wp2_with (at_builtin; refine wpList_append_own _ rfl _ _ 32 rfl w.heap.size 29 i0 (.agg #[.int .u8 0, .float .f64 0, .string ⟨#[]⟩, .int .i64 0]) 4 40 Tryz.underlying32 hi hz0 hz1 hz2 rfl (by decide) _ _ _ rfl (World.ownsRow_made w #[] 0 (Nat.le_refl _) (Nat.zero_le _) rfl) ad l.length c (l.flatMap VI.cells) rfl ?qc1 ?qc2 ?qc3 ?qc4 ?qc5 ?qc6 ?_)
    case qc1 => exact flat_length _ _ VI.cells_len l
    case qc2 =>
      intro j u hj
      have hne : 0 < l.length := by
        cases l with
        | nil => simp at hj
        | cons a r => simp
      obtain ⟨g, o, e, hg, hx⟩ := HC.out hne
      cases e
      exact alloc_some (flat_cells VI.cells_len (by decide) hx j u hj)
    case qc3 => exact flat_one VI.cells_one l
    case qc4 => unfold maxLen; have := HL.out; omega
    case qc5 => have := HL.out; omega
    case qc6 => simp
    intro v' w1 hown hgrow hnil
    go_wp2
    go_ret
    refine ⟨v', rfl, by simpa using hown, ?_⟩
    exact ((Below.refl _ w).alloc (Nat.le_refl _) _).grown hgrow (by simp) (by intro k hk; simp [Value.ownBlock] at hk; omega)
theorem yieldsIf_build {P : Program} {ops : Array Oper} {S : World → Prop} {op : Oper} {a : Act} (hw : Region.wanted op (yielded ops a.tmps) = true) (t : TypeId) (parts : Array (Nat × Operand)) (ho : op.op = .build t parts) (vals : List (Nat × Value)) (hv : (parts.map fun (i, x) => (i, a.eval x)).toList = vals) (cells : Array Value) (hf : P.built t vals = some cells) : YieldsIf P ops S op (.agg cells) a :=
  .inl ⟨hw, fun w _ => by
    unfold execOp
    simp only [ho, Sem.run_bind, run_build w t _ cells (by rw [hv]; exact hf), Result.andThen_ok]
    rfl⟩
theorem run_buildSlice {P : Program} (w : World) (t e : TypeId) (n size : Nat) (i : TypeInfo) (z : Value) (parts : Array (Nat × Value)) (cells : Array Value) (ht : P.underlying t = some (.slice e)) (hi : P.info? e = some i) (hz : i.zero = some z) (hs : i.size = size) (hn : ¬ n * size > 2 ^ 24) (h0 : n * size ≠ 0)
    (hf : Instr.fill (fun j => some (j * size, size)) ((Array.range (n * size)).map (z.cells[· % z.cells.size]!)) parts.toList = some cells) : (Instr.buildSlice t n parts).run P w = .ok (.slice (some ⟨w.heap.size, 0, none⟩) n n) (w.alloc (.cells cells e)) := by
  have hsz : (sizeOf e).run P w = .ok size w := by rw [run_sizeOf w hi, Program.cellsOf, hi]; simp [hs]
  have hzv : (zeroValue e).run P w = .ok z w := by simp [zeroValue, hi, hz, typeInfo]
  unfold Instr.buildSlice
  simp only [Sem.run_bind, run_underlying ht, Result.andThen_ok, hsz, Sem.run_ite, if_neg hn, if_neg h0, hzv, Sem.run_pure, hf]
  simp only [newRow, Sem.run_bind]
  rfl

theorem wp_buildSlice {P : Program} {op : Oper} {a : Act} {w : World} {K : Act → World → Prop} {Q : Exit → Act → World → Prop} (t e : TypeId) (n size : Nat) (parts : Array (Nat × Operand)) (ho : op.op = .buildSlice t n parts) (vals : List (Nat × Value)) (hv : (parts.map fun (i, x) => (i, a.eval x)).toList = vals) (z : Value) (cells : Array Value) (ht : P.underlying t = some (.slice e)) (hi : (P.info? e).map (fun i => (i.zero, i.size)) = some (some z, size)) (hn : ¬ n * size > 2 ^ 24) (h0 : n * size ≠ 0)
    (hf : Instr.fill (fun j => some (j * size, size)) ((Array.range (n * size)).map (z.cells[· % z.cells.size]!)) vals = some cells) (h : K (a.put op.dst (.slice (some ⟨w.heap.size, 0, none⟩) n n)) (w.alloc (.cells cells e))) : op.wp P a w K Q := by
  obtain ⟨i, hi, he⟩ := Option.map_eq_some_iff.1 hi
  simp only [Prod.mk.injEq] at he
  unfold Oper.wp execOp
  simp only [ho, Sem.run_bind, run_buildSlice w t e n size i z _ cells ht hi he.1 he.2 hn h0 (by rw [hv]; exact hf), Result.andThen_ok]
  exact h
theorem keyOf_any (s : ByteArray) (w : World) : Calls Tryz.prog 92 #[.string s] w fun e w' => e = .returned (KI.a ⟨s, 0⟩) ∧ Below w.heap.size w w' := by
  go_enter Tryz.func92, Tryz.ntmps92
  go_wp2
  exact bodyPost_ret (v := KI.a ⟨s, 0⟩) (by simp [results, Tryz.results92, go_sem]) rfl ⟨rfl, (Below.refl _ _).alloc (Nat.le_refl _) _⟩


/-- The same outcome, its keys elsewhere. -/
abbrev OI.put (x : OI) (kv : Value) : OI := { x with keys := kv }
def doneI (v : VI) : OI := ⟨1, v, false, false, .zero, vNil, 0, ⟨#[]⟩⟩
set_option maxHeartbeats 8000000 in
set_option maxRecDepth 100000 in
theorem twin_any (x : OI) (ks : List KI) (w : World) (h : RdL KI.cells 2 ks x.keys w) (hl : ks.length ≤ 1024) : Calls Tryz.prog 23 #[x.a] w fun e w' => ∃ kv, e = .returned (x.put kv).a ∧ w'.ownsRow w.heap.size 26 2 kv ks.length (ks.flatMap KI.cells) ∧ Below w.heap.size w w' := by
  have CA := hidB (fun W hr => cloneK_any ks x.keys W hr hl)
  have HR := hidB (fun W (hb : Below w.heap.size w W) => h.on hb)
  clear h hl
  have X := hidB (show Bk ((w.alloc (.cells (x.cs) 49)).alloc (.cells (#[.int .u8 0, .int .u8 0, .float .f64 0, .string ⟨#[]⟩, .int .i64 0, .bool false, .bool false, .int .u8 0, .int .u8 0, .float .f64 0, .string ⟨#[]⟩, .int .i64 0, .int .u8 0, .float .f64 0, .string ⟨#[]⟩, .int .i64 0, .int .u8 0, .float .f64 0, .string ⟨#[]⟩, .int .i64 0, .bool false, .bool false, .bool false, .slice none 0 0, .int .u8 0, .string ⟨#[]⟩]) 49)) (w.heap.size) 49 (x.cs) from (Bk.new w _ _).alloc _)
  have R := hidB (show Bk ((w.alloc (.cells (x.cs) 49)).alloc (.cells (#[.int .u8 0, .int .u8 0, .float .f64 0, .string ⟨#[]⟩, .int .i64 0, .bool false, .bool false, .int .u8 0, .int .u8 0, .float .f64 0, .string ⟨#[]⟩, .int .i64 0, .int .u8 0, .float .f64 0, .string ⟨#[]⟩, .int .i64 0, .int .u8 0, .float .f64 0, .string ⟨#[]⟩, .int .i64 0, .bool false, .bool false, .bool false, .slice none 0 0, .int .u8 0, .string ⟨#[]⟩]) 49)) (w.heap.size + 1) 49 (OI.zero.cs) from Bk.new2 w _ _ _)
  have B := hidB (show Below w.heap.size w ((w.alloc (.cells (x.cs) 49)).alloc (.cells (#[.int .u8 0, .int .u8 0, .float .f64 0, .string ⟨#[]⟩, .int .i64 0, .bool false, .bool false, .int .u8 0, .int .u8 0, .float .f64 0, .string ⟨#[]⟩, .int .i64 0, .int .u8 0, .float .f64 0, .string ⟨#[]⟩, .int .i64 0, .int .u8 0, .float .f64 0, .string ⟨#[]⟩, .int .i64 0, .bool false, .bool false, .bool false, .slice none 0 0, .int .u8 0, .string ⟨#[]⟩]) 49)) from (box_one w _).alloc (by simp) _)
  go_enter Tryz.func23, Tryz.ntmps23
  go_upto_region 1 with fail
  generalize hW : ((w.alloc (.cells (x.cs) 49)).alloc (.cells (#[.int .u8 0, .int .u8 0, .float .f64 0, .string ⟨#[]⟩, .int .i64 0, .bool false, .bool false, .int .u8 0, .int .u8 0, .float .f64 0, .string ⟨#[]⟩, .int .i64 0, .int .u8 0, .float .f64 0, .string ⟨#[]⟩, .int .i64 0, .int .u8 0, .float .f64 0, .string ⟨#[]⟩, .int .i64 0, .bool false, .bool false, .bool false, .slice none 0 0, .int .u8 0, .string ⟨#[]⟩]) 49)) = w1 at *
  clear hW
  have x23 : w1.cell? ⟨w.heap.size, 23, none⟩ = some x.keys := X.out.cell 23
  go_wp2_with fail
  refine (CA.out _ (HR.out _ B.out)).mono ?_; rintro e w2 ⟨kv, rfl, hown, hb⟩
  obtain ⟨q, c, hkv⟩ := own_slice hown
  subst hkv
  have HO := hidB hown
  have HS := hidB R.out.lt
  replace X := hidB (X.out.on hb)
  replace R := hidB (R.out.on hb)
  replace B := hidB (B.out.trans (hb.mono B.out.size))
  clear hb hown x23 CA HR
  have y23 : w2.cell? ⟨w.heap.size, 23, none⟩ = some x.keys := X.out.cell 23
  have f23 : w2.frozen? ⟨w.heap.size, 23, none⟩ = false := X.out.free 23
  have X3 := hidB (show Bk (w2.setCell ⟨w.heap.size, 23, none⟩ (.slice q ks.length c)) (w.heap.size) 49 (x.put (.slice q ks.length c)).cs from X.out.set 23 _)
  have R3 := hidB (show Bk (w2.setCell ⟨w.heap.size, 23, none⟩ (.slice q ks.length c)) (w.heap.size + 1) 49 OI.zero.cs from R.out.far (p := ⟨w.heap.size, 23, none⟩) (by simp) _)
  have B3 := hidB (show Below w.heap.size w (w2.setCell ⟨w.heap.size, 23, none⟩ (.slice q ks.length c)) from B.out.setCell (p := ⟨w.heap.size, 23, none⟩) (Nat.le_refl _) _)
  have HO3 := hidB (show (w2.setCell ⟨w.heap.size, 23, none⟩ (.slice q ks.length c)).ownsRow w1.heap.size 26 2 (.slice q ks.length c) ks.length (ks.flatMap KI.cells) from own_setCell HO.out (by have := HS.out; simp; omega) _)
  clear X R B HO
  go_upto_region 2 with fail
  generalize hW : (w2.setCell ⟨w.heap.size, 23, none⟩ (.slice q ks.length c)) = w3 at *
  clear hW y23 f23
  go_wp2_with (first | ((with_reducible refine ldId 49 (.tmp 1) ?_); refine wpList_load_row (by rfl) 49 (.tmp 1) (by rfl) (w.heap.size) (by rfl) 49 ((x.put (.slice q ks.length c)).cs) (0, 0) _ (by exact X3.out) Tryz.underlying49 (by rfl) (by kernel_rfl) ?_) | ((with_reducible refine stId 49 (.tmp 2) (.tmp 7) ?_); refine wpList_store_row (by rfl) 49 (.tmp 2) (.tmp 7) (by rfl) (w.heap.size + 1) ((x.put (.slice q ks.length c)).cs) (by rfl) (by rfl) 49 (OI.zero.cs) (by exact R3.out) (by kernel_rfl) (by rfl) (by exact OI.one _ rfl) ?_))
  exact bodyPost_ret (v := .agg ((x.put (.slice q ks.length c)).cs)) (results_cell_row Tryz.results23 _ _ (w.heap.size + 1) 49 ((x.put (.slice q ks.length c)).cs) (0, 0) _ rfl (R3.out.setRow _) Tryz.underlying49 rfl (by kernel_rfl)) rfl (⟨_, rfl, own_base (own_setRow HO3.out HS.out _) (fun k hk => Nat.le_trans (by have := HS.out; omega) (HO3.out.lt k hk).1), below_setRow B3.out (Nat.le_succ _) _⟩)
set_option maxHeartbeats 8000000 in
set_option maxRecDepth 100000 in
theorem doneI_any (v : VI) (w : World) : Calls Tryz.prog 64 #[v.a] w fun e w' => e = .returned (doneI v).a ∧ Below w.heap.size w w' := by
  have X := hidB (show Bk ((w.alloc (.cells (v.cells.toArray) 29)).alloc (.cells (#[.int .u8 0, .int .u8 0, .float .f64 0, .string ⟨#[]⟩, .int .i64 0, .bool false, .bool false, .int .u8 0, .int .u8 0, .float .f64 0, .string ⟨#[]⟩, .int .i64 0, .int .u8 0, .float .f64 0, .string ⟨#[]⟩, .int .i64 0, .int .u8 0, .float .f64 0, .string ⟨#[]⟩, .int .i64 0, .bool false, .bool false, .bool false, .slice none 0 0, .int .u8 0, .string ⟨#[]⟩]) 49)) (w.heap.size) 29 (v.cells.toArray) from (Bk.new w _ _).alloc _)
  have R := hidB (show Bk ((w.alloc (.cells (v.cells.toArray) 29)).alloc (.cells (#[.int .u8 0, .int .u8 0, .float .f64 0, .string ⟨#[]⟩, .int .i64 0, .bool false, .bool false, .int .u8 0, .int .u8 0, .float .f64 0, .string ⟨#[]⟩, .int .i64 0, .int .u8 0, .float .f64 0, .string ⟨#[]⟩, .int .i64 0, .int .u8 0, .float .f64 0, .string ⟨#[]⟩, .int .i64 0, .bool false, .bool false, .bool false, .slice none 0 0, .int .u8 0, .string ⟨#[]⟩]) 49)) (w.heap.size + 1) 49 (OI.zero.cs) from Bk.new2 w _ _ _)
  have B := hidB (show Below w.heap.size w ((w.alloc (.cells (v.cells.toArray) 29)).alloc (.cells (#[.int .u8 0, .int .u8 0, .float .f64 0, .string ⟨#[]⟩, .int .i64 0, .bool false, .bool false, .int .u8 0, .int .u8 0, .float .f64 0, .string ⟨#[]⟩, .int .i64 0, .int .u8 0, .float .f64 0, .string ⟨#[]⟩, .int .i64 0, .int .u8 0, .float .f64 0, .string ⟨#[]⟩, .int .i64 0, .bool false, .bool false, .bool false, .slice none 0 0, .int .u8 0, .string ⟨#[]⟩]) 49)) from (box_one w _).alloc (by simp) _)
  go_enter Tryz.func64, Tryz.ntmps64
  go_upto_region 1 with fail
  generalize hW : ((w.alloc (.cells (v.cells.toArray) 29)).alloc (.cells (#[.int .u8 0, .int .u8 0, .float .f64 0, .string ⟨#[]⟩, .int .i64 0, .bool false, .bool false, .int .u8 0, .int .u8 0, .float .f64 0, .string ⟨#[]⟩, .int .i64 0, .int .u8 0, .float .f64 0, .string ⟨#[]⟩, .int .i64 0, .int .u8 0, .float .f64 0, .string ⟨#[]⟩, .int .i64 0, .bool false, .bool false, .bool false, .slice none 0 0, .int .u8 0, .string ⟨#[]⟩]) 49)) = w1 at *
  clear hW
  go_wp2_with (first | ((with_reducible refine ldId 29 (.tmp 1) ?_); refine wpList_load_row (by rfl) 29 (.tmp 1) (by rfl) (w.heap.size) (by rfl) 29 (v.cells.toArray) (0, 0) _ (by exact X.out) Tryz.underlying29 (by rfl) (by kernel_rfl) ?_) | ((with_reducible refine wpId ?_); refine wpList_build_to (by rfl) 49 _ (by rfl) ((doneI v).cs) (by kernel_rfl) ?_) | ((with_reducible refine stId 49 (.tmp 2) (.tmp 4) ?_); refine wpList_store_row (by rfl) 49 (.tmp 2) (.tmp 4) (by rfl) (w.heap.size + 1) ((doneI v).cs) (by rfl) (by rfl) 49 (OI.zero.cs) (by exact R.out) (by kernel_rfl) (by rfl) (by exact OI.one _ rfl) ?_))
  exact bodyPost_ret (v := .agg ((doneI v).cs)) (results_cell_row Tryz.results64 _ _ (w.heap.size + 1) 49 ((doneI v).cs) (0, 0) _ rfl (R.out.setRow _) Tryz.underlying49 rfl (by kernel_rfl)) rfl (⟨rfl, below_setRow B.out (by first | exact Nat.le_refl _ | exact Nat.le_succ _) _⟩)
end Go.Proofs.YtbmaodlghglopaaGreatDoor
