/-
  A task of reach is gone on with for the first time, up to its end.
-/
import Derived.Test.YtbmaodlghglopaaGreatDoorMxA
import Derived.Test.YtbmaodlghglopaaGreatDoorTp9
namespace Go.Proofs.YtbmaodlghglopaaGreatDoor
open Go.RowKit

theorem results_cctt {P : Program} {fn : Func} {p p2 u u2 : Tmp} {ty ty2 : TypeId} (h : fn.results = #[.cell p ty, .cell p2 ty2, .tmp u, .tmp u2]) (tmps : Array Value) (w : World) (g g2 : Nat) (t t2 : TypeId) (cs cs2 : Array Value) (d d2 : TypeDesc)
    (hp : tmps.getD p undef = .pointer (some ⟨g, 0, none⟩)) (hg : w.heap[g]? = some (.cells cs t (0, 0)))
    (hu : P.underlying ty = some d) (hd : (match d with | .struct _ | .array _ _ => true | _ => false) = true) (hi : (P.info? ty).map (·.size) = some cs.size)
    (hp2 : tmps.getD p2 undef = .pointer (some ⟨g2, 0, none⟩)) (hg2 : w.heap[g2]? = some (.cells cs2 t2 (0, 0)))
    (hu2 : P.underlying ty2 = some d2) (hd2 : (match d2 with | .struct _ | .array _ _ => true | _ => false) = true) (hi2 : (P.info? ty2).map (·.size) = some cs2.size) :
    (results fn tmps).run P w = .ok (.tuple #[.agg cs, .agg cs2, tmps.getD u undef, tmps.getD u2 undef]) w := by
  have hp' : tmps[p]?.getD undef = .pointer (some ⟨g, 0, none⟩) := by simpa using hp
  have hp2' : tmps[p2]?.getD undef = .pointer (some ⟨g2, 0, none⟩) := by simpa using hp2
  simp [results, h, hp', hp2', asAddr, run_loadVar_row w g t ty cs (0, 0) d hg hu hd hi, run_loadVar_row w g2 t2 ty2 cs2 (0, 0) d2 hg2 hu2 hd2 hi2]
theorem flatH_ones {h : HI} {hv : Value} {w : World} (hr : RdH h hv w) : ∀ u ∈ flatH h, u.oneCell' = true := by
  intro u hu
  obtain ⟨e, he, hu⟩ := List.mem_flatMap.1 hu
  exact (Array.all_eq_true_iff_forall_mem.1 (oj_one e.1 (hr.props e he).one)) u (by simpa [objF] using hu)

set_option maxHeartbeats 8000000 in
set_option maxRecDepth 100000 in
theorem cloneO_any (h : HI) (hv : Value) (w : World) (hr : RdH h hv w) (hl : h.length ≤ 9000) : Calls Tryz.prog 24 #[hv] w fun e w' => ∃ q n c, e = .returned (.slice q n c) ∧ Below w.heap.size w w' := by
  have HON := hidB (flatH_ones hr)
  obtain ⟨⟨pa, c, rfl, h1, h2, h3⟩, hp⟩ := hr
  have HC := hidB h3
  clear h3 hp
  have HL := hidB hl
  have q : ∀ (w : World) (a : Option Addr) (n c n' c' : Nat), (binOp .eql 22 (.slice a n c) (.slice none n' c')).run Tryz.prog w = .ok (.bool a.isNone) w := fun w a n c n' c' => Go.Lib.run_eql_slice_nil w _ _ a n c n' c' Tryz.underlying22
  obtain ⟨i0, hi, hz0, hz1, hz2⟩ := info_parts info_objH
  cases pa with
  | none =>
    have h0 : h = [] := by
      cases h with
      | nil => rfl
      | cons a r => obtain ⟨g, o, e, _⟩ := HC.out (by simp); cases e
    subst h0
    clear h1 HC
    go_enter Tryz.func24, Tryz.ntmps24
    go_wp2
    go_ret
    exact ⟨none, 0, 0, rfl, Below.refl _ _⟩
  | some ad =>
    go_enter Tryz.func24, Tryz.ntmps24
    go_wp2_with (at_builtin; refine wpList_append_own _ rfl _ _ 22 rfl w.heap.size 42 i0 (.agg zeroObjH) 18 184 Tryz.underlying22 hi hz0 hz1 hz2 rfl (by decide) _ _ _ rfl (World.ownsRow_made w #[] 0 (Nat.le_refl _) (Nat.zero_le _) rfl) ad h.length c (flatH h) rfl ?qc1 ?qc2 ?qc3 ?qc4 ?qc5 ?qc6 ?_)
    case qc1 => exact flatH_len h
    case qc2 =>
      intro j u hj
      obtain ⟨i, hil, hm, rfl, hu⟩ := flat_find objF_len (by decide) hj
      obtain ⟨g, o, e, hg, hx⟩ := HC.out (by omega)
      cases e
      have := hx (j / 18) hil (j % 18) u hu
      rw [Addr.add_mid]
      have e : o + j / 18 * 18 + j % 18 = o + j := by omega
      rw [e] at this
      exact alloc_someH this
    case qc3 => exact HON.out
    case qc4 => unfold maxLen; have := HL.out; omega
    case qc5 => have := HL.out; omega
    intro v' w1 hown hgrow hnil
    obtain ⟨q1, c1, rfl⟩ := own_slice hown
    go_wp2
    go_ret
    exact ⟨q1, _, c1, rfl, ((Below.refl _ w).alloc (Nat.le_refl _) _).grown hgrow (by simp) (by intro k hk; simp [Value.ownBlock] at hk; omega)⟩
theorem begT_keep {r : BR} {iv : Value} {A : Nat → Prop} {w w' : World} (h : begT r iv A w) (hs : w.heap.size ≤ w'.heap.size) (hb : ∀ k, A k → w'.heap[k]? = w.heap[k]?) : begT r iv A w' := by
  cases r with
  | now x => exact h
  | tk P => obtain ⟨S, h1, h2⟩ := h; exact ⟨S, h1, h2.keep hs hb⟩
/-- A heap of a call's own stays where rows of other types are stored to. -/
theorem FreshH_far2 {B : Nat} {h : HI} {hv : Value} {w : World} {g1 g2 : Nat} {t1 t2 : TypeId} {c1 c2 : Array Value} (f : FreshH B h hv w) (b1 : Bk w g1 t1 c1) (b2 : Bk w g2 t2 c2) (n1 : t1 ≠ 91) (n2 : t2 ≠ 91) (hB : g1 < B ∧ g2 < B) (d1 d2 : Array Value) : FreshH B h hv ((w.setRow g1 d1).setRow g2 d2) := by
  have s1 : (w.setRow g1 d1).heap.size = w.heap.size := by simp [World.setRow]
  have s2 : ((w.setRow g1 d1).setRow g2 d2).heap.size = (w.setRow g1 d1).heap.size := by simp [World.setRow]
  have b2' : ∃ c, Bk (w.setRow g1 d1) g2 t2 c := by
    by_cases e : g1 = g2
    · subst e
      have hh := b1.symm.trans b2
      simp only [Option.some.injEq, Obj.cells.injEq] at hh
      obtain ⟨_, rfl, _⟩ := hh
      exact ⟨_, b1.setRow _⟩
    · exact ⟨_, b2.setRow_far e _⟩
  obtain ⟨c2', b2'⟩ := b2'
  refine ⟨own_eq f.own (fun k hk => (heap_setRow _ (by have := (f.own.lt k hk).1; omega) _).trans (heap_setRow _ (by have := (f.own.lt k hk).1; omega) _)), fun e he => ?_⟩
  exact ((f.props e he).far b1 n1 (Nat.zero_le _) (Nat.le_of_eq s1.symm) (fun b hb => heap_setRow _ hb _)).far b2' n2 (Nat.zero_le _) (Nat.le_of_eq s2.symm) (fun b hb => heap_setRow _ hb _)
/-- What stands behind the first ask. -/
def begK (r : BR) (tk : Option ((List (OI × List KI) → Res) × Q)) : Prop := match r with
  | .now _ => tk = none
  | .tk P => ∃ S', P S' ∧ tk = some (S', Q.fresh)
def NextP1 (h : HI) (wx : World) (B1 T : Nat) (w : World) (res : OI) (k : Nat) (e : Ending) (w' : World) : Prop := ∃ (h' : HI) (v' : Value) (q : Option Addr) (c : Nat), e = .returned (.tuple #[.agg #[v'], (endW res).a, .slice q k c, .int .i64 0]) ∧ bareH h' = bareH h ∧ RdH h' v' w' ∧ Below B1 wx w' ∧ Kept (fun j => j = T) w w'

set_option maxHeartbeats 8000000 in
set_option maxRecDepth 100000 in
theorem next1_any (h : HI) (hv : Value) (wx : World) (B1 gw T : Nat) (fa : AI) (flv : Int) (N : Nat) (res : OI) (k : Nat) (r : BR) (o : OI) (hv0 : Value) (w : World) (hR : ∀ W, Below B1 wx W → RdH h hv W) (hl1 : h.length ≤ 9000) (hl2 : ∀ e ∈ h, e.2.length ≤ 4096) (hb : BegOK h fa r) (hfl : flv ≤ 64) (hN : N ≤ 8000) (hgd : ∀ tk, begK r tk → Good h N [⟨fa, flv, tk⟩] (begO r) res k) (hres : res.keys = vNil) (hB1 : B1 ≤ T) (hT : Bk w T 68 (tkC gw vNil 0 0 fa flv 0 false vNil vNil)) (hW : Bk w gw 65 #[hv]) (hx : Below B1 wx w) (hBw : B1 ≤ w.heap.size) : Calls Tryz.prog 10 #[ptr T, .agg #[hv0], o.a] w (NextP1 h wx B1 T w res k) := by
  obtain ⟨⟨pa, ca, rfl, _⟩, _⟩ := hR w hx
  have HRX := hidB hR
  have HL1 := hidB hl1
  have HL2 := hidB hl2
  have HBO := hidB hb
  have HGD := hidB hgd
  have HRES := hidB hres
  have HB1 := hidB hB1
  have HTL := hidB hT.lt
  have HWL := hidB hW.lt
  have HX := hidB hx
  have HBW := hidB hBw
  have X0 := hidB (show Bk ((((w.alloc (.cells (#[hv0]) 24)).alloc (.cells (o.cs) 49)).alloc (.cells (#[.slice none 0 0]) 24)).alloc (.cells (Tryz.zeroCells51) 51)) (w.heap.size) 24 (#[hv0]) from (((Bk.new w _ _).alloc _).alloc _).alloc _)
  have Y := hidB (show Bk ((((w.alloc (.cells (#[hv0]) 24)).alloc (.cells (o.cs) 49)).alloc (.cells (#[.slice none 0 0]) 24)).alloc (.cells (Tryz.zeroCells51) 51)) (w.heap.size + 1) 49 (o.cs) from ((Bk.new2 w _ _ _).alloc _).alloc _)
  have RH := hidB (show Bk ((((w.alloc (.cells (#[hv0]) 24)).alloc (.cells (o.cs) 49)).alloc (.cells (#[.slice none 0 0]) 24)).alloc (.cells (Tryz.zeroCells51) 51)) (w.heap.size + 1 + 1) 24 (#[.slice none 0 0]) from (Bk.new3 w _ _ _ _).alloc _)
  have RW := hidB (show Bk ((((w.alloc (.cells (#[hv0]) 24)).alloc (.cells (o.cs) 49)).alloc (.cells (#[.slice none 0 0]) 24)).alloc (.cells (Tryz.zeroCells51) 51)) (w.heap.size + 1 + 1 + 1) 51 (WI.zero.cs) from Bk.new4 w _ _ _ _ _)
  have B := hidB (show Below w.heap.size w ((((w.alloc (.cells (#[hv0]) 24)).alloc (.cells (o.cs) 49)).alloc (.cells (#[.slice none 0 0]) 24)).alloc (.cells (Tryz.zeroCells51) 51)) from (((box_one w _).alloc (by simp) _).alloc (by simp <;> omega) _).alloc (by simp <;> omega) _)
  have TB := hidB (show Bk ((((w.alloc (.cells (#[hv0]) 24)).alloc (.cells (o.cs) 49)).alloc (.cells (#[.slice none 0 0]) 24)).alloc (.cells (Tryz.zeroCells51) 51)) T 68 (tkC gw vNil 0 0 fa flv 0 false vNil vNil) from (((hT.alloc _).alloc _).alloc _).alloc _)
  have GW := hidB (show Bk ((((w.alloc (.cells (#[hv0]) 24)).alloc (.cells (o.cs) 49)).alloc (.cells (#[.slice none 0 0]) 24)).alloc (.cells (Tryz.zeroCells51) 51)) gw 65 #[(.slice pa h.length ca)] from (((hW.alloc _).alloc _).alloc _).alloc _)
  have KP := hidB (show Kept (fun j => j = T) w ((((w.alloc (.cells (#[hv0]) 24)).alloc (.cells (o.cs) 49)).alloc (.cells (#[.slice none 0 0]) 24)).alloc (.cells (Tryz.zeroCells51) 51)) from Kept.below B.out)
  clear hR hl1 hl2 hb hgd hres hB1 hT hW hx hBw
  go_enter Tryz.func10, Tryz.ntmps10
  go_upto_region 1 with fail
  generalize hW : ((((w.alloc (.cells (#[hv0]) 24)).alloc (.cells (o.cs) 49)).alloc (.cells (#[.slice none 0 0]) 24)).alloc (.cells (Tryz.zeroCells51) 51)) = w1 at *
  clear hW
  have t0 : w1.cell? ⟨T, 0, none⟩ = some (.pointer (some ⟨gw, 0, none⟩)) := TB.out.cell 0
  have t35 : w1.cell? ⟨T, 35, none⟩ = some (.bool false) := TB.out.cell 35
  go_upto_region 5 with fail
  clear t0 t35
  have X10 := hidB (show Bk (w1.alloc (.cells (Tryz.zeroCells51) 51)) w1.heap.size 51 WI.zero.cs from Bk.new w1 _ _)
  have HL10 := hidB (show w.heap.size + 1 + 1 + 1 < w1.heap.size from RW.out.lt)
  replace Y := hidB (Y.out.on (box_one w1 (.cells (Tryz.zeroCells51) 51)))
  replace RH := hidB (RH.out.on (box_one w1 (.cells (Tryz.zeroCells51) 51)))
  replace RW := hidB (RW.out.on (box_one w1 (.cells (Tryz.zeroCells51) 51)))
  replace TB := hidB (TB.out.on (box_one w1 (.cells (Tryz.zeroCells51) 51)))
  replace GW := hidB (GW.out.on (box_one w1 (.cells (Tryz.zeroCells51) 51)))
  replace B := hidB (show Below w.heap.size w (w1.alloc (.cells (Tryz.zeroCells51) 51)) from B.out.alloc B.out.size _)
  replace KP := hidB (show Kept (fun j => j = T) w (w1.alloc (.cells (Tryz.zeroCells51) 51)) from KP.out.alloc _)
  go_upto_region 6 with fail
  generalize hW : (w1.alloc (.cells (Tryz.zeroCells51) 51)) = w2 at *
  generalize hG : w1.heap.size = g10 at *
  clear hW hG
  have t34 : w2.cell? ⟨T, 34, none⟩ = some (.int .u8 0) := TB.out.cell 34
  go_upto_region 7 with fail
  clear t34
  refine wp_region_noPanic ?_
  refine wp_region_held_drew (S := fun W => ∃ sv bg, Bk W T 68 (tkC gw sv 0 bg fa flv 0 false vNil vNil)) (by kernel_rfl) ?_ (fun hHeld => ?_)
  · exact ⟨vNil, 0, TB.out.drew⟩
  have TBd := hidB (show Bk w2.drew T 68 (tkC gw vNil 0 0 fa flv 0 false vNil vNil) from TB.out.drew)
  have GWd := hidB (show Bk w2.drew gw 65 #[(.slice pa h.length ca)] from GW.out.drew)
  have Yd := hidB (show Bk w2.drew (w.heap.size + 1) 49 o.cs from Y.out.drew)
  have RHd := hidB (show Bk w2.drew (w.heap.size + 1 + 1) 24 #[.slice none 0 0] from RH.out.drew)
  have RWd := hidB (show Bk w2.drew (w.heap.size + 1 + 1 + 1) 51 WI.zero.cs from RW.out.drew)
  have X10d := hidB (show Bk w2.drew g10 51 WI.zero.cs from X10.out.drew)
  have HWD := hidB (show w2.heap.size ≤ w2.drew.heap.size from Nat.le_refl _)
  have X10L := hidB X10.out.lt
  have KPd := hidB (show Kept (fun j => j = T) w w2.drew from KP.out.drew)
  have HX2 := hidB (show Below B1 wx w2.drew from (HX.out.trans (B.out.mono HBW.out)).drew)
  have HNG := hidB (show gw ≠ T from fun h => by have h1 := GW.out; rw [h] at h1; exact absurd (h1.symm.trans TB.out) (by intro h; injection h with h; injection h with _ h _; exact absurd h (by decide)))
  generalize hWd : w2.drew = wd at *
  clear hWd
  first | (refine wpAnyH_take (i := 0) (v := undef) (by exact gE rfl) (by kernel_rfl) (by kernel_rfl) (by kernel_rfl) (fun _ _ _ h => h) (Or.inr ⟨?_, rfl⟩) (by assumption) ?_; (rfl); try simp only [Act.put, List.setIfInBounds_toArray, List.set_cons_zero, List.set_cons_succ]) | (refine wpAnyH_take (i := 0) (v := ?_) (by exact gE rfl) (by kernel_rfl) (by kernel_rfl) (by kernel_rfl) (fun _ _ _ h => h) (Or.inl ⟨?_, ?_⟩) (by assumption) ?_; rotate_left; (rfl); (focus (intro w hSw; (try dsimp only at hSw); go_simp; try with_reducible rfl)); try simp only [Act.put, List.setIfInBounds_toArray, List.set_cons_zero, List.set_cons_succ])
  first | (refine wpAnyH_take (i := 1) (v := undef) (by exact gE rfl) (by kernel_rfl) (by kernel_rfl) (by kernel_rfl) (fun _ _ _ h => h) (Or.inr ⟨?_, rfl⟩) (by assumption) ?_; (rfl); try simp only [Act.put, List.setIfInBounds_toArray, List.set_cons_zero, List.set_cons_succ]) | (refine wpAnyH_take (i := 1) (v := ?_) (by exact gE rfl) (by kernel_rfl) (by kernel_rfl) (by kernel_rfl) (fun _ _ _ h => h) (Or.inl ⟨?_, ?_⟩) (by assumption) ?_; rotate_left; (rfl); (focus (intro w hSw; (try dsimp only at hSw); go_simp; try with_reducible rfl)); try simp only [Act.put, List.setIfInBounds_toArray, List.set_cons_zero, List.set_cons_succ])
  first | (refine wpAnyH_take (i := 2) (v := undef) (by exact gE rfl) (by kernel_rfl) (by kernel_rfl) (by kernel_rfl) (fun _ _ _ h => h) (Or.inr ⟨?_, rfl⟩) (by assumption) ?_; (rfl); try simp only [Act.put, List.setIfInBounds_toArray, List.set_cons_zero, List.set_cons_succ]) | (refine wpAnyH_take (i := 2) (v := ?_) (by exact gE rfl) (by kernel_rfl) (by kernel_rfl) (by kernel_rfl) (fun _ _ _ h => h) (Or.inl ⟨?_, ?_⟩) (by assumption) ?_; rotate_left; (rfl); (focus (intro w hSw; (try dsimp only at hSw); go_simp; try with_reducible rfl)); try simp only [Act.put, List.setIfInBounds_toArray, List.set_cons_zero, List.set_cons_succ])
  first | (refine wpAnyH_take (i := 3) (v := undef) (by exact gE rfl) (by kernel_rfl) (by kernel_rfl) (by kernel_rfl) (fun _ _ _ h => h) (Or.inr ⟨?_, rfl⟩) (by assumption) ?_; (rfl); try simp only [Act.put, List.setIfInBounds_toArray, List.set_cons_zero, List.set_cons_succ]) | (refine wpAnyH_take (i := 3) (v := ?_) (by exact gE rfl) (by kernel_rfl) (by kernel_rfl) (by kernel_rfl) (fun _ _ _ h => h) (Or.inl ⟨?_, ?_⟩) (by assumption) ?_; rotate_left; (rfl); (focus (intro w hSw; (try dsimp only at hSw); go_simp; try with_reducible rfl)); try simp only [Act.put, List.setIfInBounds_toArray, List.set_cons_zero, List.set_cons_succ])
  (refine wpAnyH_take (i := 4) (v := fa.a) (by exact gE rfl) (by kernel_rfl) (by kernel_rfl) (by kernel_rfl) (fun _ _ _ h => h) (yieldsIf_load_mid (by rfl) 34 (.tmp 40) (by rfl) (T) (4) (by rfl) (fa.cs.toList) _ (fun W hS => (hS.elim fun sv h => h.elim fun bg h => Bk.mid h 4 _ rfl)) Tryz.underlying34 (by rfl) (by kernel_rfl)) (by assumption) ?_; try simp only [Act.put, List.setIfInBounds_toArray, List.set_cons_zero, List.set_cons_succ])
  first | (refine wpAnyH_take (i := 5) (v := undef) (by exact gE rfl) (by kernel_rfl) (by kernel_rfl) (by kernel_rfl) (fun _ _ _ h => h) (Or.inr ⟨?_, rfl⟩) (by assumption) ?_; (rfl); try simp only [Act.put, List.setIfInBounds_toArray, List.set_cons_zero, List.set_cons_succ]) | (refine wpAnyH_take (i := 5) (v := ?_) (by exact gE rfl) (by kernel_rfl) (by kernel_rfl) (by kernel_rfl) (fun _ _ _ h => h) (Or.inl ⟨?_, ?_⟩) (by assumption) ?_; rotate_left; (rfl); (focus (intro w hSw; (try dsimp only at hSw); go_simp; try with_reducible rfl)); try simp only [Act.put, List.setIfInBounds_toArray, List.set_cons_zero, List.set_cons_succ])
  first | (refine wpAnyH_take (i := 6) (v := undef) (by exact gE rfl) (by kernel_rfl) (by kernel_rfl) (by kernel_rfl) (fun _ _ _ h => h) (Or.inr ⟨?_, rfl⟩) (by assumption) ?_; (rfl); try simp only [Act.put, List.setIfInBounds_toArray, List.set_cons_zero, List.set_cons_succ]) | (refine wpAnyH_take (i := 6) (v := ?_) (by exact gE rfl) (by kernel_rfl) (by kernel_rfl) (by kernel_rfl) (fun _ _ _ h => h) (Or.inl ⟨?_, ?_⟩) (by assumption) ?_; rotate_left; (rfl); (focus (intro w hSw; (try dsimp only at hSw); go_simp; try with_reducible rfl)); try simp only [Act.put, List.setIfInBounds_toArray, List.set_cons_zero, List.set_cons_succ])
  first | (refine wpAnyH_take (i := 7) (v := undef) (by exact gE rfl) (by kernel_rfl) (by kernel_rfl) (by kernel_rfl) (fun _ _ _ h => h) (Or.inr ⟨?_, rfl⟩) (by assumption) ?_; (rfl); try simp only [Act.put, List.setIfInBounds_toArray, List.set_cons_zero, List.set_cons_succ]) | (refine wpAnyH_take (i := 7) (v := ?_) (by exact gE rfl) (by kernel_rfl) (by kernel_rfl) (by kernel_rfl) (fun _ _ _ h => h) (Or.inl ⟨?_, ?_⟩) (by assumption) ?_; rotate_left; (rfl); (focus (intro w hSw; (try dsimp only at hSw); go_simp; try with_reducible rfl)); try simp only [Act.put, List.setIfInBounds_toArray, List.set_cons_zero, List.set_cons_succ])
  first | (refine wpAnyH_take (i := 8) (v := undef) (by exact gE rfl) (by kernel_rfl) (by kernel_rfl) (by kernel_rfl) (fun _ _ _ h => h) (Or.inr ⟨?_, rfl⟩) (by assumption) ?_; (rfl); try simp only [Act.put, List.setIfInBounds_toArray, List.set_cons_zero, List.set_cons_succ]) | (refine wpAnyH_take (i := 8) (v := ?_) (by exact gE rfl) (by kernel_rfl) (by kernel_rfl) (by kernel_rfl) (fun _ _ _ h => h) (Or.inl ⟨?_, ?_⟩) (by assumption) ?_; rotate_left; (rfl); (focus (intro W hSw; have hc0 := (show W.cell? ⟨T, 33, none⟩ = some (.int .i64 flv) from hSw.elim fun sv h => h.elim fun bg h => h.cell 33); clear hSw; go_simp; try with_reducible rfl)); try simp only [Act.put, List.setIfInBounds_toArray, List.set_cons_zero, List.set_cons_succ])
  refine wpAnyH_ready (rs := [9]) (by kernel_rfl) (by simp) ?_
  refine AllReadyH.cons rfl (fun K hK => ?_) AllReadyH.nil
  go_simp
  refine (begin_any h (.slice pa h.length ca) wx B1 gw T none 0 0 [] 0 0 fa flv 0 false vNil vNil fa r flv _ HRX.out ⟨by decide, by decide⟩ (by decide) HBO.out hfl HB1.out HX2.out TBd.out GWd.out (World.ownsRow_nil _ _ _ _)).mono ?_; rintro e w3 ⟨sv3, iv, A, rfl, hT3, hS3, hK3, hbT, hA3, hsv3⟩
  have TB3 := hidB hT3
  have HS3 := hidB hS3
  have HK3 := hidB hK3
  have HBT := hidB hbT
  have HA3 := hidB hA3
  have HSV3 := hidB hsv3
  replace hHeld := (show ∃ sv bg, Bk w3 T 68 (tkC gw sv 0 bg fa flv 0 false vNil vNil) from ⟨_, _, hT3⟩)
  have Y3 := hidB (Yd.out.kept hK3 (show ¬ (w.heap.size + 1 = T ∨ none = some (w.heap.size + 1)) from fun e => e.elim (fun e => by have := HTL.out; omega) (fun e => by cases e)))
  have HBKY := hidB (show (begO r).kd = 1 ∧ (begO r).keys.oneCell' = true from by cases r with | now x => exact ⟨HBO.out.now.1, by rw [show (begO (.now x)).keys = vNil from HBO.out.now.2]; rfl⟩ | tk P => exact ⟨rfl, rfl⟩)
  clear hT3 hS3 hK3 hbT hA3 hsv3
  refine hK.out _ _ hHeld (fun _ => ?_)
  clear hK K
  try simp only [Act.put, List.setIfInBounds_toArray, List.set_cons_zero, List.set_cons_succ]
  refine wpAnyH_ready (rs := [10]) (by kernel_rfl) (by simp) ?_
  refine AllReadyH.cons rfl (fun K hK => ?_) AllReadyH.nil
  rw [if_pos (by kernel_rfl)]
  refine wp_store_row 49 (.tmp 5) (.tmp 46) (by rfl) (w.heap.size + 1) ((begO r).cs) (by rfl) (by rfl) 49 (o.cs) (by exact Y3.out) (by kernel_rfl) (by rfl) (by exact OI.one _ HBKY.out.2) ?_
  have Y4 := hidB (Y3.out.setRow (begO r).cs)
  have TB4 := hidB (TB3.out.setRow_far (g2 := w.heap.size + 1) (by have := HTL.out; omega) (begO r).cs)
  replace hHeld := (show ∃ sv bg, Bk (w3.setRow (w.heap.size + 1) (begO r).cs) T 68 (tkC gw sv 0 bg fa flv 0 false vNil vNil) from ⟨_, _, TB4.out⟩)
  refine put_none_K (by first | rfl | kernel_rfl) ?_
  refine hK.out _ _ hHeld (fun _ => ?_)
  clear hK K
  refine wpAnyH_done (by kernel_rfl) ?_ _
  refine NoPanic.normal ?_
  clear hHeld
  have hs4 : (w3.setRow (w.heap.size + 1) (begO r).cs).heap.size = w3.heap.size := by simp [World.setRow]
  have hfr : ∀ j, j ≠ w.heap.size + 1 → (w3.setRow (w.heap.size + 1) (begO r).cs).heap[j]? = w3.heap[j]? := fun j hj => heap_setRow w3 hj _
  have RH4 := hidB (show Bk (w3.setRow (w.heap.size + 1) (begO r).cs) (w.heap.size + 1 + 1) 24 (#[.slice none 0 0]) from (hfr _ (by have := HL10.out; omega)).trans (RHd.out.kept HK3.out (show ¬ (w.heap.size + 1 + 1 = T ∨ none = some (w.heap.size + 1 + 1)) from fun e => e.elim (fun e => by have h1 := HTL.out; have h2 := HL10.out; omega) (fun e => by cases e))))
  have RW4 := hidB (show Bk (w3.setRow (w.heap.size + 1) (begO r).cs) (w.heap.size + 1 + 1 + 1) 51 (WI.zero.cs) from (hfr _ (by have := HL10.out; omega)).trans (RWd.out.kept HK3.out (show ¬ (w.heap.size + 1 + 1 + 1 = T ∨ none = some (w.heap.size + 1 + 1 + 1)) from fun e => e.elim (fun e => by have h1 := HTL.out; have h2 := HL10.out; omega) (fun e => by cases e))))
  have X104 := hidB (show Bk (w3.setRow (w.heap.size + 1) (begO r).cs) (g10) 51 (WI.zero.cs) from (hfr _ (by have := HL10.out; omega)).trans (X10d.out.kept HK3.out (show ¬ (g10 = T ∨ none = some (g10)) from fun e => e.elim (fun e => by have h1 := HTL.out; have h2 := HL10.out; omega) (fun e => by cases e))))
  have GW4 := hidB (show Bk (w3.setRow (w.heap.size + 1) (begO r).cs) gw 65 #[(.slice pa h.length ca)] from (hfr _ (by have := HWL.out; omega)).trans (GWd.out.kept HK3.out (show ¬ (gw = T ∨ none = some gw) from fun e => e.elim (fun e => HNG.out e) (fun e => by cases e))))
  have HS4 := hidB (show (w3.setRow (w.heap.size + 1) (begO r).cs).ownsRow B1 95 32 sv3 1 ([] ++ (entC iv fa flv 0).toList) from own_eq HS3.out (fun j hj => hfr j (own_neB HS3.out Y3.out (by decide) hj)))
  have HX4 := hidB (show Below B1 wx (w3.setRow (w.heap.size + 1) (begO r).cs) from below_setRow (HX2.out.trans (HK3.out.toBelow (by have h1 := HBW.out; have h2 := HWD.out; have h3 := HL10.out; have h4 := X10L.out; omega) (fun j hj => hj.elim (fun e => by rw [e]; exact HB1.out) (fun e => by cases e)))) (by have := HBW.out; omega) _)
  have HTD := hidB (show begT r iv A (w3.setRow (w.heap.size + 1) (begO r).cs) from begT_keep HBT.out (by rw [hs4]; exact Nat.le_refl _) (fun j hj => hfr j (by have h1 := (HA3.out j hj).1; have h2 := HWD.out; have h3 := HL10.out; have h4 := X10L.out; omega)))
  have HA4 := hidB (fun j hj => show w2.heap.size ≤ j ∧ j < (w3.setRow (w.heap.size + 1) (begO r).cs).heap.size ∧ sv3.ownBlock ≠ some j from ⟨Nat.le_trans HWD.out (HA3.out j hj).1, by rw [hs4]; exact (HA3.out j hj).2.1, (HA3.out j hj).2.2⟩)
  have HW24 := hidB (show w2.heap.size ≤ (w3.setRow (w.heap.size + 1) (begO r).cs).heap.size by rw [hs4]; exact Nat.le_trans HWD.out HK3.out.size)
  have KP4 := hidB (show Kept (fun j => j = T) w (w3.setRow (w.heap.size + 1) (begO r).cs) from (KPd.out.step HK3.out (fun j hj => hj.elim Or.inl (fun e => by cases e))).setRow (.inr (by omega)) _)
  clear hfr hs4 KPd KP HBT HA3 HS3 HK3 Y3 TB3 Yd TBd GWd RHd RWd X10d HX2 Y RH RW TB GW X10
  generalize hW : (w3.setRow (w.heap.size + 1) (begO r).cs) = w4 at *
  clear hW
  obtain ⟨qs3, cs3, rfl⟩ := own_slice HS4.out
  have HG2L := hidB (show g10 < w2.heap.size from X10L.out)
  have y0 : w4.cell? ⟨w.heap.size + 1, 0, none⟩ = some (.int .u8 1) := by rw [← HBKY.out.1]; exact Y4.out.cell 0
  go_wp2_with (first | ((with_reducible refine ldId 49 (.tmp 5) ?_); refine wpList_load_row (by rfl) 49 (.tmp 5) (by rfl) (w.heap.size + 1) (by rfl) 49 ((begO r).cs) (0, 0) _ (by exact Y4.out) Tryz.underlying49 (by rfl) (by kernel_rfl) ?_))
  obtain ⟨tk, U, htk, hTks, hUok⟩ : ∃ tk U, begK r tk ∧ TksM [(⟨fa, flv, tk⟩, iv, 0)] U w4 ∧ (∀ j, U j → A j) := by
    have hbt := HTD.out
    cases r with
    | now x => exact ⟨none, fun _ => False, rfl, ⟨by rw [show iv = .nilIface from hbt]; rfl, hbt, trivial⟩, fun j hj => hj.elim⟩
    | tk P =>
      obtain ⟨S', hP, hT⟩ := hbt
      exact ⟨some (S', .fresh), A, ⟨S', hP, rfl⟩, ⟨by obtain ⟨t, g, rfl⟩ := hT.some; rfl, A, fun _ => False, hT, trivial, fun j h => h, fun j h => h.elim, fun j _ h => h⟩, fun j h => h⟩
  refine (on_any h (.slice pa h.length ca) wx B1 gw T fa flv 0 false vNil N [(⟨fa, flv, tk⟩, iv, 0)] (begO r) res k 0 1 qs3 cs3 none 0 0 [] U w4 HRX.out (HGD.out tk htk) ⟨by decide, by omega⟩ ⟨by decide, by omega⟩ (by simp only [List.length_cons, List.length_nil]; omega) (by omega) HB1.out TB4.out GW4.out HS4.out (World.ownsRow_nil _ _ _ _) hTks (fun j hj => by obtain ⟨a1, a2, a3⟩ := HA4.out j (hUok j hj); have h1 := HTL.out; have h2 := HWL.out; have h3 := HBW.out; have h4 := HG2L.out; have h5 := HL10.out; exact ⟨by omega, a2, by omega, by omega, a3, fun e => by cases e⟩) HX4.out).mono ?_; rintro e w5 ⟨mn5, bg5, sv5, qe5, ce5, ys5, rfl, hT5, hW5, hE5, hX5, hK5⟩
  rw [Nat.zero_add] at hT5 hE5
  have NV := hidB (show ∀ j, j ≠ T → j < w2.heap.size → ¬ (j = T ∨ U j ∨ (Value.slice qs3 ([(⟨fa, flv, tk⟩, iv, (0 : Int))] : List (Ent × Value × Int)).length cs3).ownBlock = some j ∨ (Value.slice none 0 0).ownBlock = some j) from fun j h1 h2 e => by rcases e with e | e | e | e; exact h1 e; (have h3 := (HA4.out j (hUok j e)).1; omega); (exact (HSV3.out j e).elim (fun e => by cases e) (fun h => by have := HWD.out; omega)); cases e)
  have KP5 := hidB (KP4.out.step hK5 (fun j e => by rcases e with e | e | e | e; exact Or.inl e; (have h3 := (HA4.out j (hUok j e)).1; have h4 := HG2L.out; have h5 := HL10.out; exact Or.inr (by omega)); (exact (HSV3.out j e).elim (fun e => by cases e) (fun h => by have := HWD.out; have h4 := HG2L.out; have h5 := HL10.out; exact Or.inr (by omega))); cases e))
  have RH5 := hidB (RH4.out.kept hK5 (NV.out _ (by have := HTL.out; omega) (by have h1 := HG2L.out; have h2 := HL10.out; omega)))
  have RW5 := hidB (RW4.out.kept hK5 (NV.out _ (by have := HTL.out; omega) (by have h1 := HG2L.out; have h2 := HL10.out; omega)))
  have X105 := hidB (X104.out.kept hK5 (NV.out _ (by have h1 := HTL.out; have h2 := HL10.out; omega) HG2L.out))
  have HW5 := hidB (show w2.heap.size ≤ w5.heap.size from by have h1 := hK5.size; have h2 := HW24.out; omega)
  have TB5 := hidB hT5
  have GW5 := hidB hW5
  have HE5 := hidB hE5
  have HX5 := hidB hX5
  clear hT5 hW5 hE5 hX5 hK5 NV KP4 TB4 GW4 RH4 RW4 X104 Y4 HS4 HX4 HTD HA4 y0 hUok hTks htk
  have HRK := hidB (show (endW res).cs.all (·.oneCell') = true from WI.one _ rfl rfl rfl (by rw [show (endW res).out.keys = vNil from HRES.out]; rfl))
  have TB6 := hidB (show Bk (w5.setRow g10 (endW res).cs) T 68 (tkC gw sv5 mn5 bg5 fa flv 0 false vNil (.slice qe5 k ce5)) from TB5.out.setRow_far (g2 := g10) (by have h1 := HTL.out; have h2 := HL10.out; omega) _)
  have GW6 := hidB (show Bk (w5.setRow g10 (endW res).cs) gw 65 #[(.slice pa h.length ca)] from GW5.out.setRow_far (g2 := g10) (by have h1 := HWL.out; have h2 := HL10.out; omega) _)
  have RH6 := hidB (show Bk (w5.setRow g10 (endW res).cs) (w.heap.size + 1 + 1) 24 #[.slice none 0 0] from RH5.out.setRow_far (g2 := g10) (by have h2 := HL10.out; omega) _)
  have RW6 := hidB (show Bk (w5.setRow g10 (endW res).cs) (w.heap.size + 1 + 1 + 1) 51 WI.zero.cs from RW5.out.setRow_far (g2 := g10) (by have h2 := HL10.out; omega) _)
  have X106 := hidB (show Bk (w5.setRow g10 (endW res).cs) g10 51 (endW res).cs from X105.out.setRow _)
  have KP6 := hidB (show Kept (fun j => j = T) w (w5.setRow g10 (endW res).cs) from KP5.out.setRow (.inr (by have h2 := HL10.out; omega)) _)
  have HX6 := hidB (show Below B1 wx (w5.setRow g10 (endW res).cs) from below_setRow HX5.out (by have h1 := HBW.out; have h2 := HL10.out; omega) _)
  have HS6 := hidB (show w2.heap.size ≤ (w5.setRow g10 (endW res).cs).heap.size by have := HW5.out; simpa [World.setRow] using this)
  go_upto_region 16 with (first | ((with_reducible refine stId 51 (.tmp 10) (.tmp 54) ?_); refine wpList_store_row (by rfl) 51 (.tmp 10) (.tmp 54) (by rfl) (g10) ((endW res).cs) (by rfl) (by rfl) 51 (WI.zero.cs) (by exact X105.out) (by kernel_rfl) (by rfl) (by exact HRK.out) ?_))
  generalize hW : (w5.setRow g10 (endW res).cs) = w6 at *
  clear hW TB5 GW5 RH5 RW5 X105 HX5 HE5 HW5 KP5
  refine wp_region_noPanic ?_
  refine wp_region_held_drew (S := fun W => Bk W g10 51 (endW res).cs) (by kernel_rfl) ?_ (fun hHeld => ?_)
  · exact X106.out.drew
  have TBc := hidB (show Bk w6.drew T 68 (tkC gw sv5 mn5 bg5 fa flv 0 false vNil (.slice qe5 k ce5)) from TB6.out.drew)
  have GWd := hidB (show Bk w6.drew gw 65 #[(.slice pa h.length ca)] from GW6.out.drew)
  have RHd := hidB (show Bk w6.drew (w.heap.size + 1 + 1) 24 #[.slice none 0 0] from RH6.out.drew)
  have RWd := hidB (show Bk w6.drew (w.heap.size + 1 + 1 + 1) 51 WI.zero.cs from RW6.out.drew)
  have KPd := hidB (show Kept (fun j => j = T) w w6.drew from KP6.out.drew)
  have HXd := hidB (show Below B1 wx w6.drew from HX6.out.drew)
  have HSd := hidB (show w2.heap.size ≤ w6.drew.heap.size from HS6.out)
  generalize hWd : w6.drew = wd at *
  clear hWd
  first | (refine wpAnyH_take (i := 0) (v := undef) (by exact gE rfl) (by kernel_rfl) (by kernel_rfl) (by kernel_rfl) (fun _ _ _ h => h) (Or.inr ⟨?_, rfl⟩) (by assumption) ?_; (rfl); try simp only [Act.put, List.setIfInBounds_toArray, List.set_cons_zero, List.set_cons_succ]) | (refine wpAnyH_take (i := 0) (v := ?_) (by exact gE rfl) (by kernel_rfl) (by kernel_rfl) (by kernel_rfl) (fun _ _ _ h => h) (Or.inl ⟨?_, ?_⟩) (by assumption) ?_; rotate_left; (rfl); (focus (intro w hSw; (try dsimp only at hSw); go_simp; try with_reducible rfl)); try simp only [Act.put, List.setIfInBounds_toArray, List.set_cons_zero, List.set_cons_succ])
  first | (refine wpAnyH_take (i := 1) (v := undef) (by exact gE rfl) (by kernel_rfl) (by kernel_rfl) (by kernel_rfl) (fun _ _ _ h => h) (Or.inr ⟨?_, rfl⟩) (by assumption) ?_; (rfl); try simp only [Act.put, List.setIfInBounds_toArray, List.set_cons_zero, List.set_cons_succ]) | (refine wpAnyH_take (i := 1) (v := ?_) (by exact gE rfl) (by kernel_rfl) (by kernel_rfl) (by kernel_rfl) (fun _ _ _ h => h) (Or.inl ⟨?_, ?_⟩) (by assumption) ?_; rotate_left; (rfl); (focus (intro w hSw; (try dsimp only at hSw); go_simp; try with_reducible rfl)); try simp only [Act.put, List.setIfInBounds_toArray, List.set_cons_zero, List.set_cons_succ])
  first | (refine wpAnyH_take (i := 2) (v := undef) (by exact gE rfl) (by kernel_rfl) (by kernel_rfl) (by kernel_rfl) (fun _ _ _ h => h) (Or.inr ⟨?_, rfl⟩) (by assumption) ?_; (rfl); try simp only [Act.put, List.setIfInBounds_toArray, List.set_cons_zero, List.set_cons_succ]) | (refine wpAnyH_take (i := 2) (v := ?_) (by exact gE rfl) (by kernel_rfl) (by kernel_rfl) (by kernel_rfl) (fun _ _ _ h => h) (Or.inl ⟨?_, ?_⟩) (by assumption) ?_; rotate_left; (rfl); (focus (intro w hSw; (try dsimp only at hSw); go_simp; try with_reducible rfl)); try simp only [Act.put, List.setIfInBounds_toArray, List.set_cons_zero, List.set_cons_succ])
  first | (refine wpAnyH_take (i := 3) (v := undef) (by exact gE rfl) (by kernel_rfl) (by kernel_rfl) (by kernel_rfl) (fun _ _ _ h => h) (Or.inr ⟨?_, rfl⟩) (by assumption) ?_; (rfl); try simp only [Act.put, List.setIfInBounds_toArray, List.set_cons_zero, List.set_cons_succ]) | (refine wpAnyH_take (i := 3) (v := ?_) (by exact gE rfl) (by kernel_rfl) (by kernel_rfl) (by kernel_rfl) (fun _ _ _ h => h) (Or.inl ⟨?_, ?_⟩) (by assumption) ?_; rotate_left; (rfl); (focus (intro W hSw; have hc0 := (show W.cell? ⟨g10, 0, none⟩ = some (.int .u8 7) from hSw.cell 0); clear hSw; go_simp; try with_reducible rfl)); try simp only [Act.put, List.setIfInBounds_toArray, List.set_cons_zero, List.set_cons_succ])
  first | (refine wpAnyH_take (i := 4) (v := undef) (by exact gE rfl) (by kernel_rfl) (by kernel_rfl) (by kernel_rfl) (fun _ _ _ h => h) (Or.inr ⟨?_, rfl⟩) (by assumption) ?_; (rfl); try simp only [Act.put, List.setIfInBounds_toArray, List.set_cons_zero, List.set_cons_succ]) | (refine wpAnyH_take (i := 4) (v := ?_) (by exact gE rfl) (by kernel_rfl) (by kernel_rfl) (by kernel_rfl) (fun _ _ _ h => h) (Or.inl ⟨?_, ?_⟩) (by assumption) ?_; rotate_left; (rfl); (focus (intro w hSw; (try dsimp only at hSw); go_simp; try with_reducible rfl)); try simp only [Act.put, List.setIfInBounds_toArray, List.set_cons_zero, List.set_cons_succ])
  first | (refine wpAnyH_take (i := 5) (v := undef) (by exact gE rfl) (by kernel_rfl) (by kernel_rfl) (by kernel_rfl) (fun _ _ _ h => h) (Or.inr ⟨?_, rfl⟩) (by assumption) ?_; (rfl); try simp only [Act.put, List.setIfInBounds_toArray, List.set_cons_zero, List.set_cons_succ]) | (refine wpAnyH_take (i := 5) (v := ?_) (by exact gE rfl) (by kernel_rfl) (by kernel_rfl) (by kernel_rfl) (fun _ _ _ h => h) (Or.inl ⟨?_, ?_⟩) (by assumption) ?_; rotate_left; (rfl); (focus (intro W hSw; have hc0 := (show W.cell? ⟨g10, 0, none⟩ = some (.int .u8 7) from hSw.cell 0); clear hSw; go_simp; try with_reducible rfl)); try simp only [Act.put, List.setIfInBounds_toArray, List.set_cons_zero, List.set_cons_succ])
  first | (refine wpAnyH_take (i := 6) (v := undef) (by exact gE rfl) (by kernel_rfl) (by kernel_rfl) (by kernel_rfl) (fun _ _ _ h => h) (Or.inr ⟨?_, rfl⟩) (by assumption) ?_; (rfl); try simp only [Act.put, List.setIfInBounds_toArray, List.set_cons_zero, List.set_cons_succ]) | (refine wpAnyH_take (i := 6) (v := ?_) (by exact gE rfl) (by kernel_rfl) (by kernel_rfl) (by kernel_rfl) (fun _ _ _ h => h) (Or.inl ⟨?_, ?_⟩) (by assumption) ?_; rotate_left; (rfl); (focus (intro w hSw; (try dsimp only at hSw); go_simp; try with_reducible rfl)); try simp only [Act.put, List.setIfInBounds_toArray, List.set_cons_zero, List.set_cons_succ])
  first | (refine wpAnyH_take (i := 7) (v := undef) (by exact gE rfl) (by kernel_rfl) (by kernel_rfl) (by kernel_rfl) (fun _ _ _ h => h) (Or.inr ⟨?_, rfl⟩) (by assumption) ?_; (rfl); try simp only [Act.put, List.setIfInBounds_toArray, List.set_cons_zero, List.set_cons_succ]) | (refine wpAnyH_take (i := 7) (v := ?_) (by exact gE rfl) (by kernel_rfl) (by kernel_rfl) (by kernel_rfl) (fun _ _ _ h => h) (Or.inl ⟨?_, ?_⟩) (by assumption) ?_; rotate_left; (rfl); (focus (intro w hSw; (try dsimp only at hSw); go_simp; try with_reducible rfl)); try simp only [Act.put, List.setIfInBounds_toArray, List.set_cons_zero, List.set_cons_succ])
  first | (refine wpAnyH_take (i := 8) (v := undef) (by exact gE rfl) (by kernel_rfl) (by kernel_rfl) (by kernel_rfl) (fun _ _ _ h => h) (Or.inr ⟨?_, rfl⟩) (by assumption) ?_; (rfl); try simp only [Act.put, List.setIfInBounds_toArray, List.set_cons_zero, List.set_cons_succ]) | (refine wpAnyH_take (i := 8) (v := ?_) (by exact gE rfl) (by kernel_rfl) (by kernel_rfl) (by kernel_rfl) (fun _ _ _ h => h) (Or.inl ⟨?_, ?_⟩) (by assumption) ?_; rotate_left; (rfl); (focus (intro w hSw; (try dsimp only at hSw); go_simp; try with_reducible rfl)); try simp only [Act.put, List.setIfInBounds_toArray, List.set_cons_zero, List.set_cons_succ])
  refine wpAnyH_ready (rs := [9]) (by kernel_rfl) (by simp) ?_
  refine AllReadyH.cons rfl (fun K hK => ?_) AllReadyH.nil
  have y1 : wd.cell? ⟨T, 34, none⟩ = some (.int .u8 0) := TBc.out.cell 34
  have f1 : wd.frozen? ⟨T, 34, none⟩ = false := TBc.out.free 34
  go_simp
  replace TBc := hidB (TBc.out.set 34 (.int .u8 7))
  have HF1 := hidB (fun k (hk : k ≠ T) => Below.heap_setCell wd ⟨T, 34, none⟩ (.int .u8 7) k hk)
  replace hHeld := hHeld.far (p := ⟨T, 34, none⟩) (by have h1 := HTL.out; have h2 := HL10.out; show g10 ≠ T; omega) (.int .u8 7)
  clear y1 f1
  refine hK.out _ _ hHeld (fun _ => ?_)
  clear hK K
  try simp only [Act.put, List.setIfInBounds_toArray, List.set_cons_zero, List.set_cons_succ]
  first | (refine wpAnyH_take (i := 10) (v := undef) (by exact gE rfl) (by kernel_rfl) (by kernel_rfl) (by kernel_rfl) (fun _ _ _ h => h) (Or.inr ⟨?_, rfl⟩) (by assumption) ?_; (rfl); try simp only [Act.put, List.setIfInBounds_toArray, List.set_cons_zero, List.set_cons_succ]) | (refine wpAnyH_take (i := 10) (v := ?_) (by exact gE rfl) (by kernel_rfl) (by kernel_rfl) (by kernel_rfl) (fun _ _ _ h => h) (Or.inl ⟨?_, ?_⟩) (by assumption) ?_; rotate_left; (rfl); (focus (intro w hSw; (try dsimp only at hSw); go_simp; try with_reducible rfl)); try simp only [Act.put, List.setIfInBounds_toArray, List.set_cons_zero, List.set_cons_succ])
  first | (refine wpAnyH_take (i := 11) (v := undef) (by exact gE rfl) (by kernel_rfl) (by kernel_rfl) (by kernel_rfl) (fun _ _ _ h => h) (Or.inr ⟨?_, rfl⟩) (by assumption) ?_; (rfl); try simp only [Act.put, List.setIfInBounds_toArray, List.set_cons_zero, List.set_cons_succ]) | (refine wpAnyH_take (i := 11) (v := ?_) (by exact gE rfl) (by kernel_rfl) (by kernel_rfl) (by kernel_rfl) (fun _ _ _ h => h) (Or.inl ⟨?_, ?_⟩) (by assumption) ?_; rotate_left; (rfl); (focus (intro w hSw; (try dsimp only at hSw); go_simp; try with_reducible rfl)); try simp only [Act.put, List.setIfInBounds_toArray, List.set_cons_zero, List.set_cons_succ])
  refine wpAnyH_ready (rs := [12]) (by kernel_rfl) (by simp) ?_
  refine AllReadyH.cons rfl (fun K hK => ?_) AllReadyH.nil
  have y1 : (wd.setCell ⟨T, 34, none⟩ (.int .u8 7)).cell? ⟨T, 35, none⟩ = some (.bool false) := TBc.out.cell 35
  have f1 : (wd.setCell ⟨T, 34, none⟩ (.int .u8 7)).frozen? ⟨T, 35, none⟩ = false := TBc.out.free 35
  go_simp
  replace TBc := hidB (TBc.out.set 35 (.bool true))
  have HF2 := hidB (fun k (hk : k ≠ T) => Below.heap_setCell (wd.setCell ⟨T, 34, none⟩ (.int .u8 7)) ⟨T, 35, none⟩ (.bool true) k hk)
  replace hHeld := hHeld.far (p := ⟨T, 35, none⟩) (by have h1 := HTL.out; have h2 := HL10.out; show g10 ≠ T; omega) (.bool true)
  clear y1 f1
  refine hK.out _ _ hHeld (fun _ => ?_)
  clear hK K
  try simp only [Act.put, List.setIfInBounds_toArray, List.set_cons_zero, List.set_cons_succ]
  refine wpAnyH_done (by kernel_rfl) ?_ _
  refine NoPanic.normal ?_
  have X107 := hidB hHeld
  have HFF := hidB (show ∀ k, k ≠ T → ((wd.setCell ⟨T, 34, none⟩ (.int .u8 7)).setCell ⟨T, 35, none⟩ (.bool true)).heap[k]? = wd.heap[k]? from fun k hk => (HF2.out k hk).trans (HF1.out k hk))
  have GW7 := hidB (show Bk ((wd.setCell ⟨T, 34, none⟩ (.int .u8 7)).setCell ⟨T, 35, none⟩ (.bool true)) (gw) 65 #[(.slice pa h.length ca)] from (HFF.out _ (by exact HNG.out)).trans GWd.out)
  have RH7 := hidB (show Bk ((wd.setCell ⟨T, 34, none⟩ (.int .u8 7)).setCell ⟨T, 35, none⟩ (.bool true)) (w.heap.size + 1 + 1) 24 #[.slice none 0 0] from (HFF.out _ (by have := HTL.out; omega)).trans RHd.out)
  have RW7 := hidB (show Bk ((wd.setCell ⟨T, 34, none⟩ (.int .u8 7)).setCell ⟨T, 35, none⟩ (.bool true)) (w.heap.size + 1 + 1 + 1) 51 WI.zero.cs from (HFF.out _ (by have := HTL.out; omega)).trans RWd.out)
  have KP7 := hidB (show Kept (fun j => j = T) w ((wd.setCell ⟨T, 34, none⟩ (.int .u8 7)).setCell ⟨T, 35, none⟩ (.bool true)) from (KPd.out.setCell (p := ⟨T, 34, none⟩) (.inl rfl) _).setCell (p := ⟨T, 35, none⟩) (.inl rfl) _)
  have HX7 := hidB (show Below B1 wx ((wd.setCell ⟨T, 34, none⟩ (.int .u8 7)).setCell ⟨T, 35, none⟩ (.bool true)) from (HXd.out.setCell (p := ⟨T, 34, none⟩) HB1.out _).setCell (p := ⟨T, 35, none⟩) HB1.out _)
  have HS7 := hidB (show w2.heap.size ≤ ((wd.setCell ⟨T, 34, none⟩ (.int .u8 7)).setCell ⟨T, 35, none⟩ (.bool true)).heap.size by have := HSd.out; simpa [World.setCell] using this)
  clear hHeld HF1 HF2 HFF GWd RHd RWd HXd HSd TB6 GW6 RH6 RW6 X106 HX6 HS6 KP6 KPd
  generalize hW : ((wd.setCell ⟨T, 34, none⟩ (.int .u8 7)).setCell ⟨T, 35, none⟩ (.bool true)) = w7 at *
  clear hW
  have t37 : w7.cell? ⟨T, 37, none⟩ = some (.slice qe5 k ce5) := TBc.out.cell 37
  have f37 : w7.frozen? ⟨T, 37, none⟩ = false := TBc.out.free 37
  go_upto_region 19 with fail
  have hfar : ∀ j, j ≠ T → (w7.setCell ⟨T, 37, none⟩ (.slice none 0 0)).heap[j]? = w7.heap[j]? := fun j hj => Below.heap_setCell w7 _ _ j hj
  replace GW7 := hidB (show Bk (w7.setCell ⟨T, 37, none⟩ (.slice none 0 0)) (gw) 65 #[(.slice pa h.length ca)] from (hfar _ (by exact HNG.out)).trans GW7.out)
  replace RH7 := hidB (show Bk (w7.setCell ⟨T, 37, none⟩ (.slice none 0 0)) (w.heap.size + 1 + 1) 24 #[.slice none 0 0] from (hfar _ (by have := HTL.out; omega)).trans RH7.out)
  replace RW7 := hidB (show Bk (w7.setCell ⟨T, 37, none⟩ (.slice none 0 0)) (w.heap.size + 1 + 1 + 1) 51 WI.zero.cs from (hfar _ (by have := HTL.out; omega)).trans RW7.out)
  replace X107 := hidB (show Bk (w7.setCell ⟨T, 37, none⟩ (.slice none 0 0)) (g10) 51 (endW res).cs from (hfar _ (by have h1 := HTL.out; have h2 := HL10.out; omega)).trans X107.out)
  replace TBc := hidB (show Bk (w7.setCell ⟨T, 37, none⟩ (.slice none 0 0)) T 68 (tkC gw sv5 mn5 bg5 fa flv 7 true vNil vNil) from TBc.out.set 37 _)
  replace KP7 := hidB (show Kept (fun j => j = T) w (w7.setCell ⟨T, 37, none⟩ (.slice none 0 0)) from KP7.out.setCell (p := ⟨T, 37, none⟩) (.inl rfl) _)
  replace HX7 := hidB (show Below B1 wx (w7.setCell ⟨T, 37, none⟩ (.slice none 0 0)) from HX7.out.setCell (p := ⟨T, 37, none⟩) HB1.out _)
  replace HS7 := hidB (show w2.heap.size ≤ (w7.setCell ⟨T, 37, none⟩ (.slice none 0 0)).heap.size by have := HS7.out; simpa [World.setCell] using this)
  clear hfar t37 f37
  generalize hW : (w7.setCell ⟨T, 37, none⟩ (.slice none 0 0)) = w8 at *
  clear hW
  have t0 : w8.cell? ⟨T, 0, none⟩ = some (.pointer (some ⟨gw, 0, none⟩)) := TBc.out.cell 0
  have g0 : w8.cell? ⟨gw, 0, none⟩ = some (.slice pa h.length ca) := GW7.out.cell 0
  go_wp2_with fail
  refine (cloneO_any h (.slice pa h.length ca) w8 (HRX.out _ HX7.out) HL1.out).mono ?_; rintro e w9 ⟨q9, n9, c9, rfl, hb⟩
  replace GW7 := hidB (GW7.out.on hb)
  replace RH7 := hidB (RH7.out.on hb)
  replace RW7 := hidB (RW7.out.on hb)
  replace X107 := hidB (X107.out.on hb)
  replace TBc := hidB (TBc.out.on hb)
  have HS7o := hidB HS7.out
  replace HS7 := hidB (Nat.le_trans HS7.out hb.size)
  replace KP7 := hidB (KP7.out.trans (Kept.below hb))
  replace HX7 := hidB (HX7.out.trans (hb.mono (by have h1 := HBW.out; have h2 := HL10.out; have h3 := HG2L.out; have h4 := HS7o.out; omega)))
  clear hb t0 g0
  have t36 : w9.cell? ⟨T, 36, none⟩ = some (.slice none 0 0) := TBc.out.cell 36
  have f36 : w9.frozen? ⟨T, 36, none⟩ = false := TBc.out.free 36
  go_upto_region 20 with fail
  have hfar : ∀ j, j ≠ T → (w9.setCell ⟨T, 36, none⟩ (.slice q9 n9 c9)).heap[j]? = w9.heap[j]? := fun j hj => Below.heap_setCell w9 _ _ j hj
  replace GW7 := hidB (show Bk (w9.setCell ⟨T, 36, none⟩ (.slice q9 n9 c9)) (gw) 65 #[(.slice pa h.length ca)] from (hfar _ (by exact HNG.out)).trans GW7.out)
  replace RH7 := hidB (show Bk (w9.setCell ⟨T, 36, none⟩ (.slice q9 n9 c9)) (w.heap.size + 1 + 1) 24 #[.slice none 0 0] from (hfar _ (by have := HTL.out; omega)).trans RH7.out)
  replace RW7 := hidB (show Bk (w9.setCell ⟨T, 36, none⟩ (.slice q9 n9 c9)) (w.heap.size + 1 + 1 + 1) 51 WI.zero.cs from (hfar _ (by have := HTL.out; omega)).trans RW7.out)
  replace X107 := hidB (show Bk (w9.setCell ⟨T, 36, none⟩ (.slice q9 n9 c9)) (g10) 51 (endW res).cs from (hfar _ (by have h1 := HTL.out; have h2 := HL10.out; omega)).trans X107.out)
  replace TBc := hidB (show Bk (w9.setCell ⟨T, 36, none⟩ (.slice q9 n9 c9)) T 68 (tkC gw sv5 mn5 bg5 fa flv 7 true (.slice q9 n9 c9) vNil) from TBc.out.set 36 _)
  replace KP7 := hidB (show Kept (fun j => j = T) w (w9.setCell ⟨T, 36, none⟩ (.slice q9 n9 c9)) from KP7.out.setCell (p := ⟨T, 36, none⟩) (.inl rfl) _)
  replace HX7 := hidB (show Below B1 wx (w9.setCell ⟨T, 36, none⟩ (.slice q9 n9 c9)) from HX7.out.setCell (p := ⟨T, 36, none⟩) HB1.out _)
  replace HS7 := hidB (show w2.heap.size ≤ (w9.setCell ⟨T, 36, none⟩ (.slice q9 n9 c9)).heap.size by have := HS7.out; simpa [World.setCell] using this)
  clear hfar t36 f36 HS7o
  generalize hW : (w9.setCell ⟨T, 36, none⟩ (.slice q9 n9 c9)) = w10 at *
  clear hW
  refine wp_region_noPanic ?_
  refine wp_region_held_drew (S := fun W => Bk W gw 65 #[(.slice pa h.length ca)] ∧ Bk W g10 51 (endW res).cs ∧ Bk W T 68 (tkC gw sv5 mn5 bg5 fa flv 7 true (.slice q9 n9 c9) vNil)) (by kernel_rfl) ?_ (fun hHeld => ?_)
  · exact ⟨GW7.out.drew, X107.out.drew, TBc.out.drew⟩
  have HRD := hidB (HRX.out _ (show Below B1 wx w10.drew from HX7.out.drew))
  have RHd := hidB (show Bk w10.drew (w.heap.size + 1 + 1) 24 #[.slice none 0 0] from RH7.out.drew)
  have RWd := hidB (show Bk w10.drew (w.heap.size + 1 + 1 + 1) 51 WI.zero.cs from RW7.out.drew)
  have KPe := hidB (show Kept (fun j => j = T) w w10.drew from KP7.out.drew)
  have HXe := hidB (show Below B1 wx w10.drew from HX7.out.drew)
  have HSD := hidB (show w2.heap.size ≤ w10.drew.heap.size from HS7.out)
  have HBD := hidB (show B1 ≤ w10.drew.heap.size from by have h1 := HBW.out; have h2 := HL10.out; have h3 := HG2L.out; have h4 := HS7.out; exact (by omega : B1 ≤ w10.heap.size))
  generalize hWd : w10.drew = wd at *
  clear hWd
  first | (refine wpAnyH_take (i := 0) (v := undef) (by exact gE rfl) (by kernel_rfl) (by kernel_rfl) (by kernel_rfl) (fun _ _ _ h => h) (Or.inr ⟨?_, rfl⟩) (by assumption) ?_; (rfl); try simp only [Act.put, List.setIfInBounds_toArray, List.set_cons_zero, List.set_cons_succ]) | (refine wpAnyH_take (i := 0) (v := ?_) (by exact gE rfl) (by kernel_rfl) (by kernel_rfl) (by kernel_rfl) (fun _ _ _ h => h) (Or.inl ⟨?_, ?_⟩) (by assumption) ?_; rotate_left; (rfl); (focus (intro w hSw; (try dsimp only at hSw); go_simp; try with_reducible rfl)); try simp only [Act.put, List.setIfInBounds_toArray, List.set_cons_zero, List.set_cons_succ])
  first | (refine wpAnyH_take (i := 1) (v := undef) (by exact gE rfl) (by kernel_rfl) (by kernel_rfl) (by kernel_rfl) (fun _ _ _ h => h) (Or.inr ⟨?_, rfl⟩) (by assumption) ?_; (rfl); try simp only [Act.put, List.setIfInBounds_toArray, List.set_cons_zero, List.set_cons_succ]) | (refine wpAnyH_take (i := 1) (v := ?_) (by exact gE rfl) (by kernel_rfl) (by kernel_rfl) (by kernel_rfl) (fun _ _ _ h => h) (Or.inl ⟨?_, ?_⟩) (by assumption) ?_; rotate_left; (rfl); (focus (intro w hSw; (try dsimp only at hSw); go_simp; try with_reducible rfl)); try simp only [Act.put, List.setIfInBounds_toArray, List.set_cons_zero, List.set_cons_succ])
  first | (refine wpAnyH_take (i := 2) (v := undef) (by exact gE rfl) (by kernel_rfl) (by kernel_rfl) (by kernel_rfl) (fun _ _ _ h => h) (Or.inr ⟨?_, rfl⟩) (by assumption) ?_; (rfl); try simp only [Act.put, List.setIfInBounds_toArray, List.set_cons_zero, List.set_cons_succ]) | (refine wpAnyH_take (i := 2) (v := ?_) (by exact gE rfl) (by kernel_rfl) (by kernel_rfl) (by kernel_rfl) (fun _ _ _ h => h) (Or.inl ⟨?_, ?_⟩) (by assumption) ?_; rotate_left; (rfl); (focus (intro w hSw; (try dsimp only at hSw); go_simp; try with_reducible rfl)); try simp only [Act.put, List.setIfInBounds_toArray, List.set_cons_zero, List.set_cons_succ])
  first | (refine wpAnyH_take (i := 3) (v := undef) (by exact gE rfl) (by kernel_rfl) (by kernel_rfl) (by kernel_rfl) (fun _ _ _ h => h) (Or.inr ⟨?_, rfl⟩) (by assumption) ?_; (rfl); try simp only [Act.put, List.setIfInBounds_toArray, List.set_cons_zero, List.set_cons_succ]) | (refine wpAnyH_take (i := 3) (v := ?_) (by exact gE rfl) (by kernel_rfl) (by kernel_rfl) (by kernel_rfl) (fun _ _ _ h => h) (Or.inl ⟨?_, ?_⟩) (by assumption) ?_; rotate_left; (rfl); (focus (intro W hSw; have hc0 := (show W.cell? ⟨T, 0, none⟩ = some (.pointer (some ⟨gw, 0, none⟩)) from hSw.2.2.cell 0); clear hSw; go_simp; try with_reducible rfl)); try simp only [Act.put, List.setIfInBounds_toArray, List.set_cons_zero, List.set_cons_succ])
  first | (refine wpAnyH_take (i := 4) (v := undef) (by exact gE rfl) (by kernel_rfl) (by kernel_rfl) (by kernel_rfl) (fun _ _ _ h => h) (Or.inr ⟨?_, rfl⟩) (by assumption) ?_; (rfl); try simp only [Act.put, List.setIfInBounds_toArray, List.set_cons_zero, List.set_cons_succ]) | (refine wpAnyH_take (i := 4) (v := ?_) (by exact gE rfl) (by kernel_rfl) (by kernel_rfl) (by kernel_rfl) (fun _ _ _ h => h) (Or.inl ⟨?_, ?_⟩) (by assumption) ?_; rotate_left; (rfl); (focus (intro w hSw; (try dsimp only at hSw); go_simp; try with_reducible rfl)); try simp only [Act.put, List.setIfInBounds_toArray, List.set_cons_zero, List.set_cons_succ])
  first | (refine wpAnyH_take (i := 5) (v := undef) (by exact gE rfl) (by kernel_rfl) (by kernel_rfl) (by kernel_rfl) (fun _ _ _ h => h) (Or.inr ⟨?_, rfl⟩) (by assumption) ?_; (rfl); try simp only [Act.put, List.setIfInBounds_toArray, List.set_cons_zero, List.set_cons_succ]) | (refine wpAnyH_take (i := 5) (v := ?_) (by exact gE rfl) (by kernel_rfl) (by kernel_rfl) (by kernel_rfl) (fun _ _ _ h => h) (Or.inl ⟨?_, ?_⟩) (by assumption) ?_; rotate_left; (rfl); (focus (intro w hSw; (try dsimp only at hSw); go_simp; try with_reducible rfl)); try simp only [Act.put, List.setIfInBounds_toArray, List.set_cons_zero, List.set_cons_succ])
  (refine wpAnyH_take (i := 6) (v := (.agg #[(.slice pa h.length ca)])) (by exact gE rfl) (by kernel_rfl) (by kernel_rfl) (by kernel_rfl) (fun _ _ _ h => h) (yieldsIf_load_mid (by rfl) 24 (.tmp 111) (by rfl) (gw) (0) (by rfl) ([(.slice pa h.length ca)]) _ (fun W hS => Bk.mid hS.1 0 _ rfl) Tryz.underlying24 (by rfl) (by kernel_rfl)) (by assumption) ?_; try simp only [Act.put, List.setIfInBounds_toArray, List.set_cons_zero, List.set_cons_succ])
  (refine wpAnyH_take (i := 8) (v := (endW res).a) (by exact gE rfl) (by kernel_rfl) (by kernel_rfl) (by kernel_rfl) (fun _ _ _ h => h) (yieldsIf_load_mid (by rfl) 51 (.tmp 10) (by rfl) (g10) (0) (by rfl) ((endW res).cs.toList) _ (fun W hS => Bk.mid hS.2.1 0 _ rfl) Tryz.underlying51 (by rfl) (by kernel_rfl)) (by assumption) ?_; try simp only [Act.put, List.setIfInBounds_toArray, List.set_cons_zero, List.set_cons_succ])
  first | (refine wpAnyH_take (i := 9) (v := undef) (by exact gE rfl) (by kernel_rfl) (by kernel_rfl) (by kernel_rfl) (fun _ _ _ h => h) (Or.inr ⟨?_, rfl⟩) (by assumption) ?_; (rfl); try simp only [Act.put, List.setIfInBounds_toArray, List.set_cons_zero, List.set_cons_succ]) | (refine wpAnyH_take (i := 9) (v := ?_) (by exact gE rfl) (by kernel_rfl) (by kernel_rfl) (by kernel_rfl) (fun _ _ _ h => h) (Or.inl ⟨?_, ?_⟩) (by assumption) ?_; rotate_left; (rfl); (focus (intro w hSw; (try dsimp only at hSw); go_simp; try with_reducible rfl)); try simp only [Act.put, List.setIfInBounds_toArray, List.set_cons_zero, List.set_cons_succ])
  refine wpAnyH_ready (rs := [7]) (by kernel_rfl) (by simp) ?_
  refine AllReadyH.cons rfl (fun K hK => ?_) AllReadyH.nil
  go_simp
  refine (twinH_any h (.slice pa h.length ca) _ HRD.out HL2.out HL1.out).mono ?_; rintro e w11 ⟨h', gt, rfl, htw, hb⟩
  have HTW := hidB htw
  have HB11 := hidB hb
  have RH11 := hidB (RHd.out.on hb)
  have RW11 := hidB (RWd.out.on hb)
  replace hHeld := And.intro (hHeld.1.on hb) (And.intro (hHeld.2.1.on hb) (hHeld.2.2.on hb))
  clear hb htw
  refine hK.out _ _ hHeld (fun _ => ?_)
  clear hK K
  try simp only [Act.put, List.setIfInBounds_toArray, List.set_cons_zero, List.set_cons_succ]
  refine wpAnyH_ready (rs := [10]) (by kernel_rfl) (by simp) ?_
  refine AllReadyH.cons rfl (fun K hK => ?_) AllReadyH.nil
  rw [if_pos (by kernel_rfl)]
  refine wp_store_row 24 (.tmp 6) (.tmp 113) (by rfl) (w.heap.size + 1 + 1) (#[.slice (some ⟨gt, 0, none⟩) h.length h.length]) (by rfl) (by rfl) 24 (#[.slice none 0 0]) (by exact RH11.out) (by kernel_rfl) (by rfl) (by exact (by simp [Value.oneCell'])) ?_
  have RH12 := hidB (RH11.out.setRow #[.slice (some ⟨gt, 0, none⟩) h.length h.length])
  have RW12 := hidB (RW11.out.setRow_far (g2 := w.heap.size + 1 + 1) (by omega) #[.slice (some ⟨gt, 0, none⟩) h.length h.length])
  replace hHeld := And.intro (hHeld.1.setRow_far (g2 := w.heap.size + 1 + 1) (by have := HWL.out; omega) #[.slice (some ⟨gt, 0, none⟩) h.length h.length]) (And.intro (hHeld.2.1.setRow_far (g2 := w.heap.size + 1 + 1) (by have := HL10.out; omega) #[.slice (some ⟨gt, 0, none⟩) h.length h.length]) (hHeld.2.2.setRow_far (g2 := w.heap.size + 1 + 1) (by have := HTL.out; omega) #[.slice (some ⟨gt, 0, none⟩) h.length h.length]))
  refine put_none_K (by first | rfl | kernel_rfl) ?_
  refine hK.out _ _ hHeld (fun _ => ?_)
  clear hK K
  refine wpAnyH_ready (rs := [11]) (by kernel_rfl) (by simp) ?_
  refine AllReadyH.cons rfl (fun K hK => ?_) AllReadyH.nil
  rw [if_pos (by kernel_rfl)]
  refine wp_store_row 51 (.tmp 7) (.tmp 114) (by rfl) (w.heap.size + 1 + 1 + 1) ((endW res).cs) (by rfl) (by rfl) 51 (WI.zero.cs) (by exact RW12.out) (by kernel_rfl) (by rfl) (by exact HRK.out) ?_
  have RW13 := hidB (RW12.out.setRow (endW res).cs)
  have RH13 := hidB (RH12.out.setRow_far (g2 := w.heap.size + 1 + 1 + 1) (by omega) (endW res).cs)
  replace hHeld := And.intro (hHeld.1.setRow_far (g2 := w.heap.size + 1 + 1 + 1) (by have := HWL.out; omega) (endW res).cs) (And.intro (hHeld.2.1.setRow_far (g2 := w.heap.size + 1 + 1 + 1) (by have := HL10.out; omega) (endW res).cs) (hHeld.2.2.setRow_far (g2 := w.heap.size + 1 + 1 + 1) (by have := HTL.out; omega) (endW res).cs))
  refine put_none_K (by first | rfl | kernel_rfl) ?_
  refine hK.out _ _ hHeld (fun _ => ?_)
  clear hK K
  first | (refine wpAnyH_take (i := 12) (v := undef) (by exact gE rfl) (by kernel_rfl) (by kernel_rfl) (by kernel_rfl) (fun _ _ _ h => h) (Or.inr ⟨?_, rfl⟩) (by assumption) ?_; (rfl); try simp only [Act.put, List.setIfInBounds_toArray, List.set_cons_zero, List.set_cons_succ]) | (refine wpAnyH_take (i := 12) (v := ?_) (by exact gE rfl) (by kernel_rfl) (by kernel_rfl) (by kernel_rfl) (fun _ _ _ h => h) (Or.inl ⟨?_, ?_⟩) (by assumption) ?_; rotate_left; (rfl); (focus (intro w hSw; (try dsimp only at hSw); go_simp; try with_reducible rfl)); try simp only [Act.put, List.setIfInBounds_toArray, List.set_cons_zero, List.set_cons_succ])
  first | (refine wpAnyH_take (i := 13) (v := undef) (by exact gE rfl) (by kernel_rfl) (by kernel_rfl) (by kernel_rfl) (fun _ _ _ h => h) (Or.inr ⟨?_, rfl⟩) (by assumption) ?_; (rfl); try simp only [Act.put, List.setIfInBounds_toArray, List.set_cons_zero, List.set_cons_succ]) | (refine wpAnyH_take (i := 13) (v := ?_) (by exact gE rfl) (by kernel_rfl) (by kernel_rfl) (by kernel_rfl) (fun _ _ _ h => h) (Or.inl ⟨?_, ?_⟩) (by assumption) ?_; rotate_left; (rfl); (focus (intro w hSw; (try dsimp only at hSw); go_simp; try with_reducible rfl)); try simp only [Act.put, List.setIfInBounds_toArray, List.set_cons_zero, List.set_cons_succ])
  refine wpAnyH_done (by kernel_rfl) ?_ _
  refine NoPanic.normal ?_
  go_wp2_with fail
  have HFR := FreshH_far2 (B := wd.heap.size) (h := h') (hv := .slice (some ⟨gt, 0, none⟩) h.length h.length) (g1 := w.heap.size + 1 + 1) (g2 := w.heap.size + 1 + 1 + 1) ⟨by rw [bareH_length HTW.out.bare]; exact TwinH.own HTW.out HL1.out, TwinH.all HTW.out⟩ RH11.out RW11.out (by decide) (by decide) (by have h2 := HSD.out; have h3 := HG2L.out; have h4 := HL10.out; omega) #[.slice (some ⟨gt, 0, none⟩) h.length h.length] (endW res).cs
  exact bodyPost_ret (v := .tuple #[.agg #[.slice (some ⟨gt, 0, none⟩) h.length h.length], .agg (endW res).cs, (.slice qe5 k ce5), .int .i64 0]) (results_cctt Tryz.results10 _ _ (w.heap.size + 1 + 1) (w.heap.size + 1 + 1 + 1) 24 51 #[.slice (some ⟨gt, 0, none⟩) h.length h.length] ((endW res).cs) _ _ rfl RH13.out Tryz.underlying24 rfl (by kernel_rfl) rfl RW13.out Tryz.underlying51 rfl (by kernel_rfl)) rfl (show NextP1 h wx B1 T w res k _ _ from ⟨h', .slice (some ⟨gt, 0, none⟩) h.length h.length, qe5, ce5, rfl, HTW.out.bare, HFR.rd, below_setRow (below_setRow (HXe.out.trans (HB11.out.mono HBD.out)) (by have := HBW.out; omega) _) (by have := HBW.out; omega) _, ((KPe.out.trans (Kept.below HB11.out)).setRow (.inr (by omega)) _).setRow (.inr (by omega)) _⟩)

end Go.Proofs.YtbmaodlghglopaaGreatDoor
