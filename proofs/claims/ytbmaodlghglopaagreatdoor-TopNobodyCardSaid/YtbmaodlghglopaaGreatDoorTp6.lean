/-
  The trap of isExtensible as a task; asks that are begun.
-/
import Derived.Test.YtbmaodlghglopaaGreatDoorMxA
import Derived.Test.YtbmaodlghglopaaGreatDoorTp5
namespace Go.Proofs.YtbmaodlghglopaaGreatDoor
open Go.RowKit

theorem RunR.setRowG {r : Res} {p B : Nat} {O : OI} {w' : World} (h : RunR r p B O w') {g : Nat} {ty : TypeId} {cs : Array Value} (hg : Bk w' g ty cs) (hp : g ≠ p) (ds : Array Value) (ht : 26 ≠ ty := by decide) (ht2 : 29 ≠ ty := by decide) : RunR r p B O (w'.setRow g ds) := by
  cases r with
  | out x ks => obtain ⟨h1, h2, kv, e, h⟩ := h; exact ⟨h1, h2, kv, e, own_eq h fun k hk => heap_setRow _ (own_neB h hg ht hk) _⟩
  | want W l => obtain ⟨h1, av, ans, n, h, h'⟩ := h; exact ⟨h1, av, ans, n, own_eq h fun k hk => heap_setRow _ (own_neB h hg ht2 hk) _, h'.setRow_far hp ds⟩

set_option maxHeartbeats 8000000 in
set_option maxRecDepth 100000 in
theorem trap1_any (n : Int) (tg hd : VI) (hk : hd.k ≠ 1) (pq : Option Addr) (cq : Nat) (hcq : cq ≤ maxLen) (ga gt gh p : Nat) (ans : Value) (wt : WI) (L : List (OI × List KI)) (w : World) (hC : trapC (extV n (.slice pq 0 cq)) tg hd ga gt gh w) (hP : Bk w p 218 (playC ans 0 wt)) (hA : AnsR p L ans w) (hg : (trapS (extV n (.slice pq 0 cq)) tg hd nmX L).good) : Calls Tryz.prog 76 #[ptr p, ptr ga, ptr gt, ptr gh] w fun e w' => ∃ O : OI, e = .returned O.a ∧ O.keys.oneCell' = true ∧ Kept (fun q => q = p) w w' ∧ RunR (trapS (extV n (.slice pq 0 cq)) tg hd nmX L) p w.heap.size O w' := by
  have HPL := hidB hP.lt
  have ST := hidB (fun W (hP : Bk W p 218 (playC ans 0 wt)) (hA : AnsR p L ans W) => steps3_any n tg hd hk pq cq hcq p ans wt L W hP hA hg)
  have R := hidB (show Bk (w.alloc (.cells (#[.int .u8 0, .int .u8 0, .float .f64 0, .string ⟨#[]⟩, .int .i64 0, .bool false, .bool false, .int .u8 0, .int .u8 0, .float .f64 0, .string ⟨#[]⟩, .int .i64 0, .int .u8 0, .float .f64 0, .string ⟨#[]⟩, .int .i64 0, .int .u8 0, .float .f64 0, .string ⟨#[]⟩, .int .i64 0, .bool false, .bool false, .bool false, .slice none 0 0, .int .u8 0, .string ⟨#[]⟩]) 49)) (w.heap.size) 49 (OI.zero.cs) from Bk.new w _ _)
  have B := hidB (show Below w.heap.size w (w.alloc (.cells (#[.int .u8 0, .int .u8 0, .float .f64 0, .string ⟨#[]⟩, .int .i64 0, .bool false, .bool false, .int .u8 0, .int .u8 0, .float .f64 0, .string ⟨#[]⟩, .int .i64 0, .int .u8 0, .float .f64 0, .string ⟨#[]⟩, .int .i64 0, .int .u8 0, .float .f64 0, .string ⟨#[]⟩, .int .i64 0, .bool false, .bool false, .bool false, .slice none 0 0, .int .u8 0, .string ⟨#[]⟩]) 49)) from box_one w _)
  have PF := hidB (show Bk (w.alloc (.cells (#[.int .u8 0, .int .u8 0, .float .f64 0, .string ⟨#[]⟩, .int .i64 0, .bool false, .bool false, .int .u8 0, .int .u8 0, .float .f64 0, .string ⟨#[]⟩, .int .i64 0, .int .u8 0, .float .f64 0, .string ⟨#[]⟩, .int .i64 0, .int .u8 0, .float .f64 0, .string ⟨#[]⟩, .int .i64 0, .bool false, .bool false, .bool false, .slice none 0 0, .int .u8 0, .string ⟨#[]⟩]) 49)) p 218 (playC ans 0 wt) from hP.alloc _)
  have C0 := hidB (show Bk (w.alloc (.cells (#[.int .u8 0, .int .u8 0, .float .f64 0, .string ⟨#[]⟩, .int .i64 0, .bool false, .bool false, .int .u8 0, .int .u8 0, .float .f64 0, .string ⟨#[]⟩, .int .i64 0, .int .u8 0, .float .f64 0, .string ⟨#[]⟩, .int .i64 0, .int .u8 0, .float .f64 0, .string ⟨#[]⟩, .int .i64 0, .bool false, .bool false, .bool false, .slice none 0 0, .int .u8 0, .string ⟨#[]⟩]) 49)) ga 34 (extV n (.slice pq 0 cq)).cs from hC.ca.alloc _)
  have C1 := hidB (show Bk (w.alloc (.cells (#[.int .u8 0, .int .u8 0, .float .f64 0, .string ⟨#[]⟩, .int .i64 0, .bool false, .bool false, .int .u8 0, .int .u8 0, .float .f64 0, .string ⟨#[]⟩, .int .i64 0, .int .u8 0, .float .f64 0, .string ⟨#[]⟩, .int .i64 0, .int .u8 0, .float .f64 0, .string ⟨#[]⟩, .int .i64 0, .bool false, .bool false, .bool false, .slice none 0 0, .int .u8 0, .string ⟨#[]⟩]) 49)) gt 29 tg.cells.toArray from hC.ct.alloc _)
  have C2 := hidB (show Bk (w.alloc (.cells (#[.int .u8 0, .int .u8 0, .float .f64 0, .string ⟨#[]⟩, .int .i64 0, .bool false, .bool false, .int .u8 0, .int .u8 0, .float .f64 0, .string ⟨#[]⟩, .int .i64 0, .int .u8 0, .float .f64 0, .string ⟨#[]⟩, .int .i64 0, .int .u8 0, .float .f64 0, .string ⟨#[]⟩, .int .i64 0, .bool false, .bool false, .bool false, .slice none 0 0, .int .u8 0, .string ⟨#[]⟩]) 49)) gh 29 hd.cells.toArray from hC.ch.alloc _)
  have KW := hidB (show Kept (fun q => q = p) w (w.alloc (.cells (#[.int .u8 0, .int .u8 0, .float .f64 0, .string ⟨#[]⟩, .int .i64 0, .bool false, .bool false, .int .u8 0, .int .u8 0, .float .f64 0, .string ⟨#[]⟩, .int .i64 0, .int .u8 0, .float .f64 0, .string ⟨#[]⟩, .int .i64 0, .int .u8 0, .float .f64 0, .string ⟨#[]⟩, .int .i64 0, .bool false, .bool false, .bool false, .slice none 0 0, .int .u8 0, .string ⟨#[]⟩]) 49)) from (Kept.refl _ w).alloc _)
  have AF := hidB (fun W (h : Kept (fun q => q = p) w W) => hA.kept h)
  clear hP hA hC hg hk hcq
  go_enter Tryz.func76, Tryz.ntmps76
  go_upto_region 1 with fail
  generalize hW : (w.alloc (.cells (#[.int .u8 0, .int .u8 0, .float .f64 0, .string ⟨#[]⟩, .int .i64 0, .bool false, .bool false, .int .u8 0, .int .u8 0, .float .f64 0, .string ⟨#[]⟩, .int .i64 0, .int .u8 0, .float .f64 0, .string ⟨#[]⟩, .int .i64 0, .int .u8 0, .float .f64 0, .string ⟨#[]⟩, .int .i64 0, .bool false, .bool false, .bool false, .slice none 0 0, .int .u8 0, .string ⟨#[]⟩]) 49)) = w1 at *
  clear hW
  go_wp2_with (first | ((with_reducible refine ldId 34 (.tmp 1) ?_); refine wpList_load_row (by rfl) 34 (.tmp 1) (by rfl) (ga) (by rfl) 34 ((extV n (.slice pq 0 cq)).cs) (0, 0) _ (by exact C0.out) Tryz.underlying34 (by rfl) (by kernel_rfl) ?_) | ((with_reducible refine ldId 29 (.tmp 2) ?_); refine wpList_load_row (by rfl) 29 (.tmp 2) (by rfl) (gt) (by rfl) 29 (tg.cells.toArray) (0, 0) _ (by exact C1.out) Tryz.underlying29 (by rfl) (by kernel_rfl) ?_) | ((with_reducible refine ldId 29 (.tmp 3) ?_); refine wpList_load_row (by rfl) 29 (.tmp 3) (by rfl) (gh) (by rfl) 29 (hd.cells.toArray) (0, 0) _ (by exact C2.out) Tryz.underlying29 (by rfl) (by kernel_rfl) ?_))
  refine (ST.out w1 PF.out (AF.out _ KW.out)).mono ?_; rintro e w2 ⟨O, rfl, hok, hkp, hrun⟩
  have HOK := hidB hok
  have HRUN := hidB (hrun.lower B.out.size)
  have HLT := hidB R.out.lt
  replace R := hidB (R.out.kept hkp (by have := HPL.out; omega))
  replace KW := hidB (KW.out.trans hkp)
  have HL1 := hidB B.out.size
  have HRR := hidB hrun
  clear hkp hok hrun HRUN
  go_wp2_with (first | ((with_reducible refine stId 49 (.tmp 5) (.tmp 10) ?_); refine wpList_store_row (by rfl) 49 (.tmp 5) (.tmp 10) (by rfl) (w.heap.size) (O.cs) (by rfl) (by rfl) 49 (OI.zero.cs) (by exact R.out) (by kernel_rfl) (by rfl) (by exact OI.one _ HOK.out) ?_))
  have hfin : RunR (trapS (extV n (.slice pq 0 cq)) tg hd nmX L) p w.heap.size O (w2.setRow (w.heap.size) O.cs) := (RunR.setRowG HRR.out R.out (by have := HPL.out; omega) O.cs).lower HL1.out
  exact bodyPost_ret (v := .agg (O.cs)) (results_cell_row Tryz.results76 _ _ (w.heap.size) 49 (O.cs) (0, 0) _ rfl (R.out.setRow _) Tryz.underlying49 rfl (by kernel_rfl)) rfl (show ∃ O' : OI, Ending.returned O.a = .returned O'.a ∧ O'.keys.oneCell' = true ∧ Kept (fun q => q = p) w (w2.setRow (w.heap.size) O.cs) ∧ RunR (trapS (extV n (.slice pq 0 cq)) tg hd nmX L) p w.heap.size O' (w2.setRow (w.heap.size) O.cs) from ⟨O, rfl, HOK.out, KW.out.setRow (g := w.heap.size) (.inr (Nat.le_refl _)) O.cs, hfin⟩)

theorem trap_km (a : AI) (tg hd : VI) (nm : ByteArray) (L : List (OI × List KI)) (W : Value → WI) (l : List VI) (h : trapS a tg hd nm L = .want W l) (av : Value) : (W av).kd = (W vNil).kd ∧ (W av).ask.m = (W vNil).ask.m ∧ (av.oneCell' = true → (W av).one1) := by
  match L, h with
  | [], h => injection h with h1 h2; subst h1; exact ⟨rfl, rfl, fun _ => ⟨rfl, rfl, rfl, rfl⟩⟩
  | [e], h =>
    by_cases h1 : e.1.kd = 1
    · by_cases h2 : e.1.v.k = 0
      · rw [trap_two h1 h2] at h; injection h with h3 h4; subst h3; exact ⟨rfl, rfl, fun hv => ⟨hv, rfl, rfl, rfl⟩⟩
      · rw [show trapS a tg hd nm [e] = .out OI.zero [] from (if_pos h1).trans (if_neg h2)] at h; cases h
    · rw [trap_ends _ h1] at h; cases h
  | e :: e2 :: L, h =>
    by_cases h1 : e.1.kd = 1
    · by_cases h2 : e.1.v.k = 0
      · rw [trap_three h1 h2] at h; cases h
      · rw [show trapS a tg hd nm (e :: e2 :: L) = .out OI.zero [] from (if_pos h1).trans (if_neg h2)] at h; cases h
    · rw [trap_ends _ h1] at h; cases h
theorem runF_trap (n : Int) (tg hd : VI) (hk : hd.k ≠ 1) (pq : Option Addr) (cq : Nat) (hcq : cq ≤ maxLen) (ga gt gh : Nat) : RunF (trapS (extV n (.slice pq 0 cq)) tg hd nmX) 76 #[ptr ga, ptr gt, ptr gh] (trapE ga gt gh) (trapC (extV n (.slice pq 0 cq)) tg hd ga gt gh) where
  run := fun p ans wt L w hC _ hP hA hg => trap1_any n tg hd hk pq cq hcq ga gt gh p ans wt L w hC hP hA hg
  body := fun args w => by kernel_rfl
  keep := fun w w' h _ hb => ⟨(hb ga (.inl rfl)).trans h.ca, (hb gt (.inr (.inl rfl))).trans h.ct, (hb gh (.inr (.inr rfl))).trans h.ch⟩
  typ := fun w k h hk => by
    rcases hk with rfl | rfl | rfl
    · exact ⟨_, 34, (0, 0), h.ca, by decide, by decide, by decide⟩
    · exact ⟨_, 29, (0, 0), h.ct, by decide, by decide, by decide⟩
    · exact ⟨_, 29, (0, 0), h.ch, by decide, by decide, by decide⟩
  strip := fun L => trap_strip _ tg hd nmX L
  km := fun L W l h av => trap_km _ tg hd nmX L W l h av
/-- The trap, begun, as a task. -/
theorem startT_tk (n : Int) (tg hd : VI) (t0 : 0 ≤ tg.k) (t1 : tg.may = true) (t2 : isObj tg.k = true) (h0 : 0 ≤ hd.k) (h1 : hd.may = true) (h2 : isObj hd.k = true) (w : World) : Calls Tryz.prog 57 #[(extA n).a, tg.a, hd.a] w fun e w' => ∃ (T : Nat) (pq : Option Addr) (cq : Nat) (A : Nat → Prop), cq ≤ maxLen ∧ e = .returned (.tuple #[ptr T, .int .i64 0]) ∧ Below w.heap.size w w' ∧ TaskW (trapS (extV n (.slice pq 0 cq)) tg hd nmX) T .fresh A w' ∧ ∀ k, A k → w.heap.size ≤ k := by
  refine (startT_ext n tg hd t0 t1 t2 h0 h1 h2 w).mono ?_
  rintro e w' ⟨T, g, av, rfl, hb, hT, hg, hC, ⟨pa, c, rfl, hc⟩, hg3, hgT⟩
  have hk : hd.k ≠ 1 := fun h => by rw [h] at h2; exact absurd h2 (by decide)
  refine ⟨T, pa, c, _, hc, rfl, hb, task_fresh (runF_trap n tg hd hk pa c hc _ _ _) hg hC (fun k hk => ?_) hT (Nat.ne_of_gt hgT), fun k hk => ?_⟩
  · have h5 := hg.lt
    rcases hk with rfl | rfl | rfl <;> exact ⟨by omega, by omega⟩
  · rcases hk with (rfl | rfl | rfl) | rfl | rfl <;> omega
/-- What an ask that is begun comes to: at once, or by a task. -/
inductive BR where
  | now (x : OI)
  | tk (P : (List (OI × List KI) → Res) → Prop)
def BegR (r : BR) (w : World) (e : Ending) (w' : World) : Prop := Below w.heap.size w w' ∧ match r with
  | .now x => e = .returned (.tuple #[.nilIface, x.a])
  | .tk P => ∃ S iv A, P S ∧ e = .returned (.tuple #[iv, OI.zero.a]) ∧ TkW S iv .fresh A w' ∧ ∀ k, A k → w.heap.size ≤ k
def alongB (e : OJ × List PI) (a : AI) : BR := match alongV e a.k with
  | some v => .now (doneI v)
  | none => .tk (fun S => S = onceS { a with ob := e.1.pr.r })
theorem alongR_beg {e0 : OJ × List PI} {a : AI} {w : World} {e : Ending} {w' : World} (h : AlongR e0 a w e w') : BegR (alongB e0 a) w e w' := by
  obtain ⟨h1, h2⟩ := h
  refine ⟨h1, ?_⟩
  unfold alongB
  cases hv : alongV e0 a.k with
  | some v => rw [hv] at h2; exact h2
  | none => rw [hv] at h2; obtain ⟨iv, A, a1, a2, a3⟩ := h2; exact ⟨_, iv, A, rfl, a1, a2, a3⟩

theorem oj_one (o : OJ) (h : o.props.oneCell' = true) : o.cs.all (·.oneCell') = true := by
  rw [Array.all_eq_true_iff_forall_mem]
  simp only [OJ.cs, List.mem_toArray, List.forall_mem_cons, one_int, one_float, one_string, one_bool, h, and_true, List.not_mem_nil, false_imp_iff, implies_true]
theorem alongB_key {e : OJ × List PI} {a : AI} {x : OI} (h : alongB e a = .now x) : x.keys.oneCell' = true := by
  unfold alongB at h
  split at h
  · injection h with h; subst h; rfl
  · cases h

set_option maxHeartbeats 8000000 in
set_option maxRecDepth 100000 in
theorem begin8_any (h : HI) (hv : Value) (n : Nat) (hn : n < h.length) (a : AI) (hm : a.m = 8) (ho : a.ob = n) (hk : (h[n]'hn).1.kd = 1) (ha : a.args.oneCell' = true) (hd : ∀ q, findP (h[n]'hn).2 a.k = some q → (bits .and .u8 q.d.has 3 != 0) = true ∧ (bits .and .u8 q.d.has 12 != 0) = false) (lv : Int) (hl : lv ≤ 64) (gw : Nat) (w : World) (hw : Bk w gw 65 #[hv]) (hr : RdH h hv w) : Calls Tryz.prog 38 #[.pointer (some ⟨gw, 0, none⟩), a.a, .int .i64 lv] w (BegR (alongB (h[n]'hn) a) w) := by
  have HDO := hidB (fun W (hW : Bk W gw 65 #[hv]) (hR : RdH h hv W) => along8_any h hv n hn (by rw [hk]; decide) a ha hm ho hd gw W hW hR)
  have HRD := hidB (fun W (hb : Below w.heap.size w W) => hr.on hb)
  obtain ⟨g, o, c, rfl, hlm, hj⟩ := hr.obj hn
  have HJ := hidB hj
  unfold maxLen at hlm
  have hlm2 : h.length ≤ 9223372036854775807 := by omega
  clear hr hj hlm
  have hn0 : (0 : Int) ≤ (n : Int) := by omega
  have hn1 : (n : Int) < (h.length : Int) := by omega
  have HPR := hidB HJ.out.props.one
  have HK := hidB hk
  clear hk
  generalize (h[n]'hn) = e0 at *
  have Y := hidB (show Bk ((w.alloc (.cells (a.cs) 34)).alloc (.cells (#[.int .u8 0, .int .u8 0, .float .f64 0, .string ⟨#[]⟩, .int .i64 0, .bool false, .bool false, .int .u8 0, .int .u8 0, .float .f64 0, .string ⟨#[]⟩, .int .i64 0, .int .u8 0, .float .f64 0, .string ⟨#[]⟩, .int .i64 0, .int .u8 0, .float .f64 0, .string ⟨#[]⟩, .int .i64 0, .bool false, .bool false, .bool false, .slice none 0 0, .int .u8 0, .string ⟨#[]⟩]) 49)) (w.heap.size) 34 (a.cs) from (Bk.new w _ _).alloc _)
  have R := hidB (show Bk ((w.alloc (.cells (a.cs) 34)).alloc (.cells (#[.int .u8 0, .int .u8 0, .float .f64 0, .string ⟨#[]⟩, .int .i64 0, .bool false, .bool false, .int .u8 0, .int .u8 0, .float .f64 0, .string ⟨#[]⟩, .int .i64 0, .int .u8 0, .float .f64 0, .string ⟨#[]⟩, .int .i64 0, .int .u8 0, .float .f64 0, .string ⟨#[]⟩, .int .i64 0, .bool false, .bool false, .bool false, .slice none 0 0, .int .u8 0, .string ⟨#[]⟩]) 49)) (w.heap.size + 1) 49 (OI.zero.cs) from Bk.new2 w _ _ _)
  have B := hidB (show Below w.heap.size w ((w.alloc (.cells (a.cs) 34)).alloc (.cells (#[.int .u8 0, .int .u8 0, .float .f64 0, .string ⟨#[]⟩, .int .i64 0, .bool false, .bool false, .int .u8 0, .int .u8 0, .float .f64 0, .string ⟨#[]⟩, .int .i64 0, .int .u8 0, .float .f64 0, .string ⟨#[]⟩, .int .i64 0, .int .u8 0, .float .f64 0, .string ⟨#[]⟩, .int .i64 0, .bool false, .bool false, .bool false, .slice none 0 0, .int .u8 0, .string ⟨#[]⟩]) 49)) from (box_one w _).alloc (by simp) _)
  have GW := hidB (show Bk ((w.alloc (.cells (a.cs) 34)).alloc (.cells (#[.int .u8 0, .int .u8 0, .float .f64 0, .string ⟨#[]⟩, .int .i64 0, .bool false, .bool false, .int .u8 0, .int .u8 0, .float .f64 0, .string ⟨#[]⟩, .int .i64 0, .int .u8 0, .float .f64 0, .string ⟨#[]⟩, .int .i64 0, .int .u8 0, .float .f64 0, .string ⟨#[]⟩, .int .i64 0, .bool false, .bool false, .bool false, .slice none 0 0, .int .u8 0, .string ⟨#[]⟩]) 49)) gw 65 #[(.slice (some ⟨g, o, none⟩) h.length c)] from (hw.alloc _).alloc _)
  have HM := hidB hm
  have HO := hidB ho
  have hlv : ¬ (64 < lv) := by omega
  clear hw hm ho hd ha
  go_enter Tryz.func38, Tryz.ntmps38
  go_upto_region 1 with fail
  generalize hW : ((w.alloc (.cells (a.cs) 34)).alloc (.cells (#[.int .u8 0, .int .u8 0, .float .f64 0, .string ⟨#[]⟩, .int .i64 0, .bool false, .bool false, .int .u8 0, .int .u8 0, .float .f64 0, .string ⟨#[]⟩, .int .i64 0, .int .u8 0, .float .f64 0, .string ⟨#[]⟩, .int .i64 0, .int .u8 0, .float .f64 0, .string ⟨#[]⟩, .int .i64 0, .bool false, .bool false, .bool false, .slice none 0 0, .int .u8 0, .string ⟨#[]⟩]) 49)) = w1 at *
  clear hW
  replace HJ := hidB (HJ.out.on B.out)
  refine wp_region_noPanic ?_
  refine wp_region_held_drew (S := fun W => Below w.heap.size w W ∧ Below w1.heap.size w1 W) (by kernel_rfl) ?_ (fun hHeld => ?_)
  · exact ⟨B.out.drew, (Below.refl _ _).drew⟩
  generalize hWd : w1.drew = wd at *
  clear hWd
  first | (refine wpAnyH_take (i := 0) (v := undef) (by exact gE rfl) (by kernel_rfl) (by kernel_rfl) (by kernel_rfl) (fun _ _ _ h => h) (Or.inr ⟨?_, rfl⟩) (by assumption) ?_; (rfl); try simp only [Act.put, List.setIfInBounds_toArray, List.set_cons_zero, List.set_cons_succ]) | (refine wpAnyH_take (i := 0) (v := ?_) (by exact gE rfl) (by kernel_rfl) (by kernel_rfl) (by kernel_rfl) (fun _ _ _ h => h) (Or.inl ⟨?_, ?_⟩) (by assumption) ?_; rotate_left; (rfl); (focus (intro w hSw; (try dsimp only at hSw); go_simp; try with_reducible rfl)); try simp only [Act.put, List.setIfInBounds_toArray, List.set_cons_zero, List.set_cons_succ])
  first | (refine wpAnyH_take (i := 1) (v := undef) (by exact gE rfl) (by kernel_rfl) (by kernel_rfl) (by kernel_rfl) (fun _ _ _ h => h) (Or.inr ⟨?_, rfl⟩) (by assumption) ?_; (rfl); try simp only [Act.put, List.setIfInBounds_toArray, List.set_cons_zero, List.set_cons_succ]) | (refine wpAnyH_take (i := 1) (v := ?_) (by exact gE rfl) (by kernel_rfl) (by kernel_rfl) (by kernel_rfl) (fun _ _ _ h => h) (Or.inl ⟨?_, ?_⟩) (by assumption) ?_; rotate_left; (rfl); (focus (intro w hSw; (try dsimp only at hSw); go_simp; try with_reducible rfl)); try simp only [Act.put, List.setIfInBounds_toArray, List.set_cons_zero, List.set_cons_succ])
  first | (refine wpAnyH_take (i := 2) (v := undef) (by exact gE rfl) (by kernel_rfl) (by kernel_rfl) (by kernel_rfl) (fun _ _ _ h => h) (Or.inr ⟨?_, rfl⟩) (by assumption) ?_; (rfl); try simp only [Act.put, List.setIfInBounds_toArray, List.set_cons_zero, List.set_cons_succ]) | (refine wpAnyH_take (i := 2) (v := ?_) (by exact gE rfl) (by kernel_rfl) (by kernel_rfl) (by kernel_rfl) (fun _ _ _ h => h) (Or.inl ⟨?_, ?_⟩) (by assumption) ?_; rotate_left; (rfl); (focus (intro w hSw; (try dsimp only at hSw); go_simp; try with_reducible rfl)); try simp only [Act.put, List.setIfInBounds_toArray, List.set_cons_zero, List.set_cons_succ])
  first | (refine wpAnyH_take (i := 3) (v := undef) (by exact gE rfl) (by kernel_rfl) (by kernel_rfl) (by kernel_rfl) (fun _ _ _ h => h) (Or.inr ⟨?_, rfl⟩) (by assumption) ?_; (rfl); try simp only [Act.put, List.setIfInBounds_toArray, List.set_cons_zero, List.set_cons_succ]) | (refine wpAnyH_take (i := 3) (v := ?_) (by exact gE rfl) (by kernel_rfl) (by kernel_rfl) (by kernel_rfl) (fun _ _ _ h => h) (Or.inl ⟨?_, ?_⟩) (by assumption) ?_; rotate_left; (rfl); (focus (intro w hSw; (try dsimp only at hSw); go_simp; try with_reducible rfl)); try simp only [Act.put, List.setIfInBounds_toArray, List.set_cons_zero, List.set_cons_succ])
  first | (refine wpAnyH_take (i := 4) (v := undef) (by exact gE rfl) (by kernel_rfl) (by kernel_rfl) (by kernel_rfl) (fun _ _ _ h => h) (Or.inr ⟨?_, rfl⟩) (by assumption) ?_; (rfl); try simp only [Act.put, List.setIfInBounds_toArray, List.set_cons_zero, List.set_cons_succ]) | (refine wpAnyH_take (i := 4) (v := ?_) (by exact gE rfl) (by kernel_rfl) (by kernel_rfl) (by kernel_rfl) (fun _ _ _ h => h) (Or.inl ⟨?_, ?_⟩) (by assumption) ?_; rotate_left; (rfl); (focus (intro W hSw; have hc0 := (show W.cell? ⟨gw, 0, none⟩ = some ((.slice (some ⟨g, o, none⟩) h.length c)) from (GW.out.on hSw.2).cell 0); clear hSw; go_simp; try with_reducible rfl)); try simp only [Act.put, List.setIfInBounds_toArray, List.set_cons_zero, List.set_cons_succ])
  first | (refine wpAnyH_take (i := 5) (v := undef) (by exact gE rfl) (by kernel_rfl) (by kernel_rfl) (by kernel_rfl) (fun _ _ _ h => h) (Or.inr ⟨?_, rfl⟩) (by assumption) ?_; (rfl); try simp only [Act.put, List.setIfInBounds_toArray, List.set_cons_zero, List.set_cons_succ]) | (refine wpAnyH_take (i := 5) (v := ?_) (by exact gE rfl) (by kernel_rfl) (by kernel_rfl) (by kernel_rfl) (fun _ _ _ h => h) (Or.inl ⟨?_, ?_⟩) (by assumption) ?_; rotate_left; (rfl); (focus (intro w hSw; (try dsimp only at hSw); go_simp; try with_reducible rfl)); try simp only [Act.put, List.setIfInBounds_toArray, List.set_cons_zero, List.set_cons_succ])
  first | (refine wpAnyH_take (i := 6) (v := undef) (by exact gE rfl) (by kernel_rfl) (by kernel_rfl) (by kernel_rfl) (fun _ _ _ h => h) (Or.inr ⟨?_, rfl⟩) (by assumption) ?_; (rfl); try simp only [Act.put, List.setIfInBounds_toArray, List.set_cons_zero, List.set_cons_succ]) | (refine wpAnyH_take (i := 6) (v := ?_) (by exact gE rfl) (by kernel_rfl) (by kernel_rfl) (by kernel_rfl) (fun _ _ _ h => h) (Or.inl ⟨?_, ?_⟩) (by assumption) ?_; rotate_left; (rfl); (focus (intro W hSw; have hc0 := (show W.cell? ⟨w.heap.size, 1, none⟩ = some (.int .i64 (n : Int)) from by rw [← HO.out]; exact (Y.out.on hSw.2).cell 1); clear hSw; go_simp; try with_reducible rfl)); try simp only [Act.put, List.setIfInBounds_toArray, List.set_cons_zero, List.set_cons_succ])
  first | (refine wpAnyH_take (i := 7) (v := undef) (by exact gE rfl) (by kernel_rfl) (by kernel_rfl) (by kernel_rfl) (fun _ _ _ h => h) (Or.inr ⟨?_, rfl⟩) (by assumption) ?_; (rfl); try simp only [Act.put, List.setIfInBounds_toArray, List.set_cons_zero, List.set_cons_succ]) | (refine wpAnyH_take (i := 7) (v := ?_) (by exact gE rfl) (by kernel_rfl) (by kernel_rfl) (by kernel_rfl) (fun _ _ _ h => h) (Or.inl ⟨?_, ?_⟩) (by assumption) ?_; rotate_left; (rfl); (focus (intro w hSw; (try dsimp only at hSw); go_simp; try with_reducible rfl)); try simp only [Act.put, List.setIfInBounds_toArray, List.set_cons_zero, List.set_cons_succ])
  (refine wpAnyH_take (i := 8) (v := e0.1.a) (by exact gE rfl) (by kernel_rfl) (by kernel_rfl) (by kernel_rfl) (fun _ _ _ h => h) (yieldsIf_load_mid (by rfl) 42 (.tmp 16) (by rfl) (g) (o + n * 18) (by rfl) (e0.1.cs.toList) _ (fun W hS => (HJ.out.on hS.2).row) Tryz.underlying42 (by rfl) (by kernel_rfl)) (by assumption) ?_; try simp only [Act.put, List.setIfInBounds_toArray, List.set_cons_zero, List.set_cons_succ])
  refine wpAnyH_ready (rs := [9]) (by kernel_rfl) (by simp) ?_
  refine AllReadyH.cons rfl (fun K hK => ?_) AllReadyH.nil
  go_simp
  have X8 := hidB (Bk.new wd 42 (#[.int .u8 0, .int .u8 0, .float .f64 0, .string ⟨#[]⟩, .int .i64 0, .bool false, .slice none 0 0, .int .u8 0, .float .f64 0, .string ⟨#[]⟩, .int .i64 0, .int .u8 0, .float .f64 0, .string ⟨#[]⟩, .int .i64 0, .string ⟨#[]⟩, .bool false, .bool false]))
  have HGX8 := hidB hHeld.1.size
  have HHX8 := hidB hHeld.2.size
  replace hHeld := And.intro (hHeld.1.alloc hHeld.1.size (.cells (#[.int .u8 0, .int .u8 0, .float .f64 0, .string ⟨#[]⟩, .int .i64 0, .bool false, .slice none 0 0, .int .u8 0, .float .f64 0, .string ⟨#[]⟩, .int .i64 0, .int .u8 0, .float .f64 0, .string ⟨#[]⟩, .int .i64 0, .string ⟨#[]⟩, .bool false, .bool false]) 42)) (hHeld.2.alloc hHeld.2.size (.cells (#[.int .u8 0, .int .u8 0, .float .f64 0, .string ⟨#[]⟩, .int .i64 0, .bool false, .slice none 0 0, .int .u8 0, .float .f64 0, .string ⟨#[]⟩, .int .i64 0, .int .u8 0, .float .f64 0, .string ⟨#[]⟩, .int .i64 0, .string ⟨#[]⟩, .bool false, .bool false]) 42))
  refine hK.out _ _ hHeld (fun _ => ?_)
  clear hK K
  try simp only [Act.put, List.setIfInBounds_toArray, List.set_cons_zero, List.set_cons_succ]
  generalize hWn : (wd.alloc (.cells (#[.int .u8 0, .int .u8 0, .float .f64 0, .string ⟨#[]⟩, .int .i64 0, .bool false, .slice none 0 0, .int .u8 0, .float .f64 0, .string ⟨#[]⟩, .int .i64 0, .int .u8 0, .float .f64 0, .string ⟨#[]⟩, .int .i64 0, .string ⟨#[]⟩, .bool false, .bool false]) 42)) = wa at *
  clear hWn
  generalize hGn : wd.heap.size = g8 at *
  clear hGn
  refine wpAnyH_ready (rs := [10]) (by kernel_rfl) (by simp) ?_
  refine AllReadyH.cons rfl (fun K hK => ?_) AllReadyH.nil
  rw [if_pos (by kernel_rfl)]
  refine wp_store_row 42 (.tmp 8) (.tmp 17) (by rfl) (g8) (e0.1.cs) (by rfl) (by rfl) 42 (#[.int .u8 0, .int .u8 0, .float .f64 0, .string ⟨#[]⟩, .int .i64 0, .bool false, .slice none 0 0, .int .u8 0, .float .f64 0, .string ⟨#[]⟩, .int .i64 0, .int .u8 0, .float .f64 0, .string ⟨#[]⟩, .int .i64 0, .string ⟨#[]⟩, .bool false, .bool false]) (by exact X8.out) (by kernel_rfl) (by rfl) (by exact oj_one e0.1 HPR.out) ?_
  replace X8 := hidB (X8.out.setRow (e0.1.cs))
  replace hHeld := And.intro (below_setRow hHeld.1 HGX8.out (e0.1.cs)) (below_setRow hHeld.2 HHX8.out (e0.1.cs))
  refine put_none_K (by first | rfl | kernel_rfl) ?_
  refine hK.out _ _ hHeld (fun _ => ?_)
  clear hK K
  generalize hWn : wa.setRow g8 (e0.1.cs) = w2 at *
  clear hWn
  refine wpAnyH_done (by kernel_rfl) ?_ _
  refine NoPanic.normal ?_
  replace Y := hidB (Y.out.on hHeld.2)
  replace R := hidB (R.out.on hHeld.2)
  replace GW := hidB (GW.out.on hHeld.2)
  have B := hidB hHeld.1
  clear hHeld HGX8 HHX8 HJ
  have y0 : w2.cell? ⟨w.heap.size, 0, none⟩ = some (.int .u8 8) := by rw [← HM.out]; exact Y.out.cell 0
  have k0 : w2.cell? ⟨g8, 0, none⟩ = some (.int .u8 1) := by rw [← HK.out]; exact X8.out.cell 0
  go_wp2_with (first | ((with_reducible refine ldId 34 (.tmp 4) ?_); refine wpList_load_row (by rfl) 34 (.tmp 4) (by rfl) (w.heap.size) (by rfl) 34 (a.cs) (0, 0) _ (by exact Y.out) Tryz.underlying34 (by rfl) (by kernel_rfl) ?_))
  refine (HDO.out _ GW.out (HRD.out _ B.out)).mono ?_; rintro e w3 har
  obtain ⟨hb, hres⟩ := alongR_beg har
  have HRL := hidB R.out.lt
  have HBB := hidB B.out.size
  replace R := hidB (R.out.on hb)
  replace B := hidB (B.out.trans (hb.mono B.out.size))
  clear hb
  have HQ := hidB hres
  clear har hres
  cases hbr : alongB e0 a with
  | now x =>
    have HE := HQ.out
    rw [hbr] at HE
    subst HE
    have HX := hidB (alongB_key hbr)
    go_wp2_with (first | ((with_reducible refine stId 49 (.tmp 7) (.tmp 75) ?_); refine wpList_store_row (by rfl) 49 (.tmp 7) (.tmp 75) (by rfl) (w.heap.size + 1) (x.cs) (by rfl) (by rfl) 49 (OI.zero.cs) (by exact R.out) (by kernel_rfl) (by rfl) (by exact OI.one _ HX.out) ?_))
    exact bodyPost_ret (v := .tuple #[.nilIface, x.a]) (results_tr Tryz.results38 _ _ (w.heap.size + 1) 49 (x.cs) (0, 0) _ rfl (R.out.setRow _) Tryz.underlying49 rfl (by kernel_rfl)) rfl (show BegR _ w _ _ from ⟨below_setRow B.out (Nat.le_succ _) _, by rw [hbr]⟩)
  | tk P =>
    have HE := HQ.out
    rw [hbr] at HE
    obtain ⟨S, iv, A, hP, rfl, hT, hA⟩ := HE
    have HP := hidB hP
    have HT := hidB hT
    have HA := hidB hA
    clear hP hT hA
    go_wp2_with (first | ((with_reducible refine stId 49 (.tmp 7) (.tmp 75) ?_); refine wpList_store_row (by rfl) 49 (.tmp 7) (.tmp 75) (by rfl) (w.heap.size + 1) (OI.zero.cs) (by rfl) (by rfl) 49 (OI.zero.cs) (by exact R.out) (by kernel_rfl) (by rfl) (by exact OI.one _ rfl) ?_))
    exact bodyPost_ret (v := .tuple #[iv, OI.zero.a]) (results_tr Tryz.results38 _ _ (w.heap.size + 1) 49 (OI.zero.cs) (0, 0) _ rfl (R.out.setRow _) Tryz.underlying49 rfl (by kernel_rfl)) rfl (show BegR _ w _ _ from ⟨below_setRow B.out (Nat.le_succ _) _, by rw [hbr]; exact ⟨S, iv, A, HP.out, rfl, HT.out.keep (by simp [World.setRow]) (fun k hk => heap_setRow _ (by have h1 := HA.out k hk; have h2 := HRL.out; omega) _), fun k hk => Nat.le_trans HBB.out (HA.out k hk)⟩⟩)
set_option maxHeartbeats 8000000 in
set_option maxRecDepth 100000 in
theorem begin3_any (h : HI) (hv : Value) (n : Nat) (hn : n < h.length) (a : AI) (hm : a.m = 3) (ho : a.ob = n) (hk : (h[n]'hn).1.kd = 1) (lv : Int) (hl : lv ≤ 64) (gw : Nat) (w : World) (hw : Bk w gw 65 #[hv]) (hr : RdH h hv w) : Calls Tryz.prog 38 #[.pointer (some ⟨gw, 0, none⟩), a.a, .int .i64 lv] w (BegR (.now (yesI (h[n]'hn).1.ext)) w) := by
  have HDO := hidB (fun W (hW : Bk W gw 65 #[hv]) (hR : RdH h hv W) => does3_any h hv n hn (by rw [hk]; decide) a hm ho gw W hW hR)
  have HRD := hidB (fun W (hb : Below w.heap.size w W) => hr.on hb)
  obtain ⟨g, o, c, rfl, hlm, hj⟩ := hr.obj hn
  have HJ := hidB hj
  unfold maxLen at hlm
  have hlm2 : h.length ≤ 9223372036854775807 := by omega
  clear hr hj hlm
  have hn0 : (0 : Int) ≤ (n : Int) := by omega
  have hn1 : (n : Int) < (h.length : Int) := by omega
  have HPR := hidB HJ.out.props.one
  have HK := hidB hk
  clear hk
  generalize (h[n]'hn) = e0 at *
  have Y := hidB (show Bk ((w.alloc (.cells (a.cs) 34)).alloc (.cells (#[.int .u8 0, .int .u8 0, .float .f64 0, .string ⟨#[]⟩, .int .i64 0, .bool false, .bool false, .int .u8 0, .int .u8 0, .float .f64 0, .string ⟨#[]⟩, .int .i64 0, .int .u8 0, .float .f64 0, .string ⟨#[]⟩, .int .i64 0, .int .u8 0, .float .f64 0, .string ⟨#[]⟩, .int .i64 0, .bool false, .bool false, .bool false, .slice none 0 0, .int .u8 0, .string ⟨#[]⟩]) 49)) (w.heap.size) 34 (a.cs) from (Bk.new w _ _).alloc _)
  have R := hidB (show Bk ((w.alloc (.cells (a.cs) 34)).alloc (.cells (#[.int .u8 0, .int .u8 0, .float .f64 0, .string ⟨#[]⟩, .int .i64 0, .bool false, .bool false, .int .u8 0, .int .u8 0, .float .f64 0, .string ⟨#[]⟩, .int .i64 0, .int .u8 0, .float .f64 0, .string ⟨#[]⟩, .int .i64 0, .int .u8 0, .float .f64 0, .string ⟨#[]⟩, .int .i64 0, .bool false, .bool false, .bool false, .slice none 0 0, .int .u8 0, .string ⟨#[]⟩]) 49)) (w.heap.size + 1) 49 (OI.zero.cs) from Bk.new2 w _ _ _)
  have B := hidB (show Below w.heap.size w ((w.alloc (.cells (a.cs) 34)).alloc (.cells (#[.int .u8 0, .int .u8 0, .float .f64 0, .string ⟨#[]⟩, .int .i64 0, .bool false, .bool false, .int .u8 0, .int .u8 0, .float .f64 0, .string ⟨#[]⟩, .int .i64 0, .int .u8 0, .float .f64 0, .string ⟨#[]⟩, .int .i64 0, .int .u8 0, .float .f64 0, .string ⟨#[]⟩, .int .i64 0, .bool false, .bool false, .bool false, .slice none 0 0, .int .u8 0, .string ⟨#[]⟩]) 49)) from (box_one w _).alloc (by simp) _)
  have GW := hidB (show Bk ((w.alloc (.cells (a.cs) 34)).alloc (.cells (#[.int .u8 0, .int .u8 0, .float .f64 0, .string ⟨#[]⟩, .int .i64 0, .bool false, .bool false, .int .u8 0, .int .u8 0, .float .f64 0, .string ⟨#[]⟩, .int .i64 0, .int .u8 0, .float .f64 0, .string ⟨#[]⟩, .int .i64 0, .int .u8 0, .float .f64 0, .string ⟨#[]⟩, .int .i64 0, .bool false, .bool false, .bool false, .slice none 0 0, .int .u8 0, .string ⟨#[]⟩]) 49)) gw 65 #[(.slice (some ⟨g, o, none⟩) h.length c)] from (hw.alloc _).alloc _)
  have HM := hidB hm
  have HO := hidB ho
  have hlv : ¬ (64 < lv) := by omega
  clear hw hm ho
  go_enter Tryz.func38, Tryz.ntmps38
  go_upto_region 1 with fail
  generalize hW : ((w.alloc (.cells (a.cs) 34)).alloc (.cells (#[.int .u8 0, .int .u8 0, .float .f64 0, .string ⟨#[]⟩, .int .i64 0, .bool false, .bool false, .int .u8 0, .int .u8 0, .float .f64 0, .string ⟨#[]⟩, .int .i64 0, .int .u8 0, .float .f64 0, .string ⟨#[]⟩, .int .i64 0, .int .u8 0, .float .f64 0, .string ⟨#[]⟩, .int .i64 0, .bool false, .bool false, .bool false, .slice none 0 0, .int .u8 0, .string ⟨#[]⟩]) 49)) = w1 at *
  clear hW
  replace HJ := hidB (HJ.out.on B.out)
  refine wp_region_noPanic ?_
  refine wp_region_held_drew (S := fun W => Below w.heap.size w W ∧ Below w1.heap.size w1 W) (by kernel_rfl) ?_ (fun hHeld => ?_)
  · exact ⟨B.out.drew, (Below.refl _ _).drew⟩
  generalize hWd : w1.drew = wd at *
  clear hWd
  first | (refine wpAnyH_take (i := 0) (v := undef) (by exact gE rfl) (by kernel_rfl) (by kernel_rfl) (by kernel_rfl) (fun _ _ _ h => h) (Or.inr ⟨?_, rfl⟩) (by assumption) ?_; (rfl); try simp only [Act.put, List.setIfInBounds_toArray, List.set_cons_zero, List.set_cons_succ]) | (refine wpAnyH_take (i := 0) (v := ?_) (by exact gE rfl) (by kernel_rfl) (by kernel_rfl) (by kernel_rfl) (fun _ _ _ h => h) (Or.inl ⟨?_, ?_⟩) (by assumption) ?_; rotate_left; (rfl); (focus (intro w hSw; (try dsimp only at hSw); go_simp; try with_reducible rfl)); try simp only [Act.put, List.setIfInBounds_toArray, List.set_cons_zero, List.set_cons_succ])
  first | (refine wpAnyH_take (i := 1) (v := undef) (by exact gE rfl) (by kernel_rfl) (by kernel_rfl) (by kernel_rfl) (fun _ _ _ h => h) (Or.inr ⟨?_, rfl⟩) (by assumption) ?_; (rfl); try simp only [Act.put, List.setIfInBounds_toArray, List.set_cons_zero, List.set_cons_succ]) | (refine wpAnyH_take (i := 1) (v := ?_) (by exact gE rfl) (by kernel_rfl) (by kernel_rfl) (by kernel_rfl) (fun _ _ _ h => h) (Or.inl ⟨?_, ?_⟩) (by assumption) ?_; rotate_left; (rfl); (focus (intro w hSw; (try dsimp only at hSw); go_simp; try with_reducible rfl)); try simp only [Act.put, List.setIfInBounds_toArray, List.set_cons_zero, List.set_cons_succ])
  first | (refine wpAnyH_take (i := 2) (v := undef) (by exact gE rfl) (by kernel_rfl) (by kernel_rfl) (by kernel_rfl) (fun _ _ _ h => h) (Or.inr ⟨?_, rfl⟩) (by assumption) ?_; (rfl); try simp only [Act.put, List.setIfInBounds_toArray, List.set_cons_zero, List.set_cons_succ]) | (refine wpAnyH_take (i := 2) (v := ?_) (by exact gE rfl) (by kernel_rfl) (by kernel_rfl) (by kernel_rfl) (fun _ _ _ h => h) (Or.inl ⟨?_, ?_⟩) (by assumption) ?_; rotate_left; (rfl); (focus (intro w hSw; (try dsimp only at hSw); go_simp; try with_reducible rfl)); try simp only [Act.put, List.setIfInBounds_toArray, List.set_cons_zero, List.set_cons_succ])
  first | (refine wpAnyH_take (i := 3) (v := undef) (by exact gE rfl) (by kernel_rfl) (by kernel_rfl) (by kernel_rfl) (fun _ _ _ h => h) (Or.inr ⟨?_, rfl⟩) (by assumption) ?_; (rfl); try simp only [Act.put, List.setIfInBounds_toArray, List.set_cons_zero, List.set_cons_succ]) | (refine wpAnyH_take (i := 3) (v := ?_) (by exact gE rfl) (by kernel_rfl) (by kernel_rfl) (by kernel_rfl) (fun _ _ _ h => h) (Or.inl ⟨?_, ?_⟩) (by assumption) ?_; rotate_left; (rfl); (focus (intro w hSw; (try dsimp only at hSw); go_simp; try with_reducible rfl)); try simp only [Act.put, List.setIfInBounds_toArray, List.set_cons_zero, List.set_cons_succ])
  first | (refine wpAnyH_take (i := 4) (v := undef) (by exact gE rfl) (by kernel_rfl) (by kernel_rfl) (by kernel_rfl) (fun _ _ _ h => h) (Or.inr ⟨?_, rfl⟩) (by assumption) ?_; (rfl); try simp only [Act.put, List.setIfInBounds_toArray, List.set_cons_zero, List.set_cons_succ]) | (refine wpAnyH_take (i := 4) (v := ?_) (by exact gE rfl) (by kernel_rfl) (by kernel_rfl) (by kernel_rfl) (fun _ _ _ h => h) (Or.inl ⟨?_, ?_⟩) (by assumption) ?_; rotate_left; (rfl); (focus (intro W hSw; have hc0 := (show W.cell? ⟨gw, 0, none⟩ = some ((.slice (some ⟨g, o, none⟩) h.length c)) from (GW.out.on hSw.2).cell 0); clear hSw; go_simp; try with_reducible rfl)); try simp only [Act.put, List.setIfInBounds_toArray, List.set_cons_zero, List.set_cons_succ])
  first | (refine wpAnyH_take (i := 5) (v := undef) (by exact gE rfl) (by kernel_rfl) (by kernel_rfl) (by kernel_rfl) (fun _ _ _ h => h) (Or.inr ⟨?_, rfl⟩) (by assumption) ?_; (rfl); try simp only [Act.put, List.setIfInBounds_toArray, List.set_cons_zero, List.set_cons_succ]) | (refine wpAnyH_take (i := 5) (v := ?_) (by exact gE rfl) (by kernel_rfl) (by kernel_rfl) (by kernel_rfl) (fun _ _ _ h => h) (Or.inl ⟨?_, ?_⟩) (by assumption) ?_; rotate_left; (rfl); (focus (intro w hSw; (try dsimp only at hSw); go_simp; try with_reducible rfl)); try simp only [Act.put, List.setIfInBounds_toArray, List.set_cons_zero, List.set_cons_succ])
  first | (refine wpAnyH_take (i := 6) (v := undef) (by exact gE rfl) (by kernel_rfl) (by kernel_rfl) (by kernel_rfl) (fun _ _ _ h => h) (Or.inr ⟨?_, rfl⟩) (by assumption) ?_; (rfl); try simp only [Act.put, List.setIfInBounds_toArray, List.set_cons_zero, List.set_cons_succ]) | (refine wpAnyH_take (i := 6) (v := ?_) (by exact gE rfl) (by kernel_rfl) (by kernel_rfl) (by kernel_rfl) (fun _ _ _ h => h) (Or.inl ⟨?_, ?_⟩) (by assumption) ?_; rotate_left; (rfl); (focus (intro W hSw; have hc0 := (show W.cell? ⟨w.heap.size, 1, none⟩ = some (.int .i64 (n : Int)) from by rw [← HO.out]; exact (Y.out.on hSw.2).cell 1); clear hSw; go_simp; try with_reducible rfl)); try simp only [Act.put, List.setIfInBounds_toArray, List.set_cons_zero, List.set_cons_succ])
  first | (refine wpAnyH_take (i := 7) (v := undef) (by exact gE rfl) (by kernel_rfl) (by kernel_rfl) (by kernel_rfl) (fun _ _ _ h => h) (Or.inr ⟨?_, rfl⟩) (by assumption) ?_; (rfl); try simp only [Act.put, List.setIfInBounds_toArray, List.set_cons_zero, List.set_cons_succ]) | (refine wpAnyH_take (i := 7) (v := ?_) (by exact gE rfl) (by kernel_rfl) (by kernel_rfl) (by kernel_rfl) (fun _ _ _ h => h) (Or.inl ⟨?_, ?_⟩) (by assumption) ?_; rotate_left; (rfl); (focus (intro w hSw; (try dsimp only at hSw); go_simp; try with_reducible rfl)); try simp only [Act.put, List.setIfInBounds_toArray, List.set_cons_zero, List.set_cons_succ])
  (refine wpAnyH_take (i := 8) (v := e0.1.a) (by exact gE rfl) (by kernel_rfl) (by kernel_rfl) (by kernel_rfl) (fun _ _ _ h => h) (yieldsIf_load_mid (by rfl) 42 (.tmp 16) (by rfl) (g) (o + n * 18) (by rfl) (e0.1.cs.toList) _ (fun W hS => (HJ.out.on hS.2).row) Tryz.underlying42 (by rfl) (by kernel_rfl)) (by assumption) ?_; try simp only [Act.put, List.setIfInBounds_toArray, List.set_cons_zero, List.set_cons_succ])
  refine wpAnyH_ready (rs := [9]) (by kernel_rfl) (by simp) ?_
  refine AllReadyH.cons rfl (fun K hK => ?_) AllReadyH.nil
  go_simp
  have X8 := hidB (Bk.new wd 42 (#[.int .u8 0, .int .u8 0, .float .f64 0, .string ⟨#[]⟩, .int .i64 0, .bool false, .slice none 0 0, .int .u8 0, .float .f64 0, .string ⟨#[]⟩, .int .i64 0, .int .u8 0, .float .f64 0, .string ⟨#[]⟩, .int .i64 0, .string ⟨#[]⟩, .bool false, .bool false]))
  have HGX8 := hidB hHeld.1.size
  have HHX8 := hidB hHeld.2.size
  replace hHeld := And.intro (hHeld.1.alloc hHeld.1.size (.cells (#[.int .u8 0, .int .u8 0, .float .f64 0, .string ⟨#[]⟩, .int .i64 0, .bool false, .slice none 0 0, .int .u8 0, .float .f64 0, .string ⟨#[]⟩, .int .i64 0, .int .u8 0, .float .f64 0, .string ⟨#[]⟩, .int .i64 0, .string ⟨#[]⟩, .bool false, .bool false]) 42)) (hHeld.2.alloc hHeld.2.size (.cells (#[.int .u8 0, .int .u8 0, .float .f64 0, .string ⟨#[]⟩, .int .i64 0, .bool false, .slice none 0 0, .int .u8 0, .float .f64 0, .string ⟨#[]⟩, .int .i64 0, .int .u8 0, .float .f64 0, .string ⟨#[]⟩, .int .i64 0, .string ⟨#[]⟩, .bool false, .bool false]) 42))
  refine hK.out _ _ hHeld (fun _ => ?_)
  clear hK K
  try simp only [Act.put, List.setIfInBounds_toArray, List.set_cons_zero, List.set_cons_succ]
  generalize hWn : (wd.alloc (.cells (#[.int .u8 0, .int .u8 0, .float .f64 0, .string ⟨#[]⟩, .int .i64 0, .bool false, .slice none 0 0, .int .u8 0, .float .f64 0, .string ⟨#[]⟩, .int .i64 0, .int .u8 0, .float .f64 0, .string ⟨#[]⟩, .int .i64 0, .string ⟨#[]⟩, .bool false, .bool false]) 42)) = wa at *
  clear hWn
  generalize hGn : wd.heap.size = g8 at *
  clear hGn
  refine wpAnyH_ready (rs := [10]) (by kernel_rfl) (by simp) ?_
  refine AllReadyH.cons rfl (fun K hK => ?_) AllReadyH.nil
  rw [if_pos (by kernel_rfl)]
  refine wp_store_row 42 (.tmp 8) (.tmp 17) (by rfl) (g8) (e0.1.cs) (by rfl) (by rfl) 42 (#[.int .u8 0, .int .u8 0, .float .f64 0, .string ⟨#[]⟩, .int .i64 0, .bool false, .slice none 0 0, .int .u8 0, .float .f64 0, .string ⟨#[]⟩, .int .i64 0, .int .u8 0, .float .f64 0, .string ⟨#[]⟩, .int .i64 0, .string ⟨#[]⟩, .bool false, .bool false]) (by exact X8.out) (by kernel_rfl) (by rfl) (by exact oj_one e0.1 HPR.out) ?_
  replace X8 := hidB (X8.out.setRow (e0.1.cs))
  replace hHeld := And.intro (below_setRow hHeld.1 HGX8.out (e0.1.cs)) (below_setRow hHeld.2 HHX8.out (e0.1.cs))
  refine put_none_K (by first | rfl | kernel_rfl) ?_
  refine hK.out _ _ hHeld (fun _ => ?_)
  clear hK K
  generalize hWn : wa.setRow g8 (e0.1.cs) = w2 at *
  clear hWn
  refine wpAnyH_done (by kernel_rfl) ?_ _
  refine NoPanic.normal ?_
  replace Y := hidB (Y.out.on hHeld.2)
  replace R := hidB (R.out.on hHeld.2)
  replace GW := hidB (GW.out.on hHeld.2)
  have B := hidB hHeld.1
  clear hHeld HGX8 HHX8 HJ
  have y0 : w2.cell? ⟨w.heap.size, 0, none⟩ = some (.int .u8 3) := by rw [← HM.out]; exact Y.out.cell 0
  have k0 : w2.cell? ⟨g8, 0, none⟩ = some (.int .u8 1) := by rw [← HK.out]; exact X8.out.cell 0
  go_wp2_with (first | ((with_reducible refine ldId 34 (.tmp 4) ?_); refine wpList_load_row (by rfl) 34 (.tmp 4) (by rfl) (w.heap.size) (by rfl) 34 (a.cs) (0, 0) _ (by exact Y.out) Tryz.underlying34 (by rfl) (by kernel_rfl) ?_))
  refine (HDO.out _ GW.out (HRD.out _ B.out)).mono ?_; rintro e w3 ⟨rfl, hb⟩
  replace R := hidB (R.out.on hb)
  replace B := hidB (B.out.trans (hb.mono B.out.size))
  clear hb
  go_wp2_with (first | ((with_reducible refine stId 49 (.tmp 7) (.tmp 78) ?_); refine wpList_store_row (by rfl) 49 (.tmp 7) (.tmp 78) (by rfl) (w.heap.size + 1) ((yesI e0.1.ext).cs) (by rfl) (by rfl) 49 (OI.zero.cs) (by exact R.out) (by kernel_rfl) (by rfl) (by exact OI.one _ rfl) ?_))
  exact bodyPost_ret (v := .tuple #[.nilIface, (yesI e0.1.ext).a]) (results_tr Tryz.results38 _ _ (w.heap.size + 1) 49 ((yesI e0.1.ext).cs) (0, 0) _ rfl (R.out.setRow _) Tryz.underlying49 rfl (by kernel_rfl)) rfl (show BegR _ w _ _ from ⟨below_setRow B.out (Nat.le_succ _) _, rfl⟩)
set_option maxHeartbeats 8000000 in
set_option maxRecDepth 100000 in
theorem beginP_any (h : HI) (hv : Value) (n : Nat) (hn : n < h.length) (a : AI) (hm : a.m = 3) (ho : a.ob = n) (ha : a = extA a.ob) (hk : (h[n]'hn).1.kd = 6) (t0 : 0 ≤ (h[n]'hn).1.tg.k) (t1 : (h[n]'hn).1.tg.may = true) (t2 : isObj (h[n]'hn).1.tg.k = true) (h0 : 0 ≤ (h[n]'hn).1.hd.k) (h1 : (h[n]'hn).1.hd.may = true) (h2 : isObj (h[n]'hn).1.hd.k = true) (lv : Int) (hl : lv ≤ 64) (gw : Nat) (w : World) (hw : Bk w gw 65 #[hv]) (hr : RdH h hv w) : Calls Tryz.prog 38 #[.pointer (some ⟨gw, 0, none⟩), a.a, .int .i64 lv] w (BegR (.tk (fun S => ∃ pq cq, cq ≤ maxLen ∧ S = trapS (extV a.ob (.slice pq 0 cq)) (h[n]'hn).1.tg (h[n]'hn).1.hd nmX)) w) := by
  have HDO := hidB (fun W => startT_tk a.ob (h[n]'hn).1.tg (h[n]'hn).1.hd t0 t1 t2 h0 h1 h2 W)
  have HTN := hidB (show (h[n]'hn).1.tg.k ≠ 1 from fun h => by rw [h] at t2; exact absurd t2 (by decide))
  have HAE := hidB (show a = extA a.ob from ha)
  have HRD := hidB (fun W (hb : Below w.heap.size w W) => hr.on hb)
  obtain ⟨g, o, c, rfl, hlm, hj⟩ := hr.obj hn
  have HJ := hidB hj
  unfold maxLen at hlm
  have hlm2 : h.length ≤ 9223372036854775807 := by omega
  clear hr hj hlm
  have hn0 : (0 : Int) ≤ (n : Int) := by omega
  have hn1 : (n : Int) < (h.length : Int) := by omega
  have HPR := hidB HJ.out.props.one
  have HK := hidB hk
  clear hk
  generalize (h[n]'hn) = e0 at *
  have Y := hidB (show Bk ((w.alloc (.cells (a.cs) 34)).alloc (.cells (#[.int .u8 0, .int .u8 0, .float .f64 0, .string ⟨#[]⟩, .int .i64 0, .bool false, .bool false, .int .u8 0, .int .u8 0, .float .f64 0, .string ⟨#[]⟩, .int .i64 0, .int .u8 0, .float .f64 0, .string ⟨#[]⟩, .int .i64 0, .int .u8 0, .float .f64 0, .string ⟨#[]⟩, .int .i64 0, .bool false, .bool false, .bool false, .slice none 0 0, .int .u8 0, .string ⟨#[]⟩]) 49)) (w.heap.size) 34 (a.cs) from (Bk.new w _ _).alloc _)
  have R := hidB (show Bk ((w.alloc (.cells (a.cs) 34)).alloc (.cells (#[.int .u8 0, .int .u8 0, .float .f64 0, .string ⟨#[]⟩, .int .i64 0, .bool false, .bool false, .int .u8 0, .int .u8 0, .float .f64 0, .string ⟨#[]⟩, .int .i64 0, .int .u8 0, .float .f64 0, .string ⟨#[]⟩, .int .i64 0, .int .u8 0, .float .f64 0, .string ⟨#[]⟩, .int .i64 0, .bool false, .bool false, .bool false, .slice none 0 0, .int .u8 0, .string ⟨#[]⟩]) 49)) (w.heap.size + 1) 49 (OI.zero.cs) from Bk.new2 w _ _ _)
  have B := hidB (show Below w.heap.size w ((w.alloc (.cells (a.cs) 34)).alloc (.cells (#[.int .u8 0, .int .u8 0, .float .f64 0, .string ⟨#[]⟩, .int .i64 0, .bool false, .bool false, .int .u8 0, .int .u8 0, .float .f64 0, .string ⟨#[]⟩, .int .i64 0, .int .u8 0, .float .f64 0, .string ⟨#[]⟩, .int .i64 0, .int .u8 0, .float .f64 0, .string ⟨#[]⟩, .int .i64 0, .bool false, .bool false, .bool false, .slice none 0 0, .int .u8 0, .string ⟨#[]⟩]) 49)) from (box_one w _).alloc (by simp) _)
  have GW := hidB (show Bk ((w.alloc (.cells (a.cs) 34)).alloc (.cells (#[.int .u8 0, .int .u8 0, .float .f64 0, .string ⟨#[]⟩, .int .i64 0, .bool false, .bool false, .int .u8 0, .int .u8 0, .float .f64 0, .string ⟨#[]⟩, .int .i64 0, .int .u8 0, .float .f64 0, .string ⟨#[]⟩, .int .i64 0, .int .u8 0, .float .f64 0, .string ⟨#[]⟩, .int .i64 0, .bool false, .bool false, .bool false, .slice none 0 0, .int .u8 0, .string ⟨#[]⟩]) 49)) gw 65 #[(.slice (some ⟨g, o, none⟩) h.length c)] from (hw.alloc _).alloc _)
  have HM := hidB hm
  have HO := hidB ho
  have hlv : ¬ (64 < lv) := by omega
  clear hw hm ho t0 t1 t2 h0 h1 h2 ha
  go_enter Tryz.func38, Tryz.ntmps38
  go_upto_region 1 with fail
  generalize hW : ((w.alloc (.cells (a.cs) 34)).alloc (.cells (#[.int .u8 0, .int .u8 0, .float .f64 0, .string ⟨#[]⟩, .int .i64 0, .bool false, .bool false, .int .u8 0, .int .u8 0, .float .f64 0, .string ⟨#[]⟩, .int .i64 0, .int .u8 0, .float .f64 0, .string ⟨#[]⟩, .int .i64 0, .int .u8 0, .float .f64 0, .string ⟨#[]⟩, .int .i64 0, .bool false, .bool false, .bool false, .slice none 0 0, .int .u8 0, .string ⟨#[]⟩]) 49)) = w1 at *
  clear hW
  replace HJ := hidB (HJ.out.on B.out)
  refine wp_region_noPanic ?_
  refine wp_region_held_drew (S := fun W => Below w.heap.size w W ∧ Below w1.heap.size w1 W) (by kernel_rfl) ?_ (fun hHeld => ?_)
  · exact ⟨B.out.drew, (Below.refl _ _).drew⟩
  generalize hWd : w1.drew = wd at *
  clear hWd
  first | (refine wpAnyH_take (i := 0) (v := undef) (by exact gE rfl) (by kernel_rfl) (by kernel_rfl) (by kernel_rfl) (fun _ _ _ h => h) (Or.inr ⟨?_, rfl⟩) (by assumption) ?_; (rfl); try simp only [Act.put, List.setIfInBounds_toArray, List.set_cons_zero, List.set_cons_succ]) | (refine wpAnyH_take (i := 0) (v := ?_) (by exact gE rfl) (by kernel_rfl) (by kernel_rfl) (by kernel_rfl) (fun _ _ _ h => h) (Or.inl ⟨?_, ?_⟩) (by assumption) ?_; rotate_left; (rfl); (focus (intro w hSw; (try dsimp only at hSw); go_simp; try with_reducible rfl)); try simp only [Act.put, List.setIfInBounds_toArray, List.set_cons_zero, List.set_cons_succ])
  first | (refine wpAnyH_take (i := 1) (v := undef) (by exact gE rfl) (by kernel_rfl) (by kernel_rfl) (by kernel_rfl) (fun _ _ _ h => h) (Or.inr ⟨?_, rfl⟩) (by assumption) ?_; (rfl); try simp only [Act.put, List.setIfInBounds_toArray, List.set_cons_zero, List.set_cons_succ]) | (refine wpAnyH_take (i := 1) (v := ?_) (by exact gE rfl) (by kernel_rfl) (by kernel_rfl) (by kernel_rfl) (fun _ _ _ h => h) (Or.inl ⟨?_, ?_⟩) (by assumption) ?_; rotate_left; (rfl); (focus (intro w hSw; (try dsimp only at hSw); go_simp; try with_reducible rfl)); try simp only [Act.put, List.setIfInBounds_toArray, List.set_cons_zero, List.set_cons_succ])
  first | (refine wpAnyH_take (i := 2) (v := undef) (by exact gE rfl) (by kernel_rfl) (by kernel_rfl) (by kernel_rfl) (fun _ _ _ h => h) (Or.inr ⟨?_, rfl⟩) (by assumption) ?_; (rfl); try simp only [Act.put, List.setIfInBounds_toArray, List.set_cons_zero, List.set_cons_succ]) | (refine wpAnyH_take (i := 2) (v := ?_) (by exact gE rfl) (by kernel_rfl) (by kernel_rfl) (by kernel_rfl) (fun _ _ _ h => h) (Or.inl ⟨?_, ?_⟩) (by assumption) ?_; rotate_left; (rfl); (focus (intro w hSw; (try dsimp only at hSw); go_simp; try with_reducible rfl)); try simp only [Act.put, List.setIfInBounds_toArray, List.set_cons_zero, List.set_cons_succ])
  first | (refine wpAnyH_take (i := 3) (v := undef) (by exact gE rfl) (by kernel_rfl) (by kernel_rfl) (by kernel_rfl) (fun _ _ _ h => h) (Or.inr ⟨?_, rfl⟩) (by assumption) ?_; (rfl); try simp only [Act.put, List.setIfInBounds_toArray, List.set_cons_zero, List.set_cons_succ]) | (refine wpAnyH_take (i := 3) (v := ?_) (by exact gE rfl) (by kernel_rfl) (by kernel_rfl) (by kernel_rfl) (fun _ _ _ h => h) (Or.inl ⟨?_, ?_⟩) (by assumption) ?_; rotate_left; (rfl); (focus (intro w hSw; (try dsimp only at hSw); go_simp; try with_reducible rfl)); try simp only [Act.put, List.setIfInBounds_toArray, List.set_cons_zero, List.set_cons_succ])
  first | (refine wpAnyH_take (i := 4) (v := undef) (by exact gE rfl) (by kernel_rfl) (by kernel_rfl) (by kernel_rfl) (fun _ _ _ h => h) (Or.inr ⟨?_, rfl⟩) (by assumption) ?_; (rfl); try simp only [Act.put, List.setIfInBounds_toArray, List.set_cons_zero, List.set_cons_succ]) | (refine wpAnyH_take (i := 4) (v := ?_) (by exact gE rfl) (by kernel_rfl) (by kernel_rfl) (by kernel_rfl) (fun _ _ _ h => h) (Or.inl ⟨?_, ?_⟩) (by assumption) ?_; rotate_left; (rfl); (focus (intro W hSw; have hc0 := (show W.cell? ⟨gw, 0, none⟩ = some ((.slice (some ⟨g, o, none⟩) h.length c)) from (GW.out.on hSw.2).cell 0); clear hSw; go_simp; try with_reducible rfl)); try simp only [Act.put, List.setIfInBounds_toArray, List.set_cons_zero, List.set_cons_succ])
  first | (refine wpAnyH_take (i := 5) (v := undef) (by exact gE rfl) (by kernel_rfl) (by kernel_rfl) (by kernel_rfl) (fun _ _ _ h => h) (Or.inr ⟨?_, rfl⟩) (by assumption) ?_; (rfl); try simp only [Act.put, List.setIfInBounds_toArray, List.set_cons_zero, List.set_cons_succ]) | (refine wpAnyH_take (i := 5) (v := ?_) (by exact gE rfl) (by kernel_rfl) (by kernel_rfl) (by kernel_rfl) (fun _ _ _ h => h) (Or.inl ⟨?_, ?_⟩) (by assumption) ?_; rotate_left; (rfl); (focus (intro w hSw; (try dsimp only at hSw); go_simp; try with_reducible rfl)); try simp only [Act.put, List.setIfInBounds_toArray, List.set_cons_zero, List.set_cons_succ])
  first | (refine wpAnyH_take (i := 6) (v := undef) (by exact gE rfl) (by kernel_rfl) (by kernel_rfl) (by kernel_rfl) (fun _ _ _ h => h) (Or.inr ⟨?_, rfl⟩) (by assumption) ?_; (rfl); try simp only [Act.put, List.setIfInBounds_toArray, List.set_cons_zero, List.set_cons_succ]) | (refine wpAnyH_take (i := 6) (v := ?_) (by exact gE rfl) (by kernel_rfl) (by kernel_rfl) (by kernel_rfl) (fun _ _ _ h => h) (Or.inl ⟨?_, ?_⟩) (by assumption) ?_; rotate_left; (rfl); (focus (intro W hSw; have hc0 := (show W.cell? ⟨w.heap.size, 1, none⟩ = some (.int .i64 (n : Int)) from by rw [← HO.out]; exact (Y.out.on hSw.2).cell 1); clear hSw; go_simp; try with_reducible rfl)); try simp only [Act.put, List.setIfInBounds_toArray, List.set_cons_zero, List.set_cons_succ])
  first | (refine wpAnyH_take (i := 7) (v := undef) (by exact gE rfl) (by kernel_rfl) (by kernel_rfl) (by kernel_rfl) (fun _ _ _ h => h) (Or.inr ⟨?_, rfl⟩) (by assumption) ?_; (rfl); try simp only [Act.put, List.setIfInBounds_toArray, List.set_cons_zero, List.set_cons_succ]) | (refine wpAnyH_take (i := 7) (v := ?_) (by exact gE rfl) (by kernel_rfl) (by kernel_rfl) (by kernel_rfl) (fun _ _ _ h => h) (Or.inl ⟨?_, ?_⟩) (by assumption) ?_; rotate_left; (rfl); (focus (intro w hSw; (try dsimp only at hSw); go_simp; try with_reducible rfl)); try simp only [Act.put, List.setIfInBounds_toArray, List.set_cons_zero, List.set_cons_succ])
  (refine wpAnyH_take (i := 8) (v := e0.1.a) (by exact gE rfl) (by kernel_rfl) (by kernel_rfl) (by kernel_rfl) (fun _ _ _ h => h) (yieldsIf_load_mid (by rfl) 42 (.tmp 16) (by rfl) (g) (o + n * 18) (by rfl) (e0.1.cs.toList) _ (fun W hS => (HJ.out.on hS.2).row) Tryz.underlying42 (by rfl) (by kernel_rfl)) (by assumption) ?_; try simp only [Act.put, List.setIfInBounds_toArray, List.set_cons_zero, List.set_cons_succ])
  refine wpAnyH_ready (rs := [9]) (by kernel_rfl) (by simp) ?_
  refine AllReadyH.cons rfl (fun K hK => ?_) AllReadyH.nil
  go_simp
  have X8 := hidB (Bk.new wd 42 (#[.int .u8 0, .int .u8 0, .float .f64 0, .string ⟨#[]⟩, .int .i64 0, .bool false, .slice none 0 0, .int .u8 0, .float .f64 0, .string ⟨#[]⟩, .int .i64 0, .int .u8 0, .float .f64 0, .string ⟨#[]⟩, .int .i64 0, .string ⟨#[]⟩, .bool false, .bool false]))
  have HGX8 := hidB hHeld.1.size
  have HHX8 := hidB hHeld.2.size
  replace hHeld := And.intro (hHeld.1.alloc hHeld.1.size (.cells (#[.int .u8 0, .int .u8 0, .float .f64 0, .string ⟨#[]⟩, .int .i64 0, .bool false, .slice none 0 0, .int .u8 0, .float .f64 0, .string ⟨#[]⟩, .int .i64 0, .int .u8 0, .float .f64 0, .string ⟨#[]⟩, .int .i64 0, .string ⟨#[]⟩, .bool false, .bool false]) 42)) (hHeld.2.alloc hHeld.2.size (.cells (#[.int .u8 0, .int .u8 0, .float .f64 0, .string ⟨#[]⟩, .int .i64 0, .bool false, .slice none 0 0, .int .u8 0, .float .f64 0, .string ⟨#[]⟩, .int .i64 0, .int .u8 0, .float .f64 0, .string ⟨#[]⟩, .int .i64 0, .string ⟨#[]⟩, .bool false, .bool false]) 42))
  refine hK.out _ _ hHeld (fun _ => ?_)
  clear hK K
  try simp only [Act.put, List.setIfInBounds_toArray, List.set_cons_zero, List.set_cons_succ]
  generalize hWn : (wd.alloc (.cells (#[.int .u8 0, .int .u8 0, .float .f64 0, .string ⟨#[]⟩, .int .i64 0, .bool false, .slice none 0 0, .int .u8 0, .float .f64 0, .string ⟨#[]⟩, .int .i64 0, .int .u8 0, .float .f64 0, .string ⟨#[]⟩, .int .i64 0, .string ⟨#[]⟩, .bool false, .bool false]) 42)) = wa at *
  clear hWn
  generalize hGn : wd.heap.size = g8 at *
  clear hGn
  refine wpAnyH_ready (rs := [10]) (by kernel_rfl) (by simp) ?_
  refine AllReadyH.cons rfl (fun K hK => ?_) AllReadyH.nil
  rw [if_pos (by kernel_rfl)]
  refine wp_store_row 42 (.tmp 8) (.tmp 17) (by rfl) (g8) (e0.1.cs) (by rfl) (by rfl) 42 (#[.int .u8 0, .int .u8 0, .float .f64 0, .string ⟨#[]⟩, .int .i64 0, .bool false, .slice none 0 0, .int .u8 0, .float .f64 0, .string ⟨#[]⟩, .int .i64 0, .int .u8 0, .float .f64 0, .string ⟨#[]⟩, .int .i64 0, .string ⟨#[]⟩, .bool false, .bool false]) (by exact X8.out) (by kernel_rfl) (by rfl) (by exact oj_one e0.1 HPR.out) ?_
  replace X8 := hidB (X8.out.setRow (e0.1.cs))
  replace hHeld := And.intro (below_setRow hHeld.1 HGX8.out (e0.1.cs)) (below_setRow hHeld.2 HHX8.out (e0.1.cs))
  refine put_none_K (by first | rfl | kernel_rfl) ?_
  refine hK.out _ _ hHeld (fun _ => ?_)
  clear hK K
  generalize hWn : wa.setRow g8 (e0.1.cs) = w2 at *
  clear hWn
  refine wpAnyH_done (by kernel_rfl) ?_ _
  refine NoPanic.normal ?_
  replace Y := hidB (Y.out.on hHeld.2)
  replace R := hidB (R.out.on hHeld.2)
  replace GW := hidB (GW.out.on hHeld.2)
  have B := hidB hHeld.1
  clear hHeld HGX8 HHX8 HJ
  have y0 : w2.cell? ⟨w.heap.size, 0, none⟩ = some (.int .u8 3) := by rw [← HM.out]; exact Y.out.cell 0
  have k0 : w2.cell? ⟨g8, 0, none⟩ = some (.int .u8 6) := by rw [← HK.out]; exact X8.out.cell 0
  have k7 : w2.cell? ⟨g8, 7, none⟩ = some (.int .u8 e0.1.tg.k) := X8.out.cell 7
  have hn7 : (e0.1.tg.k == 1) = false := by rw [beq_eq_false_iff_ne]; exact HTN.out
  go_wp2_with (first | ((with_reducible refine ldId 34 (.tmp 4) ?_); refine wpList_load_row (by rfl) 34 (.tmp 4) (by rfl) (w.heap.size) (by rfl) 34 (a.cs) (0, 0) _ (by exact Y.out) Tryz.underlying34 (by rfl) (by kernel_rfl) ?_) | ((with_reducible refine ldId 29 (.tmp 51) ?_); refine wpList_load_mid (by rfl) 29 (.tmp 51) (by rfl) (g8) 7 (by rfl) (e0.1.tg.cells) _ (by exact Bk.mid X8.out 7 _ rfl) Tryz.underlying29 (by rfl) (by kernel_rfl) ?_) | ((with_reducible refine ldId 29 (.tmp 53) ?_); refine wpList_load_mid (by rfl) 29 (.tmp 53) (by rfl) (g8) 11 (by rfl) (e0.1.hd.cells) _ (by exact Bk.mid X8.out 11 _ rfl) Tryz.underlying29 (by rfl) (by kernel_rfl) ?_))
  rw [show a.cs = (extA a.ob).cs from congrArg AI.cs HAE.out]
  refine (HDO.out _).mono ?_; rintro e w3 ⟨T, pq, cq, A, hcq, rfl, hb, hT, hA⟩
  have HT := hidB hT
  have HA := hidB (fun k hk => Nat.le_trans B.out.size (hA k hk))
  have HCQ := hidB hcq
  have HRL := hidB R.out.lt
  have HA2 := hidB hA
  replace R := hidB (R.out.on hb)
  replace B := hidB (B.out.trans (hb.mono B.out.size))
  clear hb
  clear hT hA hcq
  go_wp2_with (first | ((with_reducible refine wpId ?_); refine wpList_build_to (by rfl) 49 _ (by rfl) (OI.zero.cs) (by kernel_rfl) ?_) | ((with_reducible refine stId 49 (.tmp 7) (.tmp 60) ?_); refine wpList_store_row (by rfl) 49 (.tmp 7) (.tmp 60) (by rfl) (w.heap.size + 1) (OI.zero.cs) (by rfl) (by rfl) 49 (OI.zero.cs) (by exact R.out) (by kernel_rfl) (by rfl) (by exact OI.one _ rfl) ?_))
  exact bodyPost_ret (v := .tuple #[.iface 115 (ptr T), OI.zero.a]) (results_tr Tryz.results38 _ _ (w.heap.size + 1) 49 (OI.zero.cs) (0, 0) _ rfl (R.out.setRow _) Tryz.underlying49 rfl (by kernel_rfl)) rfl (show BegR _ w _ _ from ⟨below_setRow B.out (Nat.le_succ _) _, _, _, A, ⟨pq, cq, HCQ.out, rfl⟩, rfl, .inr ⟨T, rfl, HT.out.keep (by simp [World.setRow]) (fun k hk => heap_setRow _ (by have h1 := HA2.out k hk; have h2 := HRL.out; omega) _)⟩, HA.out⟩)

end Go.Proofs.YtbmaodlghglopaaGreatDoor
