/-
  A task of reach in memory; an ask that is begun.
-/
import Derived.Test.YtbmaodlghglopaaGreatDoorMxA
import Derived.Test.YtbmaodlghglopaaGreatDoorTp6
namespace Go.Proofs.YtbmaodlghglopaaGreatDoor
open Go.RowKit

theorem run_storeVar_one {P : Program} (w : World) (b o : Nat) (ty : TypeId) (v : Value) (hv : v.oneCell' = true) (ht : w.there b o 1) (hi : (P.info? ty).map (·.size) = some 1) : (storeVar ty ⟨b, o, none⟩ v).run P w = .ok () (w.setCell ⟨b, o, none⟩ v) := by
  have hc : v.cells = #[v] := by cases v <;> first | rfl | cases hv
  have := run_storeCells_cells (P := P) b o [v] 0 w (fun j hj => by simpa using (ht j (by simpa using hj)).1) (fun j hj => by simpa using (ht j (by simpa using hj)).2) (fun u hu => by rw [List.mem_singleton.1 hu]; exact hv)
  cases hq : P.info? ty with
  | none => simp [hq] at hi
  | some i =>
    have hs : 1 = i.size := by simp [hq] at hi; omega
    simp only [Nat.add_zero] at this
    simp [storeVar, sizeOf, typeInfo, hq, hc, ← hs, this, World.setCells]
theorem wpList_store_one {P : Program} {ops : Array Oper} {rest : List Oper} {op : Oper} {a : Act} {w : World} {Q : Exit → Act → World → Prop} (hgd : op.guard = none) (ty : TypeId) (x y : Operand) (ho : op.op = .store ty x y) (b o : Nat) (v : Value) (hx : a.eval x = .pointer (some ⟨b, o, none⟩)) (hy : a.eval y = v) (hv : v.oneCell' = true) (ht : w.there b o 1) (hi : (P.info? ty).map (·.size) = some 1)
    (h : wpList P ops Q rest (a.put op.dst undef) (w.setCell ⟨b, o, none⟩ v)) : wpList P ops Q (op :: rest) a w :=
  wpList_plain hgd fun _ hK => by
    unfold Oper.wp execOp
    simp only [ho, hx, hy, Instr.storeAt, Instr.sureAddr, Sem.run_bind, Sem.run_pure, Result.andThen_ok, run_storeVar_one w b o ty v hv ht hi]
    exact hK _ _ h
theorem Kept.fresh {S : Nat → Prop} {g : Nat} {a b c : World} (h : Kept S a b) (k : Kept (fun q => q = g) b c) (hg : a.heap.size ≤ g) : Kept S a c :=
  ⟨k.os.trans h.os, k.tape.trans h.tape, k.output.trans h.output, Nat.le_trans h.size k.size, fun j hj hn => (k.block j (Nat.lt_of_lt_of_le hj h.size) (by omega)).trans (h.block j hj hn)⟩
/-- An ask under way, in a row. -/
abbrev entC (iv : Value) (a : AI) (lv bg : Int) : Array Value := #[iv, .int .u8 a.m, .int .i64 a.ob, .string a.k.s, .int .i64 a.k.n, .int .u8 a.d.has, .int .u8 a.d.v.k, .float .f64 a.d.v.x, .string a.d.v.s, .int .i64 a.d.v.r, .int .u8 a.d.g.k, .float .f64 a.d.g.x, .string a.d.g.s, .int .i64 a.d.g.r, .int .u8 a.d.t.k, .float .f64 a.d.t.x, .string a.d.t.s, .int .i64 a.d.t.r, .bool a.d.wr, .bool a.d.en, .bool a.d.cf, .int .u8 a.v.k, .float .f64 a.v.x, .string a.v.s, .int .i64 a.v.r, .int .u8 a.r.k, .float .f64 a.r.x, .string a.r.s, .int .i64 a.r.r, a.args, .int .i64 lv, .int .i64 bg]
/-- A task of reach. -/
abbrev tkC (gw : Nat) (sv : Value) (mn bg : Int) (f : AI) (lv wn : Int) (ov : Bool) (hd se : Value) : Array Value := #[.pointer (some ⟨gw, 0, none⟩), sv, .int .i64 mn, .int .i64 bg, .int .u8 f.m, .int .i64 f.ob, .string f.k.s, .int .i64 f.k.n, .int .u8 f.d.has, .int .u8 f.d.v.k, .float .f64 f.d.v.x, .string f.d.v.s, .int .i64 f.d.v.r, .int .u8 f.d.g.k, .float .f64 f.d.g.x, .string f.d.g.s, .int .i64 f.d.g.r, .int .u8 f.d.t.k, .float .f64 f.d.t.x, .string f.d.t.s, .int .i64 f.d.t.r, .bool f.d.wr, .bool f.d.en, .bool f.d.cf, .int .u8 f.v.k, .float .f64 f.v.x, .string f.v.s, .int .i64 f.v.r, .int .u8 f.r.k, .float .f64 f.r.x, .string f.r.s, .int .i64 f.r.r, f.args, .int .i64 lv, .int .u8 wn, .bool ov, hd, se]
theorem ent_one (iv : Value) (a : AI) (lv bg : Int) (hi : iv.oneCell' = true) (h : a.args.oneCell' = true) : (entC iv a lv bg).all (·.oneCell') = true := by
  rw [Array.all_eq_true_iff_forall_mem]
  simp only [entC, List.mem_toArray, List.forall_mem_cons, one_int, one_float, one_string, one_bool, hi, h, and_true, true_and, List.not_mem_nil, false_imp_iff, implies_true]
theorem info_ask : (Tryz.prog.info? 95).map (fun i => (i.zero, i.size, i.bytes)) = some (some (.agg #[.nilIface, .int .u8 0, .int .i64 0, .string ⟨#[]⟩, .int .i64 0, .int .u8 0, .int .u8 0, .float .f64 0, .string ⟨#[]⟩, .int .i64 0, .int .u8 0, .float .f64 0, .string ⟨#[]⟩, .int .i64 0, .int .u8 0, .float .f64 0, .string ⟨#[]⟩, .int .i64 0, .bool false, .bool false, .bool false, .int .u8 0, .float .f64 0, .string ⟨#[]⟩, .int .i64 0, .int .u8 0, .float .f64 0, .string ⟨#[]⟩, .int .i64 0, .slice none 0 0, .int .i64 0, .int .i64 0]), 32, 312) := by kernel_rfl
/-- What an ask comes to, in a heap: the asks that are told at once or by a machine, and a proxy's isExtensible. -/
def BegOK (h : HI) (a : AI) (r : BR) : Prop := ∃ n, ∃ hn : n < h.length, a.ob = n ∧ a.args.oneCell' = true ∧
  ((a.m = 8 ∧ h[n].1.kd = 1 ∧ (∀ q, findP h[n].2 a.k = some q → (bits .and .u8 q.d.has 3 != 0) = true ∧ (bits .and .u8 q.d.has 12 != 0) = false) ∧ r = alongB h[n] a) ∨
   (a.m = 3 ∧ h[n].1.kd = 1 ∧ r = .now (yesI h[n].1.ext)) ∨
   (a.m = 3 ∧ a = extA a.ob ∧ h[n].1.kd = 6 ∧ 0 ≤ h[n].1.tg.k ∧ h[n].1.tg.may = true ∧ isObj h[n].1.tg.k = true ∧ 0 ≤ h[n].1.hd.k ∧ h[n].1.hd.may = true ∧ isObj h[n].1.hd.k = true ∧ r = .tk (fun S => ∃ pq cq, cq ≤ maxLen ∧ S = trapS (extV a.ob (.slice pq 0 cq)) h[n].1.tg h[n].1.hd nmX)))
theorem begin_ok {h : HI} {a : AI} {r : BR} (hb : BegOK h a r) (hv : Value) (lv : Int) (hl : lv ≤ 64) (gw : Nat) (w : World) (hw : Bk w gw 65 #[hv]) (hr : RdH h hv w) : Calls Tryz.prog 38 #[ptr gw, a.a, .int .i64 lv] w (BegR r w) := by
  obtain ⟨n, hn, ho, hone, ⟨hm, hk, hd, rfl⟩ | ⟨hm, hk, rfl⟩ | ⟨hm, ha, hk, t0, t1, t2, h0, h1, h2, rfl⟩⟩ := hb
  · exact begin8_any h hv n hn a hm ho hk hone hd lv hl gw w hw hr
  · exact begin3_any h hv n hn a hm ho hk lv hl gw w hw hr
  · exact beginP_any h hv n hn a hm ho ha hk t0 t1 t2 h0 h1 h2 lv hl gw w hw hr
theorem BegOK.one {h : HI} {a : AI} {r : BR} (hb : BegOK h a r) : a.args.oneCell' = true := by obtain ⟨_, _, _, h, _⟩ := hb; exact h
/-- What is told at once was done. -/
theorem BegOK.now {h : HI} {a : AI} {x : OI} (hb : BegOK h a (.now x)) : x.kd = 1 ∧ x.keys = vNil := by
  obtain ⟨n, hn, ho, hone, ⟨hm, hk, hd, hr⟩ | ⟨hm, hk, hr⟩ | ⟨hm, ha, hk, t0, t1, t2, h0, h1, h2, hr⟩⟩ := hb
  · unfold alongB at hr
    split at hr
    · injection hr with hr; subst hr; exact ⟨rfl, rfl⟩
    · cases hr
  · injection hr with hr; subst hr; exact ⟨rfl, rfl⟩
  · cases hr
def begO : BR → OI
  | .now x => x
  | .tk _ => { OI.zero with kd := 1 }
/-- What Begin hands back: an interface value and an outcome. -/
def BegQ (r : BR) (iv : Value) (O : OI) (A : Nat → Prop) (B : Nat) (w : World) : Prop := match r with
  | .now x => iv = .nilIface ∧ O = x ∧ ∀ k, ¬ A k
  | .tk P => O = OI.zero ∧ (∀ k, A k → B ≤ k) ∧ ∃ S, P S ∧ TkW S iv .fresh A w
theorem beg_shape {r : BR} {w w' : World} {e : Ending} (h : BegR r w e w') : ∃ iv O A, e = .returned (.tuple #[iv, O.a]) ∧ Below w.heap.size w w' ∧ BegQ r iv O A w.heap.size w' := by
  obtain ⟨h1, h2⟩ := h
  cases r with
  | now x => exact ⟨_, x, fun _ => False, h2, h1, rfl, rfl, fun _ h => h⟩
  | tk P => obtain ⟨S, iv, A, a1, a2, a3, a4⟩ := h2; exact ⟨iv, OI.zero, A, a2, h1, rfl, a4, S, a1, a3⟩
theorem BegQ.one {r : BR} {iv : Value} {O : OI} {A : Nat → Prop} {B : Nat} {w : World} (h : BegQ r iv O A B w) : iv.oneCell' = true := by
  cases r with
  | now x => rw [h.1]; rfl
  | tk P => obtain ⟨_, _, S, _, hT⟩ := h; obtain ⟨t, g, rfl⟩ := hT.some; rfl
theorem BegQ.lt {r : BR} {iv : Value} {O : OI} {A : Nat → Prop} {B : Nat} {w : World} (h : BegQ r iv O A B w) : ∀ k, A k → B ≤ k ∧ k < w.heap.size := by
  cases r with
  | now x => exact fun k hk => absurd hk (h.2.2 k)
  | tk P => obtain ⟨_, h1, S, _, hT⟩ := h; exact fun k hk => ⟨h1 k hk, hT.lt k hk⟩
theorem BegQ.keep {r : BR} {iv : Value} {O : OI} {A : Nat → Prop} {B : Nat} {w w' : World} (h : BegQ r iv O A B w) (hs : w.heap.size ≤ w'.heap.size) (hb : ∀ k, A k → w'.heap[k]? = w.heap[k]?) : BegQ r iv O A B w' := by
  cases r with
  | now x => exact h
  | tk P => obtain ⟨h0, h1, S, h2, hT⟩ := h; exact ⟨h0, h1, S, h2, hT.keep hs hb⟩
theorem BegQ.key {h : HI} {a : AI} {r : BR} {iv : Value} {O : OI} {A : Nat → Prop} {B : Nat} {w : World} (hb : BegOK h a r) (hq : BegQ r iv O A B w) : O.keys.oneCell' = true := by
  cases r with
  | now x => rw [hq.2.1, hb.now.2]; rfl
  | tk P => rw [hq.1]; rfl
/-- The task that stands behind an ask. -/
def begT (r : BR) (iv : Value) (A : Nat → Prop) (w : World) : Prop := match r with
  | .now _ => iv = .nilIface
  | .tk P => ∃ S, P S ∧ TkW S iv .fresh A w

/-- What beginning leaves. -/
def RBeg (B1 gw T : Nat) (qs : Option Addr) (cs n : Nat) (xs : List Value) (mn bg : Int) (fa : AI) (flv wn : Int) (ov : Bool) (hd se : Value) (a : AI) (r : BR) (lv : Int) (w : World) (e : Ending) (w' : World) : Prop := ∃ (sv' iv : Value) (A : Nat → Prop), e = .returned (begO r).a ∧ Bk w' T 68 (tkC gw sv' mn (bg + 1) fa flv wn ov hd se) ∧ w'.ownsRow B1 95 32 sv' (n + 1) (xs ++ (entC iv a lv mn).toList) ∧ Kept (fun k => k = T ∨ (Value.slice qs n cs).ownBlock = some k) w w' ∧ begT r iv A w' ∧ (∀ k, A k → w.heap.size ≤ k ∧ k < w'.heap.size ∧ sv'.ownBlock ≠ some k) ∧ (∀ k, sv'.ownBlock = some k → (Value.slice qs n cs).ownBlock = some k ∨ w.heap.size ≤ k)
set_option maxHeartbeats 8000000 in
set_option maxRecDepth 100000 in
theorem begin_any (h : HI) (hv : Value) (wx : World) (B1 gw T : Nat) (qs : Option Addr) (cs n : Nat) (xs : List Value) (mn bg : Int) (fa : AI) (flv wn : Int) (ov : Bool) (hd se : Value) (a : AI) (r : BR) (lv : Int) (w : World) (hR : ∀ W, Below B1 wx W → RdH h hv W) (hbg : 0 ≤ bg ∧ bg < 8192) (hn : n ≤ 8192) (hb : BegOK h a r) (hl : lv ≤ 64) (hB1 : B1 ≤ T) (hx : Below B1 wx w) (hT : Bk w T 68 (tkC gw (.slice qs n cs) mn bg fa flv wn ov hd se)) (hW : Bk w gw 65 #[hv]) (hS : w.ownsRow B1 95 32 (.slice qs n cs) n xs) : Calls Tryz.prog 19 #[ptr T, a.a, .int .i64 lv] w (RBeg B1 gw T qs cs n xs mn bg fa flv wn ov hd se a r lv w) := by
  have HTL := hidB hT.lt
  have HWL := hidB hW.lt
  have HNG := hidB (show gw ≠ T from fun h => by rw [h] at hW; exact absurd (hW.symm.trans hT) (by intro h; injection h with h; injection h with _ h _; exact absurd h (by decide)))
  have HSV := hidB (show ∀ k, (Value.slice qs n cs).ownBlock = some k → k ≠ T from fun k hk => own_neB hS hT (by decide) hk)
  have HSW := hidB (show ∀ k, (Value.slice qs n cs).ownBlock = some k → k ≠ gw from fun k hk => own_neB hS hW (by decide) hk)
  have HSL := hidB hS.lt
  have HBO := hidB hb
  have HRX := hidB hR
  have HX := hidB hx
  have HB1 := hidB hB1
  have HN := hidB hn
  have hbg0 := hbg.1
  have hbg1 := hbg.2
  have Y := hidB (show Bk ((w.alloc (.cells (a.cs) 34)).alloc (.cells (#[.int .u8 0, .int .u8 0, .float .f64 0, .string ⟨#[]⟩, .int .i64 0, .bool false, .bool false, .int .u8 0, .int .u8 0, .float .f64 0, .string ⟨#[]⟩, .int .i64 0, .int .u8 0, .float .f64 0, .string ⟨#[]⟩, .int .i64 0, .int .u8 0, .float .f64 0, .string ⟨#[]⟩, .int .i64 0, .bool false, .bool false, .bool false, .slice none 0 0, .int .u8 0, .string ⟨#[]⟩]) 49)) (w.heap.size) 34 (a.cs) from (Bk.new w _ _).alloc _)
  have R := hidB (show Bk ((w.alloc (.cells (a.cs) 34)).alloc (.cells (#[.int .u8 0, .int .u8 0, .float .f64 0, .string ⟨#[]⟩, .int .i64 0, .bool false, .bool false, .int .u8 0, .int .u8 0, .float .f64 0, .string ⟨#[]⟩, .int .i64 0, .int .u8 0, .float .f64 0, .string ⟨#[]⟩, .int .i64 0, .int .u8 0, .float .f64 0, .string ⟨#[]⟩, .int .i64 0, .bool false, .bool false, .bool false, .slice none 0 0, .int .u8 0, .string ⟨#[]⟩]) 49)) (w.heap.size + 1) 49 (OI.zero.cs) from Bk.new2 w _ _ _)
  have B := hidB (show Below w.heap.size w ((w.alloc (.cells (a.cs) 34)).alloc (.cells (#[.int .u8 0, .int .u8 0, .float .f64 0, .string ⟨#[]⟩, .int .i64 0, .bool false, .bool false, .int .u8 0, .int .u8 0, .float .f64 0, .string ⟨#[]⟩, .int .i64 0, .int .u8 0, .float .f64 0, .string ⟨#[]⟩, .int .i64 0, .int .u8 0, .float .f64 0, .string ⟨#[]⟩, .int .i64 0, .bool false, .bool false, .bool false, .slice none 0 0, .int .u8 0, .string ⟨#[]⟩]) 49)) from (box_one w _).alloc (by simp) _)
  have TB := hidB (show Bk ((w.alloc (.cells (a.cs) 34)).alloc (.cells (#[.int .u8 0, .int .u8 0, .float .f64 0, .string ⟨#[]⟩, .int .i64 0, .bool false, .bool false, .int .u8 0, .int .u8 0, .float .f64 0, .string ⟨#[]⟩, .int .i64 0, .int .u8 0, .float .f64 0, .string ⟨#[]⟩, .int .i64 0, .int .u8 0, .float .f64 0, .string ⟨#[]⟩, .int .i64 0, .bool false, .bool false, .bool false, .slice none 0 0, .int .u8 0, .string ⟨#[]⟩]) 49)) T 68 (tkC gw (.slice qs n cs) mn bg fa flv wn ov hd se) from (hT.alloc _).alloc _)
  have GW := hidB (show Bk ((w.alloc (.cells (a.cs) 34)).alloc (.cells (#[.int .u8 0, .int .u8 0, .float .f64 0, .string ⟨#[]⟩, .int .i64 0, .bool false, .bool false, .int .u8 0, .int .u8 0, .float .f64 0, .string ⟨#[]⟩, .int .i64 0, .int .u8 0, .float .f64 0, .string ⟨#[]⟩, .int .i64 0, .int .u8 0, .float .f64 0, .string ⟨#[]⟩, .int .i64 0, .bool false, .bool false, .bool false, .slice none 0 0, .int .u8 0, .string ⟨#[]⟩]) 49)) gw 65 #[hv] from (hW.alloc _).alloc _)
  have HS := hidB (own_on (own_on hS (box_one w _)) (box_one _ _) : ((w.alloc (.cells (a.cs) 34)).alloc (.cells (#[.int .u8 0, .int .u8 0, .float .f64 0, .string ⟨#[]⟩, .int .i64 0, .bool false, .bool false, .int .u8 0, .int .u8 0, .float .f64 0, .string ⟨#[]⟩, .int .i64 0, .int .u8 0, .float .f64 0, .string ⟨#[]⟩, .int .i64 0, .int .u8 0, .float .f64 0, .string ⟨#[]⟩, .int .i64 0, .bool false, .bool false, .bool false, .slice none 0 0, .int .u8 0, .string ⟨#[]⟩]) 49)).ownsRow B1 95 32 (.slice qs n cs) n xs)
  have KW := hidB (show Kept (fun k => k = T ∨ (Value.slice qs n cs).ownBlock = some k) w ((w.alloc (.cells (a.cs) 34)).alloc (.cells (#[.int .u8 0, .int .u8 0, .float .f64 0, .string ⟨#[]⟩, .int .i64 0, .bool false, .bool false, .int .u8 0, .int .u8 0, .float .f64 0, .string ⟨#[]⟩, .int .i64 0, .int .u8 0, .float .f64 0, .string ⟨#[]⟩, .int .i64 0, .int .u8 0, .float .f64 0, .string ⟨#[]⟩, .int .i64 0, .bool false, .bool false, .bool false, .slice none 0 0, .int .u8 0, .string ⟨#[]⟩]) 49)) from ((Kept.refl _ w).alloc _).alloc _)
  clear hT hW hS hb hR hx hB1 hn hbg
  go_enter Tryz.func19, Tryz.ntmps19
  go_upto_region 1 with fail
  generalize hW : ((w.alloc (.cells (a.cs) 34)).alloc (.cells (#[.int .u8 0, .int .u8 0, .float .f64 0, .string ⟨#[]⟩, .int .i64 0, .bool false, .bool false, .int .u8 0, .int .u8 0, .float .f64 0, .string ⟨#[]⟩, .int .i64 0, .int .u8 0, .float .f64 0, .string ⟨#[]⟩, .int .i64 0, .int .u8 0, .float .f64 0, .string ⟨#[]⟩, .int .i64 0, .bool false, .bool false, .bool false, .slice none 0 0, .int .u8 0, .string ⟨#[]⟩]) 49)) = w1 at *
  clear hW
  have t3 : w1.cell? ⟨T, 3, none⟩ = some (.int .i64 bg) := TB.out.cell 3
  have tf : w1.frozen? ⟨T, 3, none⟩ = false := TB.out.free 3
  skip
  go_upto_region 2 with fail
  have hfar : ∀ k, k ≠ T → (w1.setCell ⟨T, 3, none⟩ (.int .i64 (bg + 1))).heap[k]? = w1.heap[k]? := fun k hk => Below.heap_setCell w1 ⟨T, 3, none⟩ (.int .i64 (bg + 1)) k hk
  replace Y := hidB (show Bk (w1.setCell ⟨T, 3, none⟩ (.int .i64 (bg + 1))) (w.heap.size) 34 (a.cs) from (hfar _ (by have := HTL.out; omega)).trans Y.out)
  replace R := hidB (show Bk (w1.setCell ⟨T, 3, none⟩ (.int .i64 (bg + 1))) (w.heap.size + 1) 49 (OI.zero.cs) from (hfar _ (by have := HTL.out; omega)).trans R.out)
  replace GW := hidB (show Bk (w1.setCell ⟨T, 3, none⟩ (.int .i64 (bg + 1))) (gw) 65 (#[hv]) from (hfar _ (by exact HNG.out)).trans GW.out)
  replace HS := hidB (show (w1.setCell ⟨T, 3, none⟩ (.int .i64 (bg + 1))).ownsRow B1 95 32 (.slice qs n cs) n xs from own_eq HS.out (fun k hk => hfar k (HSV.out k hk)))
  replace TB := hidB (show Bk (w1.setCell ⟨T, 3, none⟩ (.int .i64 (bg + 1))) T 68 (tkC gw (.slice qs n cs) mn (bg + 1) fa flv wn ov hd se) from TB.out.set 3 _)
  replace KW := hidB (show Kept (fun k => k = T ∨ (Value.slice qs n cs).ownBlock = some k) w (w1.setCell ⟨T, 3, none⟩ (.int .i64 (bg + 1))) from KW.out.setCell (p := ⟨T, 3, none⟩) (.inl (.inl rfl)) _)
  clear hfar t3 tf B
  generalize hW : (w1.setCell ⟨T, 3, none⟩ (.int .i64 (bg + 1))) = w2 at *
  clear hW
  have HS2 := hidB (show w.heap.size + 2 ≤ w2.heap.size from R.out.lt)
  refine wp_region_noPanic ?_
  refine wp_region_held_drew (S := fun W => Below w2.heap.size w2 W) (by kernel_rfl) ?_ (fun hHeld => ?_)
  · exact (Below.refl _ _).drew
  generalize hWd : w2.drew = wd at *
  clear hWd
  (refine wpAnyH_take (i := 0) (v := a.a) (by exact gE rfl) (by kernel_rfl) (by kernel_rfl) (by kernel_rfl) (fun _ _ _ h => h) (yieldsIf_load_mid (by rfl) 34 (.tmp 4) (by rfl) (w.heap.size) (0) (by rfl) (a.cs.toList) _ (fun W hS => Bk.mid (Y.out.on hS) 0 _ rfl) Tryz.underlying34 (by rfl) (by kernel_rfl)) (by assumption) ?_; try simp only [Act.put, List.setIfInBounds_toArray, List.set_cons_zero, List.set_cons_succ])
  first | (refine wpAnyH_take (i := 1) (v := undef) (by exact gE rfl) (by kernel_rfl) (by kernel_rfl) (by kernel_rfl) (fun _ _ _ h => h) (Or.inr ⟨?_, rfl⟩) (by assumption) ?_; (rfl); try simp only [Act.put, List.setIfInBounds_toArray, List.set_cons_zero, List.set_cons_succ]) | (refine wpAnyH_take (i := 1) (v := ?_) (by exact gE rfl) (by kernel_rfl) (by kernel_rfl) (by kernel_rfl) (fun _ _ _ h => h) (Or.inl ⟨?_, ?_⟩) (by assumption) ?_; rotate_left; (rfl); (focus (intro w hSw; (try dsimp only at hSw); go_simp; try with_reducible rfl)); try simp only [Act.put, List.setIfInBounds_toArray, List.set_cons_zero, List.set_cons_succ])
  first | (refine wpAnyH_take (i := 2) (v := undef) (by exact gE rfl) (by kernel_rfl) (by kernel_rfl) (by kernel_rfl) (fun _ _ _ h => h) (Or.inr ⟨?_, rfl⟩) (by assumption) ?_; (rfl); try simp only [Act.put, List.setIfInBounds_toArray, List.set_cons_zero, List.set_cons_succ]) | (refine wpAnyH_take (i := 2) (v := ?_) (by exact gE rfl) (by kernel_rfl) (by kernel_rfl) (by kernel_rfl) (fun _ _ _ h => h) (Or.inl ⟨?_, ?_⟩) (by assumption) ?_; rotate_left; (rfl); (focus (intro w hSw; (try dsimp only at hSw); go_simp; try with_reducible rfl)); try simp only [Act.put, List.setIfInBounds_toArray, List.set_cons_zero, List.set_cons_succ])
  first | (refine wpAnyH_take (i := 3) (v := undef) (by exact gE rfl) (by kernel_rfl) (by kernel_rfl) (by kernel_rfl) (fun _ _ _ h => h) (Or.inr ⟨?_, rfl⟩) (by assumption) ?_; (rfl); try simp only [Act.put, List.setIfInBounds_toArray, List.set_cons_zero, List.set_cons_succ]) | (refine wpAnyH_take (i := 3) (v := ?_) (by exact gE rfl) (by kernel_rfl) (by kernel_rfl) (by kernel_rfl) (fun _ _ _ h => h) (Or.inl ⟨?_, ?_⟩) (by assumption) ?_; rotate_left; (rfl); (focus (intro w hSw; (try dsimp only at hSw); go_simp; try with_reducible rfl)); try simp only [Act.put, List.setIfInBounds_toArray, List.set_cons_zero, List.set_cons_succ])
  first | (refine wpAnyH_take (i := 4) (v := undef) (by exact gE rfl) (by kernel_rfl) (by kernel_rfl) (by kernel_rfl) (fun _ _ _ h => h) (Or.inr ⟨?_, rfl⟩) (by assumption) ?_; (rfl); try simp only [Act.put, List.setIfInBounds_toArray, List.set_cons_zero, List.set_cons_succ]) | (refine wpAnyH_take (i := 4) (v := ?_) (by exact gE rfl) (by kernel_rfl) (by kernel_rfl) (by kernel_rfl) (fun _ _ _ h => h) (Or.inl ⟨?_, ?_⟩) (by assumption) ?_; rotate_left; (rfl); (focus (intro w hSw; (try dsimp only at hSw); go_simp; try with_reducible rfl)); try simp only [Act.put, List.setIfInBounds_toArray, List.set_cons_zero, List.set_cons_succ])
  first | (refine wpAnyH_take (i := 5) (v := undef) (by exact gE rfl) (by kernel_rfl) (by kernel_rfl) (by kernel_rfl) (fun _ _ _ h => h) (Or.inr ⟨?_, rfl⟩) (by assumption) ?_; (rfl); try simp only [Act.put, List.setIfInBounds_toArray, List.set_cons_zero, List.set_cons_succ]) | (refine wpAnyH_take (i := 5) (v := ?_) (by exact gE rfl) (by kernel_rfl) (by kernel_rfl) (by kernel_rfl) (fun _ _ _ h => h) (Or.inl ⟨?_, ?_⟩) (by assumption) ?_; rotate_left; (rfl); (focus (intro W hSw; have hc0 := (show W.cell? ⟨T, 2, none⟩ = some (.int .i64 mn) from (TB.out.on hSw).cell 2); clear hSw; go_simp; try with_reducible rfl)); try simp only [Act.put, List.setIfInBounds_toArray, List.set_cons_zero, List.set_cons_succ])
  (refine wpAnyH_take (i := 6) (v := .agg (entC .nilIface a lv mn)) (by exact gE rfl) (by kernel_rfl) (by kernel_rfl) (by kernel_rfl) (fun _ _ _ h => h) (yieldsIf_build (by rfl) 95 _ (by rfl) [(1, a.a), (2, .int .i64 lv), (3, .int .i64 mn)] (by kernel_rfl) (entC .nilIface a lv mn) (by kernel_rfl)) (by assumption) ?_; try simp only [Act.put, List.setIfInBounds_toArray, List.set_cons_zero, List.set_cons_succ])
  refine wpAnyH_ready (rs := [7]) (by kernel_rfl) (by simp) ?_
  refine AllReadyH.cons rfl (fun K hK => ?_) AllReadyH.nil
  go_simp
  have X7 := hidB (Bk.new wd 95 (#[.nilIface, .int .u8 0, .int .i64 0, .string ⟨#[]⟩, .int .i64 0, .int .u8 0, .int .u8 0, .float .f64 0, .string ⟨#[]⟩, .int .i64 0, .int .u8 0, .float .f64 0, .string ⟨#[]⟩, .int .i64 0, .int .u8 0, .float .f64 0, .string ⟨#[]⟩, .int .i64 0, .bool false, .bool false, .bool false, .int .u8 0, .float .f64 0, .string ⟨#[]⟩, .int .i64 0, .int .u8 0, .float .f64 0, .string ⟨#[]⟩, .int .i64 0, .slice none 0 0, .int .i64 0, .int .i64 0]))
  have HHX7 := hidB hHeld.size
  replace hHeld := hHeld.alloc hHeld.size (.cells (#[.nilIface, .int .u8 0, .int .i64 0, .string ⟨#[]⟩, .int .i64 0, .int .u8 0, .int .u8 0, .float .f64 0, .string ⟨#[]⟩, .int .i64 0, .int .u8 0, .float .f64 0, .string ⟨#[]⟩, .int .i64 0, .int .u8 0, .float .f64 0, .string ⟨#[]⟩, .int .i64 0, .bool false, .bool false, .bool false, .int .u8 0, .float .f64 0, .string ⟨#[]⟩, .int .i64 0, .int .u8 0, .float .f64 0, .string ⟨#[]⟩, .int .i64 0, .slice none 0 0, .int .i64 0, .int .i64 0]) 95)
  refine hK.out _ _ hHeld (fun _ => ?_)
  clear hK K
  try simp only [Act.put, List.setIfInBounds_toArray, List.set_cons_zero, List.set_cons_succ]
  generalize hWn : (wd.alloc (.cells (#[.nilIface, .int .u8 0, .int .i64 0, .string ⟨#[]⟩, .int .i64 0, .int .u8 0, .int .u8 0, .float .f64 0, .string ⟨#[]⟩, .int .i64 0, .int .u8 0, .float .f64 0, .string ⟨#[]⟩, .int .i64 0, .int .u8 0, .float .f64 0, .string ⟨#[]⟩, .int .i64 0, .bool false, .bool false, .bool false, .int .u8 0, .float .f64 0, .string ⟨#[]⟩, .int .i64 0, .int .u8 0, .float .f64 0, .string ⟨#[]⟩, .int .i64 0, .slice none 0 0, .int .i64 0, .int .i64 0]) 95)) = wa at *
  clear hWn
  generalize hGn : wd.heap.size = g7 at *
  clear hGn
  refine wpAnyH_ready (rs := [8]) (by kernel_rfl) (by simp) ?_
  refine AllReadyH.cons rfl (fun K hK => ?_) AllReadyH.nil
  rw [if_pos (by kernel_rfl)]
  refine wp_store_row 95 (.tmp 7) (.tmp 23) (by rfl) (g7) (entC .nilIface a lv mn) (by rfl) (by rfl) 95 (#[.nilIface, .int .u8 0, .int .i64 0, .string ⟨#[]⟩, .int .i64 0, .int .u8 0, .int .u8 0, .float .f64 0, .string ⟨#[]⟩, .int .i64 0, .int .u8 0, .float .f64 0, .string ⟨#[]⟩, .int .i64 0, .int .u8 0, .float .f64 0, .string ⟨#[]⟩, .int .i64 0, .bool false, .bool false, .bool false, .int .u8 0, .float .f64 0, .string ⟨#[]⟩, .int .i64 0, .int .u8 0, .float .f64 0, .string ⟨#[]⟩, .int .i64 0, .slice none 0 0, .int .i64 0, .int .i64 0]) (by exact X7.out) (by kernel_rfl) (by rfl) (by exact ent_one _ a lv mn rfl HBO.out.one) ?_
  replace X7 := hidB (X7.out.setRow (entC .nilIface a lv mn))
  replace hHeld := below_setRow hHeld HHX7.out (entC .nilIface a lv mn)
  refine put_none_K (by first | rfl | kernel_rfl) ?_
  refine hK.out _ _ hHeld (fun _ => ?_)
  clear hK K
  generalize hWn : wa.setRow g7 (entC .nilIface a lv mn) = w3 at *
  clear hWn
  refine wpAnyH_done (by kernel_rfl) ?_ _
  refine NoPanic.normal ?_
  have HG7 := hidB (show w.heap.size + 2 ≤ g7 from Nat.le_trans HS2.out HHX7.out)
  replace Y := hidB (Y.out.on hHeld)
  replace R := hidB (R.out.on hHeld)
  replace GW := hidB (GW.out.on hHeld)
  replace TB := hidB (TB.out.on hHeld)
  replace HS := hidB (own_on HS.out hHeld)
  replace KW := hidB (KW.out.trans (Kept.below hHeld))
  clear hHeld HHX7 HS2
  go_wp2_with fail
  refine (rangeI_any ⟨#[116, 111, 111, 32, 109, 97, 110, 121]⟩ _).mono ?_; rintro e w4 ⟨rfl, hb⟩
  have HL7 := hidB X7.out.lt
  replace Y := hidB (Y.out.on hb)
  replace R := hidB (R.out.on hb)
  replace GW := hidB (GW.out.on hb)
  replace TB := hidB (TB.out.on hb)
  replace X7 := hidB (X7.out.on hb)
  replace HS := hidB (own_on HS.out hb)
  replace KW := hidB (KW.out.trans (Kept.below hb))
  have HS4 := hidB hb.size
  clear hb
  have X9 := hidB (show Bk (w4.alloc (.cells ((failR 2 ⟨#[116, 111, 111, 32, 109, 97, 110, 121]⟩).cs) 49)) w4.heap.size 49 ((failR 2 ⟨#[116, 111, 111, 32, 109, 97, 110, 121]⟩).cs) from Bk.new w4 _ _)
  replace Y := hidB (Y.out.on (box_one w4 (.cells ((failR 2 ⟨#[116, 111, 111, 32, 109, 97, 110, 121]⟩).cs) 49)))
  replace R := hidB (R.out.on (box_one w4 (.cells ((failR 2 ⟨#[116, 111, 111, 32, 109, 97, 110, 121]⟩).cs) 49)))
  replace GW := hidB (GW.out.on (box_one w4 (.cells ((failR 2 ⟨#[116, 111, 111, 32, 109, 97, 110, 121]⟩).cs) 49)))
  replace TB := hidB (TB.out.on (box_one w4 (.cells ((failR 2 ⟨#[116, 111, 111, 32, 109, 97, 110, 121]⟩).cs) 49)))
  replace X7 := hidB (X7.out.on (box_one w4 (.cells ((failR 2 ⟨#[116, 111, 111, 32, 109, 97, 110, 121]⟩).cs) 49)))
  replace HS := hidB (own_on HS.out (box_one w4 (.cells ((failR 2 ⟨#[116, 111, 111, 32, 109, 97, 110, 121]⟩).cs) 49)))
  replace KW := hidB (KW.out.trans (Kept.below (box_one w4 (.cells ((failR 2 ⟨#[116, 111, 111, 32, 109, 97, 110, 121]⟩).cs) 49))))
  have HL9 := hidB (show g7 < w4.heap.size by have h1 := HL7.out; have h2 := HS4.out; omega)
  go_upto_region 5 with (first | ((with_reducible refine wpId ?_); refine wpList_store_new (by rfl) 49 (.tmp 9) (.tmp 24) (by rfl) ((failR 2 ⟨#[116, 111, 111, 32, 109, 97, 110, 121]⟩).cs) 49 _ (by rfl) (by rfl) (by kernel_rfl) (by rfl) (by exact OI.one _ rfl) ?_))
  generalize hW : (w4.alloc (.cells ((failR 2 ⟨#[116, 111, 111, 32, 109, 97, 110, 121]⟩).cs) 49)) = w5 at *
  generalize hG : w4.heap.size = g9 at *
  clear hW hG HL7 HS4
  have t3 : w5.cell? ⟨T, 3, none⟩ = some (.int .i64 (bg + 1)) := TB.out.cell 3
  have hx1 : bg + 1 ≤ 8192 := by omega
  go_upto_region 6 with fail
  all_goals first | (exfalso; omega) | skip
  clear t3
  refine wp_region_noPanic ?_
  refine wp_region_held_drew (S := fun W => Kept (fun k => k = g9) w5 W) (by kernel_rfl) ?_ (fun hHeld => ?_)
  · exact (Kept.refl _ _).drew
  have HSD := hidB (show w5.heap.size ≤ w5.drew.heap.size from Nat.le_refl _)
  have X95 := hidB X9.out.lt
  have GWd := hidB (show Bk w5.drew gw 65 #[hv] from GW.out.drew)
  have KWd := hidB (show Kept (fun k => k = T ∨ (Value.slice qs n cs).ownBlock = some k) w w5.drew from KW.out.drew)
  have X9d := hidB (show Bk w5.drew g9 49 ((failR 2 ⟨#[116, 111, 111, 32, 109, 97, 110, 121]⟩).cs) from X9.out.drew)
  have HRD := hidB (HRX.out _ (HX.out.trans (KWd.out.toBelow (Nat.le_of_lt (Nat.lt_of_le_of_lt HB1.out HTL.out)) (fun k hk => hk.elim (fun e => by rw [e]; exact HB1.out) (fun e => (HSL.out k e).1)))))
  generalize hWd : w5.drew = wd at *
  clear hWd
  first | (refine wpAnyH_take (i := 0) (v := undef) (by exact gE rfl) (by kernel_rfl) (by kernel_rfl) (by kernel_rfl) (fun _ _ _ h => h) (Or.inr ⟨?_, rfl⟩) (by assumption) ?_; (rfl); try simp only [Act.put, List.setIfInBounds_toArray, List.set_cons_zero, List.set_cons_succ]) | (refine wpAnyH_take (i := 0) (v := ?_) (by exact gE rfl) (by kernel_rfl) (by kernel_rfl) (by kernel_rfl) (fun _ _ _ h => h) (Or.inl ⟨?_, ?_⟩) (by assumption) ?_; rotate_left; (rfl); (focus (intro w hSw; (try dsimp only at hSw); go_simp; try with_reducible rfl)); try simp only [Act.put, List.setIfInBounds_toArray, List.set_cons_zero, List.set_cons_succ])
  first | (refine wpAnyH_take (i := 1) (v := undef) (by exact gE rfl) (by kernel_rfl) (by kernel_rfl) (by kernel_rfl) (fun _ _ _ h => h) (Or.inr ⟨?_, rfl⟩) (by assumption) ?_; (rfl); try simp only [Act.put, List.setIfInBounds_toArray, List.set_cons_zero, List.set_cons_succ]) | (refine wpAnyH_take (i := 1) (v := ?_) (by exact gE rfl) (by kernel_rfl) (by kernel_rfl) (by kernel_rfl) (fun _ _ _ h => h) (Or.inl ⟨?_, ?_⟩) (by assumption) ?_; rotate_left; (rfl); (focus (intro w hSw; (try dsimp only at hSw); go_simp; try with_reducible rfl)); try simp only [Act.put, List.setIfInBounds_toArray, List.set_cons_zero, List.set_cons_succ])
  first | (refine wpAnyH_take (i := 2) (v := undef) (by exact gE rfl) (by kernel_rfl) (by kernel_rfl) (by kernel_rfl) (fun _ _ _ h => h) (Or.inr ⟨?_, rfl⟩) (by assumption) ?_; (rfl); try simp only [Act.put, List.setIfInBounds_toArray, List.set_cons_zero, List.set_cons_succ]) | (refine wpAnyH_take (i := 2) (v := ?_) (by exact gE rfl) (by kernel_rfl) (by kernel_rfl) (by kernel_rfl) (fun _ _ _ h => h) (Or.inl ⟨?_, ?_⟩) (by assumption) ?_; rotate_left; (rfl); (focus (intro w hSw; (try dsimp only at hSw); go_simp; try with_reducible rfl)); try simp only [Act.put, List.setIfInBounds_toArray, List.set_cons_zero, List.set_cons_succ])
  first | (refine wpAnyH_take (i := 3) (v := undef) (by exact gE rfl) (by kernel_rfl) (by kernel_rfl) (by kernel_rfl) (fun _ _ _ h => h) (Or.inr ⟨?_, rfl⟩) (by assumption) ?_; (rfl); try simp only [Act.put, List.setIfInBounds_toArray, List.set_cons_zero, List.set_cons_succ]) | (refine wpAnyH_take (i := 3) (v := ?_) (by exact gE rfl) (by kernel_rfl) (by kernel_rfl) (by kernel_rfl) (fun _ _ _ h => h) (Or.inl ⟨?_, ?_⟩) (by assumption) ?_; rotate_left; (rfl); (focus (intro W hSw; have hc0 := (show W.cell? ⟨T, 0, none⟩ = some (.pointer (some ⟨gw, 0, none⟩)) from (TB.out.kept hSw (show ¬ (T = g9) by have h1 := HTL.out; have h2 := HL9.out; have h3 := HG7.out; omega)).cell 0); clear hSw; go_simp; try with_reducible rfl)); try simp only [Act.put, List.setIfInBounds_toArray, List.set_cons_zero, List.set_cons_succ])
  (refine wpAnyH_take (i := 4) (v := a.a) (by exact gE rfl) (by kernel_rfl) (by kernel_rfl) (by kernel_rfl) (fun _ _ _ h => h) (yieldsIf_load_mid (by rfl) 34 (.tmp 4) (by rfl) (w.heap.size) (0) (by rfl) (a.cs.toList) _ (fun W hS => Bk.mid (Y.out.kept hS (show ¬ (w.heap.size = g9) by have h2 := HL9.out; have h3 := HG7.out; omega)) 0 _ rfl) Tryz.underlying34 (by rfl) (by kernel_rfl)) (by assumption) ?_; try simp only [Act.put, List.setIfInBounds_toArray, List.set_cons_zero, List.set_cons_succ])
  first | (refine wpAnyH_take (i := 5) (v := undef) (by exact gE rfl) (by kernel_rfl) (by kernel_rfl) (by kernel_rfl) (fun _ _ _ h => h) (Or.inr ⟨?_, rfl⟩) (by assumption) ?_; (rfl); try simp only [Act.put, List.setIfInBounds_toArray, List.set_cons_zero, List.set_cons_succ]) | (refine wpAnyH_take (i := 5) (v := ?_) (by exact gE rfl) (by kernel_rfl) (by kernel_rfl) (by kernel_rfl) (fun _ _ _ h => h) (Or.inl ⟨?_, ?_⟩) (by assumption) ?_; rotate_left; (rfl); (focus (intro w hSw; (try dsimp only at hSw); go_simp; try with_reducible rfl)); try simp only [Act.put, List.setIfInBounds_toArray, List.set_cons_zero, List.set_cons_succ])
  refine wpAnyH_ready (rs := [6]) (by kernel_rfl) (by simp) ?_
  refine AllReadyH.cons rfl (fun K hK => ?_) AllReadyH.nil
  go_simp
  refine (begin_ok HBO.out hv lv hl gw _ GWd.out HRD.out).mono ?_; rintro e w6 hbr
  obtain ⟨iv, O, A, rfl, hb, hq⟩ := beg_shape hbr
  have HQ := hidB hq
  have HB6 := hidB hb
  replace hHeld := hHeld.trans (Kept.below hb)
  replace X9d := hidB (X9d.out.on hb)
  have HOK := hidB (BegQ.key HBO.out hq)
  have HIV := hidB hq.one
  clear hb hq hbr
  refine hK.out _ _ hHeld (fun _ => ?_)
  clear hK K
  try simp only [Act.put, List.setIfInBounds_toArray, List.set_cons_zero, List.set_cons_succ]
  first | (refine wpAnyH_take (i := 7) (v := undef) (by exact gE rfl) (by kernel_rfl) (by kernel_rfl) (by kernel_rfl) (fun _ _ _ h => h) (Or.inr ⟨?_, rfl⟩) (by assumption) ?_; (rfl); try simp only [Act.put, List.setIfInBounds_toArray, List.set_cons_zero, List.set_cons_succ]) | (refine wpAnyH_take (i := 7) (v := ?_) (by exact gE rfl) (by kernel_rfl) (by kernel_rfl) (by kernel_rfl) (fun _ _ _ h => h) (Or.inl ⟨?_, ?_⟩) (by assumption) ?_; rotate_left; (rfl); (focus (intro w hSw; (try dsimp only at hSw); go_simp; try with_reducible rfl)); try simp only [Act.put, List.setIfInBounds_toArray, List.set_cons_zero, List.set_cons_succ])
  first | (refine wpAnyH_take (i := 8) (v := undef) (by exact gE rfl) (by kernel_rfl) (by kernel_rfl) (by kernel_rfl) (fun _ _ _ h => h) (Or.inr ⟨?_, rfl⟩) (by assumption) ?_; (rfl); try simp only [Act.put, List.setIfInBounds_toArray, List.set_cons_zero, List.set_cons_succ]) | (refine wpAnyH_take (i := 8) (v := ?_) (by exact gE rfl) (by kernel_rfl) (by kernel_rfl) (by kernel_rfl) (fun _ _ _ h => h) (Or.inl ⟨?_, ?_⟩) (by assumption) ?_; rotate_left; (rfl); (focus (intro w hSw; (try dsimp only at hSw); go_simp; try with_reducible rfl)); try simp only [Act.put, List.setIfInBounds_toArray, List.set_cons_zero, List.set_cons_succ])
  first | (refine wpAnyH_take (i := 9) (v := undef) (by exact gE rfl) (by kernel_rfl) (by kernel_rfl) (by kernel_rfl) (fun _ _ _ h => h) (Or.inr ⟨?_, rfl⟩) (by assumption) ?_; (rfl); try simp only [Act.put, List.setIfInBounds_toArray, List.set_cons_zero, List.set_cons_succ]) | (refine wpAnyH_take (i := 9) (v := ?_) (by exact gE rfl) (by kernel_rfl) (by kernel_rfl) (by kernel_rfl) (fun _ _ _ h => h) (Or.inl ⟨?_, ?_⟩) (by assumption) ?_; rotate_left; (rfl); (focus (intro w hSw; (try dsimp only at hSw); go_simp; try with_reducible rfl)); try simp only [Act.put, List.setIfInBounds_toArray, List.set_cons_zero, List.set_cons_succ])
  first | (refine wpAnyH_take (i := 10) (v := undef) (by exact gE rfl) (by kernel_rfl) (by kernel_rfl) (by kernel_rfl) (fun _ _ _ h => h) (Or.inr ⟨?_, rfl⟩) (by assumption) ?_; (rfl); try simp only [Act.put, List.setIfInBounds_toArray, List.set_cons_zero, List.set_cons_succ]) | (refine wpAnyH_take (i := 10) (v := ?_) (by exact gE rfl) (by kernel_rfl) (by kernel_rfl) (by kernel_rfl) (fun _ _ _ h => h) (Or.inl ⟨?_, ?_⟩) (by assumption) ?_; rotate_left; (rfl); (focus (intro w hSw; (try dsimp only at hSw); go_simp; try with_reducible rfl)); try simp only [Act.put, List.setIfInBounds_toArray, List.set_cons_zero, List.set_cons_succ])
  refine wpAnyH_ready (rs := [11]) (by kernel_rfl) (by simp) ?_
  refine AllReadyH.cons rfl (fun K hK => ?_) AllReadyH.nil
  rw [if_pos (by kernel_rfl)]
  refine wp_store_row 49 (.tmp 9) (.tmp 43) (by rfl) (g9) (O.cs) (by rfl) (by rfl) 49 ((failR 2 ⟨#[116, 111, 111, 32, 109, 97, 110, 121]⟩).cs) (by exact X9d.out) (by kernel_rfl) (by rfl) (by exact OI.one _ HOK.out) ?_
  have X9e := hidB (X9d.out.setRow O.cs)
  replace hHeld := hHeld.setRow (g := g9) (.inl rfl) O.cs
  have HSR := hidB (fun k (hk : k ≠ g9) => heap_setRow (g := g9) w6 hk O.cs)
  have HW67 := hidB (show w6.heap.size ≤ (w6.setRow g9 O.cs).heap.size by simp [World.setRow])
  refine put_none_K (by first | rfl | kernel_rfl) ?_
  refine hK.out _ _ hHeld (fun _ => ?_)
  clear hK K
  refine wpAnyH_done (by kernel_rfl) ?_ _
  refine NoPanic.normal ?_
  generalize hWn : (w6.setRow g9 O.cs) = w7 at *
  clear hWn
  have hg9 : w.heap.size + 2 ≤ g9 := by have h1 := HL9.out; have h2 := HG7.out; omega
  have HG9 := hidB hg9
  replace HS := hidB (own_kept HS.out hHeld (fun k hk e => own_neB HS.out X9.out (by decide) hk e))
  replace Y := hidB (Y.out.kept hHeld (show ¬ (w.heap.size = g9) by have h1 := HTL.out; have h2 := HWL.out; have h3 := HL9.out; omega))
  replace R := hidB (R.out.kept hHeld (show ¬ (w.heap.size + 1 = g9) by have h1 := HTL.out; have h2 := HWL.out; have h3 := HL9.out; omega))
  replace GW := hidB (GW.out.kept hHeld (show ¬ (gw = g9) by have h1 := HTL.out; have h2 := HWL.out; have h3 := HL9.out; omega))
  replace TB := hidB (TB.out.kept hHeld (show ¬ (T = g9) by have h1 := HTL.out; have h2 := HWL.out; have h3 := HL9.out; omega))
  replace X7 := hidB (X7.out.kept hHeld (show ¬ (g7 = g9) by have h1 := HTL.out; have h2 := HWL.out; have h3 := HL9.out; omega))
  replace KW := hidB (KW.out.fresh hHeld (by omega))
  replace X9 := hidB X9e.out
  have HQ7 := hidB (HQ.out.keep (w' := w7) (by have h1 := hHeld.size; have h2 := HW67.out; omega) (fun k hk => HSR.out k (by have h1 := (HQ.out.lt k hk).1; have h2 := HSD.out; have h3 := X95.out; omega)))
  have HAL := hidB (fun k hk => show w5.heap.size ≤ k ∧ k < w7.heap.size from ⟨Nat.le_trans HSD.out (HQ.out.lt k hk).1, by have h1 := (HQ.out.lt k hk).2; have h2 := HW67.out; omega⟩)
  have HL57 := hidB hHeld.size
  clear HQ HSR HW67 HSD hHeld hg9 X9e X9d GWd KWd HRD
  go_upto_region 8 with (first | ((with_reducible refine stId 93 (.tmp 45) (.tmp 44) ?_); refine wpList_store_one (by rfl) 93 (.tmp 45) (.tmp 44) (by rfl) g7 0 iv (by rfl) (by rfl) (by exact HIV.out) (by exact X7.out.there 0 1 (Nat.le_of_ble_eq_true rfl)) (by kernel_rfl) ?_))
  have hfar : ∀ k, k ≠ g7 → (w7.setCell ⟨g7, 0, none⟩ iv).heap[k]? = w7.heap[k]? := fun k hk => Below.heap_setCell w7 _ _ k hk
  replace HS := hidB (show (w7.setCell ⟨g7, 0, none⟩ iv).ownsRow B1 95 32 (.slice qs n cs) n xs from own_eq HS.out (fun k hk => hfar k (by have h1 := (HSL.out k hk).2; have h2 := HG7.out; omega)))
  replace R := hidB (show Bk (w7.setCell ⟨g7, 0, none⟩ iv) (w.heap.size + 1) 49 (OI.zero.cs) from (hfar _ (by have h1 := HTL.out; have h2 := HWL.out; have h3 := HL9.out; have h4 := HG7.out; omega)).trans R.out)
  replace GW := hidB (show Bk (w7.setCell ⟨g7, 0, none⟩ iv) (gw) 65 (#[hv]) from (hfar _ (by have h1 := HTL.out; have h2 := HWL.out; have h3 := HL9.out; have h4 := HG7.out; omega)).trans GW.out)
  replace TB := hidB (show Bk (w7.setCell ⟨g7, 0, none⟩ iv) (T) 68 ((tkC gw (.slice qs n cs) mn (bg + 1) fa flv wn ov hd se)) from (hfar _ (by have h1 := HTL.out; have h2 := HWL.out; have h3 := HL9.out; have h4 := HG7.out; omega)).trans TB.out)
  replace X9 := hidB (show Bk (w7.setCell ⟨g7, 0, none⟩ iv) (g9) 49 (O.cs) from (hfar _ (by have h1 := HTL.out; have h2 := HWL.out; have h3 := HL9.out; have h4 := HG7.out; omega)).trans X9.out)
  replace X7 := hidB (show Bk (w7.setCell ⟨g7, 0, none⟩ iv) g7 95 (entC iv a lv mn) from X7.out.set 0 _)
  replace KW := hidB (show Kept (fun k => k = T ∨ (Value.slice qs n cs).ownBlock = some k) w (w7.setCell ⟨g7, 0, none⟩ iv) from KW.out.setCell (p := ⟨g7, 0, none⟩) (.inr (by show w.heap.size ≤ g7; have := HG7.out; omega)) _)
  have HL78 := hidB (show w7.heap.size ≤ (w7.setCell ⟨g7, 0, none⟩ iv).heap.size by simp [World.setCell])
  have HQ8 := hidB (HQ7.out.keep (w' := (w7.setCell ⟨g7, 0, none⟩ iv)) (by simp [World.setCell]) (fun k hk => hfar k (by have h1 := (HAL.out k hk).1; have h2 := HL9.out; have h3 := X95.out; omega)))
  clear hfar HQ7 Y
  generalize hW : (w7.setCell ⟨g7, 0, none⟩ iv) = w8 at *
  clear hW
  have HL89 := hidB (show w.heap.size + 2 ≤ w8.heap.size by have h1 := HL78.out; have h2 := HL57.out; have h3 := X95.out; have h4 := HG9.out; omega)
  have HL59 := hidB (show w.heap.size + 2 ≤ w5.heap.size by have h3 := X95.out; have h4 := HG9.out; omega)
  obtain ⟨i0, hi0, hz0, hz1, hz2⟩ := info_parts info_ask
  refine wp_region_noPanic ?_
  refine wp_region_held_drew (S := fun W => Kept (fun k => k = T ∨ (Value.slice qs n cs).ownBlock = some k) w8 W) (by kernel_rfl) ?_ (fun hHeld => ?_)
  · exact (Kept.refl _ _).drew
  have TBc := hidB (show Bk w8.drew T 68 (tkC gw (.slice qs n cs) mn (bg + 1) fa flv wn ov hd se) from TB.out.drew)
  have HSc := hidB (show w8.drew.ownsRow B1 95 32 (.slice qs n cs) n xs from own_eq HS.out (fun _ _ => rfl))
  generalize hWd : w8.drew = wd at *
  clear hWd
  first | (refine wpAnyH_take (i := 0) (v := undef) (by exact gE rfl) (by kernel_rfl) (by kernel_rfl) (by kernel_rfl) (fun _ _ _ h => h) (Or.inr ⟨?_, rfl⟩) (by assumption) ?_; (rfl); try simp only [Act.put, List.setIfInBounds_toArray, List.set_cons_zero, List.set_cons_succ]) | (refine wpAnyH_take (i := 0) (v := ?_) (by exact gE rfl) (by kernel_rfl) (by kernel_rfl) (by kernel_rfl) (fun _ _ _ h => h) (Or.inl ⟨?_, ?_⟩) (by assumption) ?_; rotate_left; (rfl); (focus (intro w hSw; (try dsimp only at hSw); go_simp; try with_reducible rfl)); try simp only [Act.put, List.setIfInBounds_toArray, List.set_cons_zero, List.set_cons_succ])
  first | (refine wpAnyH_take (i := 1) (v := undef) (by exact gE rfl) (by kernel_rfl) (by kernel_rfl) (by kernel_rfl) (fun _ _ _ h => h) (Or.inr ⟨?_, rfl⟩) (by assumption) ?_; (rfl); try simp only [Act.put, List.setIfInBounds_toArray, List.set_cons_zero, List.set_cons_succ]) | (refine wpAnyH_take (i := 1) (v := ?_) (by exact gE rfl) (by kernel_rfl) (by kernel_rfl) (by kernel_rfl) (fun _ _ _ h => h) (Or.inl ⟨?_, ?_⟩) (by assumption) ?_; rotate_left; (rfl); (focus (intro w hSw; (try dsimp only at hSw); go_simp; try with_reducible rfl)); try simp only [Act.put, List.setIfInBounds_toArray, List.set_cons_zero, List.set_cons_succ])
  first | (refine wpAnyH_take (i := 2) (v := undef) (by exact gE rfl) (by kernel_rfl) (by kernel_rfl) (by kernel_rfl) (fun _ _ _ h => h) (Or.inr ⟨?_, rfl⟩) (by assumption) ?_; (rfl); try simp only [Act.put, List.setIfInBounds_toArray, List.set_cons_zero, List.set_cons_succ]) | (refine wpAnyH_take (i := 2) (v := ?_) (by exact gE rfl) (by kernel_rfl) (by kernel_rfl) (by kernel_rfl) (fun _ _ _ h => h) (Or.inl ⟨?_, ?_⟩) (by assumption) ?_; rotate_left; (rfl); (focus (intro w hSw; (try dsimp only at hSw); go_simp; try with_reducible rfl)); try simp only [Act.put, List.setIfInBounds_toArray, List.set_cons_zero, List.set_cons_succ])
  first | (refine wpAnyH_take (i := 3) (v := undef) (by exact gE rfl) (by kernel_rfl) (by kernel_rfl) (by kernel_rfl) (fun _ _ _ h => h) (Or.inr ⟨?_, rfl⟩) (by assumption) ?_; (rfl); try simp only [Act.put, List.setIfInBounds_toArray, List.set_cons_zero, List.set_cons_succ]) | (refine wpAnyH_take (i := 3) (v := ?_) (by exact gE rfl) (by kernel_rfl) (by kernel_rfl) (by kernel_rfl) (fun _ _ _ h => h) (Or.inl ⟨?_, ?_⟩) (by assumption) ?_; rotate_left; (rfl); (focus (intro w hSw; (try dsimp only at hSw); go_simp; try with_reducible rfl)); try simp only [Act.put, List.setIfInBounds_toArray, List.set_cons_zero, List.set_cons_succ])
  (refine wpAnyH_take (i := 5) (v := (.agg (entC iv a lv mn))) (by exact gE rfl) (by kernel_rfl) (by kernel_rfl) (by kernel_rfl) (fun _ _ _ h => h) (yieldsIf_load_mid (by rfl) 95 (.tmp 7) (by rfl) (g7) (0) (by rfl) ((entC iv a lv mn).toList) _ (fun W hS => rangeKept hS X7.out.lt (show ¬ (g7 = T ∨ (Value.slice qs n cs).ownBlock = some g7) from fun e => e.elim (fun e => by have h1 := HTL.out; have h2 := HG7.out; omega) (fun e => by have h1 := (HSL.out _ e).2; have h2 := HG7.out; omega)) (Bk.mid X7.out 0 _ rfl)) Tryz.underlying95 (by rfl) (by kernel_rfl)) (by assumption) ?_; try simp only [Act.put, List.setIfInBounds_toArray, List.set_cons_zero, List.set_cons_succ])
  refine wpAnyH_ready (rs := [4, 6]) (by kernel_rfl) (by simp) ?_
  refine AllReadyH.cons rfl (fun K hK => ?_) ?_
  · skip
    have y1 : wd.cell? ⟨T, 1, none⟩ = some (.slice qs n cs) := TBc.out.cell 1
    go_simp
    clear y1
    refine hK.out _ _ hHeld (fun _ => ?_)
    clear hK K
    try simp only [Act.put, List.setIfInBounds_toArray, List.set_cons_zero, List.set_cons_succ]
    refine wpAnyH_ready (rs := [6]) (by kernel_rfl) (by simp) ?_
    refine AllReadyH.cons rfl (fun K hK => ?_) AllReadyH.nil
    rw [if_pos (by kernel_rfl)]
    refine wp_buildSlice 66 95 1 32 _ (by rfl) [(0, .agg (entC iv a lv mn))] (by kernel_rfl) (.agg #[.nilIface, .int .u8 0, .int .i64 0, .string ⟨#[]⟩, .int .i64 0, .int .u8 0, .int .u8 0, .float .f64 0, .string ⟨#[]⟩, .int .i64 0, .int .u8 0, .float .f64 0, .string ⟨#[]⟩, .int .i64 0, .int .u8 0, .float .f64 0, .string ⟨#[]⟩, .int .i64 0, .bool false, .bool false, .bool false, .int .u8 0, .float .f64 0, .string ⟨#[]⟩, .int .i64 0, .int .u8 0, .float .f64 0, .string ⟨#[]⟩, .int .i64 0, .slice none 0 0, .int .i64 0, .int .i64 0]) (entC iv a lv mn) Tryz.underlying66 (by kernel_rfl) (by decide) (by decide) (by kernel_rfl) ?_
    have HNB := hidB (Bk.new wd 95 (entC iv a lv mn))
    replace TBc := hidB (TBc.out.alloc (.cells (entC iv a lv mn) 95))
    replace HSc := hidB (own_on HSc.out (box_one wd (.cells (entC iv a lv mn) 95)))
    have HGN := hidB hHeld.size
    replace hHeld := hHeld.alloc (.cells (entC iv a lv mn) 95)
    refine hK.out _ _ hHeld (fun _ => ?_)
    clear hK K
    try simp only [Act.put, List.setIfInBounds_toArray, List.set_cons_zero, List.set_cons_succ]
    generalize hWn : (wd.alloc (.cells (entC iv a lv mn) 95)) = wb at *
    clear hWn
    generalize hGn : wd.heap.size = gN at *
    clear hGn
    refine wpAnyH_ready (rs := [7]) (by kernel_rfl) (by simp) ?_
    refine AllReadyH.cons rfl (fun K hK => ?_) AllReadyH.nil
    rw [if_pos (by kernel_rfl)]
    refine wp_append_in (.tmp 50) (.tmp 52) 66 (by rfl) B1 95 i0 _ 32 312 Tryz.underlying66 hi0 hz0 hz1 hz2 (by rfl) (by decide) (.slice qs n cs) n _ (by rfl) HSc.out ⟨gN, 0, none⟩ 1 1 (entC iv a lv mn).toList (by rfl) (by rfl) (bk_cells HNB.out) (fun u hu => (Array.all_eq_true_iff_forall_mem.1 (ent_one iv a lv mn HIV.out HBO.out.one)) u (Array.mem_toList_iff.1 hu)) (by unfold maxLen; have := HN.out; omega) (by have := HN.out; omega) (by have h1 := HNB.out.lt; have h2 := HGN.out; have h3 := HB1.out; have h4 := HTL.out; have h5 := HL89.out; omega) ?_
    intro v' w9 hown' hgrow hblk
    have HWB := hidB (show w8.heap.size ≤ wb.heap.size from hHeld.size)
    replace hHeld := hHeld.grown hgrow (fun k hk => .inl (.inr hk))
    replace TBc := hidB (Bk.grown TBc.out hgrow (fun h => HSV.out T h rfl))
    obtain ⟨q2, c2, rfl⟩ := own_slice hown'
    have HOWN := hidB hown'
    have HBLK := hidB hblk
    clear hown' hgrow hblk HSc HNB HGN
    refine hK.out _ _ hHeld (fun _ => ?_)
    clear hK K
    try simp only [Act.put, List.setIfInBounds_toArray, List.set_cons_zero, List.set_cons_succ]
    first | (refine wpAnyH_take (i := 8) (v := undef) (by exact gE rfl) (by kernel_rfl) (by kernel_rfl) (by kernel_rfl) (fun _ _ _ h => h) (Or.inr ⟨?_, rfl⟩) (by assumption) ?_; (rfl); try simp only [Act.put, List.setIfInBounds_toArray, List.set_cons_zero, List.set_cons_succ]) | (refine wpAnyH_take (i := 8) (v := ?_) (by exact gE rfl) (by kernel_rfl) (by kernel_rfl) (by kernel_rfl) (fun _ _ _ h => h) (Or.inl ⟨?_, ?_⟩) (by assumption) ?_; rotate_left; (rfl); (focus (intro w hSw; (try dsimp only at hSw); go_simp; try with_reducible rfl)); try simp only [Act.put, List.setIfInBounds_toArray, List.set_cons_zero, List.set_cons_succ])
    first | (refine wpAnyH_take (i := 9) (v := undef) (by exact gE rfl) (by kernel_rfl) (by kernel_rfl) (by kernel_rfl) (fun _ _ _ h => h) (Or.inr ⟨?_, rfl⟩) (by assumption) ?_; (rfl); try simp only [Act.put, List.setIfInBounds_toArray, List.set_cons_zero, List.set_cons_succ]) | (refine wpAnyH_take (i := 9) (v := ?_) (by exact gE rfl) (by kernel_rfl) (by kernel_rfl) (by kernel_rfl) (fun _ _ _ h => h) (Or.inl ⟨?_, ?_⟩) (by assumption) ?_; rotate_left; (rfl); (focus (intro w hSw; (try dsimp only at hSw); go_simp; try with_reducible rfl)); try simp only [Act.put, List.setIfInBounds_toArray, List.set_cons_zero, List.set_cons_succ])
    refine wpAnyH_ready (rs := [10]) (by kernel_rfl) (by simp) ?_
    refine AllReadyH.cons rfl (fun K hK => ?_) AllReadyH.nil
    have y1 : w9.cell? ⟨T, 1, none⟩ = some (.slice qs n cs) := TBc.out.cell 1
    have f1 : w9.frozen? ⟨T, 1, none⟩ = false := TBc.out.free 1
    go_simp
    have HOWN2 := hidB (own_eq (w' := w9.setCell ⟨T, 1, none⟩ (.slice q2 (n + 1) c2)) HOWN.out (fun k hk => Below.heap_setCell w9 _ _ k (own_neB HOWN.out TBc.out (by decide) hk)))
    replace TBc := hidB (TBc.out.set 1 (.slice q2 (n + 1) c2))
    replace hHeld := hHeld.setCell (p := ⟨T, 1, none⟩) (.inl (.inl rfl)) (.slice q2 (n + 1) c2)
    clear y1 f1 HOWN
    refine hK.out _ _ hHeld (fun _ => ?_)
    clear hK K
    try simp only [Act.put, List.setIfInBounds_toArray, List.set_cons_zero, List.set_cons_succ]
    refine wpAnyH_done (by kernel_rfl) ?_ _
    refine NoPanic.normal ?_
    generalize hWn : (w9.setCell ⟨T, 1, none⟩ (.slice q2 (n + 1) c2)) = w10 at *
    clear hWn
    have R2 := hidB (R.out.kept hHeld (show ¬ ((w.heap.size + 1) = T ∨ (Value.slice qs n cs).ownBlock = some (w.heap.size + 1)) from fun e => e.elim (fun e => by have h1 := HTL.out; have h2 := HG9.out; omega) (fun e => by have h1 := (HSL.out _ e).2; have h2 := HG9.out; omega)))
    have X92 := hidB (X9.out.kept hHeld (show ¬ ((g9) = T ∨ (Value.slice qs n cs).ownBlock = some (g9)) from fun e => e.elim (fun e => by have h1 := HTL.out; have h2 := HG9.out; omega) (fun e => by have h1 := (HSL.out _ e).2; have h2 := HG9.out; omega)))
    have KW2 := hidB (KW.out.trans hHeld)
    have HQ2 := hidB (HQ8.out.keep hHeld.size (fun k hk => hHeld.block k (by have h1 := (HAL.out k hk).2; have h2 := HL78.out; omega) (fun e => e.elim (fun e => by have h1 := (HAL.out k hk).1; have h2 := HTL.out; have h3 := HL59.out; omega) (fun e => by have h1 := (HAL.out k hk).1; have h2 := (HSL.out k e).2; have h3 := HL59.out; omega))))
    have HW10 := hidB hHeld.size
    clear hHeld R X9 KW HQ8 X7 TB HS GW
    cases r with
    | now x =>
      obtain ⟨hiv, hO, hA⟩ := HQ2.out
      subst hiv
      subst hO
      have hkd := HBO.out.now.1
      have x0 : w10.cell? ⟨g9, 0, none⟩ = some (.int .u8 1) := by rw [← hkd]; exact X92.out.cell 0
      have qn : ∀ w : World, (binOp .neq 93 .nilIface .nilIface).run Tryz.prog w = .ok (.bool false) w := fun _ => rfl
      go_wp2_with (first | ((with_reducible refine ldId 49 (.tmp 9) ?_); refine wpList_load_row (by rfl) 49 (.tmp 9) (by rfl) (g9) (by rfl) 49 (O.cs) (0, 0) _ (by exact X92.out) Tryz.underlying49 (by rfl) (by kernel_rfl) ?_) | ((with_reducible refine stId 49 (.tmp 6) (.tmp 67) ?_); refine wpList_store_row (by rfl) 49 (.tmp 6) (.tmp 67) (by rfl) (w.heap.size + 1) (O.cs) (by rfl) (by rfl) 49 (OI.zero.cs) (by exact R2.out) (by kernel_rfl) (by rfl) (by exact OI.one _ HOK.out) ?_))
      refine bodyPost_ret (v := .agg (O.cs)) (results_cell_row Tryz.results19 _ _ (w.heap.size + 1) 49 (O.cs) (0, 0) _ rfl (R2.out.setRow _) Tryz.underlying49 rfl (by kernel_rfl)) rfl ?_
      exact ⟨.slice q2 (n + 1) c2, .nilIface, fun _ => False, rfl, TBc.out.setRow_far (by have := HTL.out; omega) _, own_eq HOWN2.out (fun k hk => heap_setRow _ (own_neB HOWN2.out R2.out (by decide) hk) _), KW2.out.setRow (g := w.heap.size + 1) (.inr (by omega)) _, rfl, fun k hk => hk.elim, fun k hk => (HBLK.out k hk).imp id (fun h => by have h1 := HWB.out; have h2 := HL89.out; omega)⟩
    | tk P =>
      obtain ⟨hO, hA, S, hP, hT⟩ := HQ2.out
      subst hO
      obtain ⟨ty, gi, rfl⟩ := hT.some
      have HP := hidB hP
      have HT := hidB hT
      clear hA hP hT
      have x0 : w10.cell? ⟨g9, 0, none⟩ = some (.int .u8 0) := X92.out.cell 0
      have qe : ∀ w : World, (binOp .eql 93 (.iface ty (ptr gi)) .nilIface).run Tryz.prog w = .ok (.bool false) w := fun _ => rfl
      have qn : ∀ w : World, (binOp .neq 93 (.iface ty (ptr gi)) .nilIface).run Tryz.prog w = .ok (.bool true) w := fun _ => rfl
      go_wp2_with (first | ((with_reducible refine wpId ?_); refine wpList_build_to (by rfl) 49 _ (by rfl) (({ OI.zero with kd := 1 } : OI).cs) (by kernel_rfl) ?_) | ((with_reducible refine stId 49 (.tmp 6) (.tmp 66) ?_); refine wpList_store_row (by rfl) 49 (.tmp 6) (.tmp 66) (by rfl) (w.heap.size + 1) (({ OI.zero with kd := 1 } : OI).cs) (by rfl) (by rfl) 49 (OI.zero.cs) (by exact R2.out) (by kernel_rfl) (by rfl) (by exact OI.one _ rfl) ?_))
      refine bodyPost_ret (v := .agg (({ OI.zero with kd := 1 } : OI).cs)) (results_cell_row Tryz.results19 _ _ (w.heap.size + 1) 49 (({ OI.zero with kd := 1 } : OI).cs) (0, 0) _ rfl (R2.out.setRow _) Tryz.underlying49 rfl (by kernel_rfl)) rfl ?_
      exact ⟨.slice q2 (n + 1) c2, .iface ty (ptr gi), A, rfl, TBc.out.setRow_far (by have := HTL.out; omega) _, own_eq HOWN2.out (fun k hk => heap_setRow _ (own_neB HOWN2.out R2.out (by decide) hk) _), KW2.out.setRow (g := w.heap.size + 1) (.inr (by omega)) _, ⟨S, HP.out, HT.out.keep (by simp [World.setRow]) (fun k hk => heap_setRow _ (by have h1 := (HAL.out k hk).1; have h3 := HL59.out; omega) _)⟩, fun k hk => ⟨by have h1 := (HAL.out k hk).1; have h3 := HL59.out; omega, by have h1 := HT.out.lt k hk; simpa [World.setRow] using h1, fun h => (HBLK.out k h).elim (fun h => by have h1 := (HSL.out k h).2; have h2 := (HAL.out k hk).1; have h3 := HL59.out; omega) (fun h => by have h1 := (HAL.out k hk).2; have h2 := HL78.out; have h3 := HWB.out; omega)⟩, fun k hk => (HBLK.out k hk).imp id (fun h => by have h1 := HWB.out; have h2 := HL89.out; omega)⟩
  refine AllReadyH.cons rfl (fun K hK => ?_) AllReadyH.nil
  rw [if_pos (by kernel_rfl)]
  refine wp_buildSlice 66 95 1 32 _ (by rfl) [(0, .agg (entC iv a lv mn))] (by kernel_rfl) (.agg #[.nilIface, .int .u8 0, .int .i64 0, .string ⟨#[]⟩, .int .i64 0, .int .u8 0, .int .u8 0, .float .f64 0, .string ⟨#[]⟩, .int .i64 0, .int .u8 0, .float .f64 0, .string ⟨#[]⟩, .int .i64 0, .int .u8 0, .float .f64 0, .string ⟨#[]⟩, .int .i64 0, .bool false, .bool false, .bool false, .int .u8 0, .float .f64 0, .string ⟨#[]⟩, .int .i64 0, .int .u8 0, .float .f64 0, .string ⟨#[]⟩, .int .i64 0, .slice none 0 0, .int .i64 0, .int .i64 0]) (entC iv a lv mn) Tryz.underlying66 (by kernel_rfl) (by decide) (by decide) (by kernel_rfl) ?_
  have HNB := hidB (Bk.new wd 95 (entC iv a lv mn))
  replace TBc := hidB (TBc.out.alloc (.cells (entC iv a lv mn) 95))
  replace HSc := hidB (own_on HSc.out (box_one wd (.cells (entC iv a lv mn) 95)))
  have HGN := hidB hHeld.size
  replace hHeld := hHeld.alloc (.cells (entC iv a lv mn) 95)
  refine hK.out _ _ hHeld (fun _ => ?_)
  clear hK K
  try simp only [Act.put, List.setIfInBounds_toArray, List.set_cons_zero, List.set_cons_succ]
  generalize hWn : (wd.alloc (.cells (entC iv a lv mn) 95)) = wb at *
  clear hWn
  generalize hGn : wd.heap.size = gN at *
  clear hGn
  refine wpAnyH_ready (rs := [4]) (by kernel_rfl) (by simp) ?_
  refine AllReadyH.cons rfl (fun K hK => ?_) AllReadyH.nil
  have y1 : wb.cell? ⟨T, 1, none⟩ = some (.slice qs n cs) := TBc.out.cell 1
  go_simp
  clear y1
  refine hK.out _ _ hHeld (fun _ => ?_)
  clear hK K
  try simp only [Act.put, List.setIfInBounds_toArray, List.set_cons_zero, List.set_cons_succ]
  refine wpAnyH_ready (rs := [7]) (by kernel_rfl) (by simp) ?_
  refine AllReadyH.cons rfl (fun K hK => ?_) AllReadyH.nil
  rw [if_pos (by kernel_rfl)]
  refine wp_append_in (.tmp 50) (.tmp 52) 66 (by rfl) B1 95 i0 _ 32 312 Tryz.underlying66 hi0 hz0 hz1 hz2 (by rfl) (by decide) (.slice qs n cs) n _ (by rfl) HSc.out ⟨gN, 0, none⟩ 1 1 (entC iv a lv mn).toList (by rfl) (by rfl) (bk_cells HNB.out) (fun u hu => (Array.all_eq_true_iff_forall_mem.1 (ent_one iv a lv mn HIV.out HBO.out.one)) u (Array.mem_toList_iff.1 hu)) (by unfold maxLen; have := HN.out; omega) (by have := HN.out; omega) (by have h1 := HNB.out.lt; have h2 := HGN.out; have h3 := HB1.out; have h4 := HTL.out; have h5 := HL89.out; omega) ?_
  intro v' w9 hown' hgrow hblk
  have HWB := hidB (show w8.heap.size ≤ wb.heap.size from hHeld.size)
  replace hHeld := hHeld.grown hgrow (fun k hk => .inl (.inr hk))
  replace TBc := hidB (Bk.grown TBc.out hgrow (fun h => HSV.out T h rfl))
  obtain ⟨q2, c2, rfl⟩ := own_slice hown'
  have HOWN := hidB hown'
  have HBLK := hidB hblk
  clear hown' hgrow hblk HSc HNB HGN
  refine hK.out _ _ hHeld (fun _ => ?_)
  clear hK K
  try simp only [Act.put, List.setIfInBounds_toArray, List.set_cons_zero, List.set_cons_succ]
  first | (refine wpAnyH_take (i := 8) (v := undef) (by exact gE rfl) (by kernel_rfl) (by kernel_rfl) (by kernel_rfl) (fun _ _ _ h => h) (Or.inr ⟨?_, rfl⟩) (by assumption) ?_; (rfl); try simp only [Act.put, List.setIfInBounds_toArray, List.set_cons_zero, List.set_cons_succ]) | (refine wpAnyH_take (i := 8) (v := ?_) (by exact gE rfl) (by kernel_rfl) (by kernel_rfl) (by kernel_rfl) (fun _ _ _ h => h) (Or.inl ⟨?_, ?_⟩) (by assumption) ?_; rotate_left; (rfl); (focus (intro w hSw; (try dsimp only at hSw); go_simp; try with_reducible rfl)); try simp only [Act.put, List.setIfInBounds_toArray, List.set_cons_zero, List.set_cons_succ])
  first | (refine wpAnyH_take (i := 9) (v := undef) (by exact gE rfl) (by kernel_rfl) (by kernel_rfl) (by kernel_rfl) (fun _ _ _ h => h) (Or.inr ⟨?_, rfl⟩) (by assumption) ?_; (rfl); try simp only [Act.put, List.setIfInBounds_toArray, List.set_cons_zero, List.set_cons_succ]) | (refine wpAnyH_take (i := 9) (v := ?_) (by exact gE rfl) (by kernel_rfl) (by kernel_rfl) (by kernel_rfl) (fun _ _ _ h => h) (Or.inl ⟨?_, ?_⟩) (by assumption) ?_; rotate_left; (rfl); (focus (intro w hSw; (try dsimp only at hSw); go_simp; try with_reducible rfl)); try simp only [Act.put, List.setIfInBounds_toArray, List.set_cons_zero, List.set_cons_succ])
  refine wpAnyH_ready (rs := [10]) (by kernel_rfl) (by simp) ?_
  refine AllReadyH.cons rfl (fun K hK => ?_) AllReadyH.nil
  have y1 : w9.cell? ⟨T, 1, none⟩ = some (.slice qs n cs) := TBc.out.cell 1
  have f1 : w9.frozen? ⟨T, 1, none⟩ = false := TBc.out.free 1
  go_simp
  have HOWN2 := hidB (own_eq (w' := w9.setCell ⟨T, 1, none⟩ (.slice q2 (n + 1) c2)) HOWN.out (fun k hk => Below.heap_setCell w9 _ _ k (own_neB HOWN.out TBc.out (by decide) hk)))
  replace TBc := hidB (TBc.out.set 1 (.slice q2 (n + 1) c2))
  replace hHeld := hHeld.setCell (p := ⟨T, 1, none⟩) (.inl (.inl rfl)) (.slice q2 (n + 1) c2)
  clear y1 f1 HOWN
  refine hK.out _ _ hHeld (fun _ => ?_)
  clear hK K
  try simp only [Act.put, List.setIfInBounds_toArray, List.set_cons_zero, List.set_cons_succ]
  refine wpAnyH_done (by kernel_rfl) ?_ _
  refine NoPanic.normal ?_
  generalize hWn : (w9.setCell ⟨T, 1, none⟩ (.slice q2 (n + 1) c2)) = w10 at *
  clear hWn
  have R2 := hidB (R.out.kept hHeld (show ¬ ((w.heap.size + 1) = T ∨ (Value.slice qs n cs).ownBlock = some (w.heap.size + 1)) from fun e => e.elim (fun e => by have h1 := HTL.out; have h2 := HG9.out; omega) (fun e => by have h1 := (HSL.out _ e).2; have h2 := HG9.out; omega)))
  have X92 := hidB (X9.out.kept hHeld (show ¬ ((g9) = T ∨ (Value.slice qs n cs).ownBlock = some (g9)) from fun e => e.elim (fun e => by have h1 := HTL.out; have h2 := HG9.out; omega) (fun e => by have h1 := (HSL.out _ e).2; have h2 := HG9.out; omega)))
  have KW2 := hidB (KW.out.trans hHeld)
  have HQ2 := hidB (HQ8.out.keep hHeld.size (fun k hk => hHeld.block k (by have h1 := (HAL.out k hk).2; have h2 := HL78.out; omega) (fun e => e.elim (fun e => by have h1 := (HAL.out k hk).1; have h2 := HTL.out; have h3 := HL59.out; omega) (fun e => by have h1 := (HAL.out k hk).1; have h2 := (HSL.out k e).2; have h3 := HL59.out; omega))))
  have HW10 := hidB hHeld.size
  clear hHeld R X9 KW HQ8 X7 TB HS GW
  cases r with
  | now x =>
    obtain ⟨hiv, hO, hA⟩ := HQ2.out
    subst hiv
    subst hO
    have hkd := HBO.out.now.1
    have x0 : w10.cell? ⟨g9, 0, none⟩ = some (.int .u8 1) := by rw [← hkd]; exact X92.out.cell 0
    have qn : ∀ w : World, (binOp .neq 93 .nilIface .nilIface).run Tryz.prog w = .ok (.bool false) w := fun _ => rfl
    go_wp2_with (first | ((with_reducible refine ldId 49 (.tmp 9) ?_); refine wpList_load_row (by rfl) 49 (.tmp 9) (by rfl) (g9) (by rfl) 49 (O.cs) (0, 0) _ (by exact X92.out) Tryz.underlying49 (by rfl) (by kernel_rfl) ?_) | ((with_reducible refine stId 49 (.tmp 6) (.tmp 67) ?_); refine wpList_store_row (by rfl) 49 (.tmp 6) (.tmp 67) (by rfl) (w.heap.size + 1) (O.cs) (by rfl) (by rfl) 49 (OI.zero.cs) (by exact R2.out) (by kernel_rfl) (by rfl) (by exact OI.one _ HOK.out) ?_))
    refine bodyPost_ret (v := .agg (O.cs)) (results_cell_row Tryz.results19 _ _ (w.heap.size + 1) 49 (O.cs) (0, 0) _ rfl (R2.out.setRow _) Tryz.underlying49 rfl (by kernel_rfl)) rfl ?_
    exact ⟨.slice q2 (n + 1) c2, .nilIface, fun _ => False, rfl, TBc.out.setRow_far (by have := HTL.out; omega) _, own_eq HOWN2.out (fun k hk => heap_setRow _ (own_neB HOWN2.out R2.out (by decide) hk) _), KW2.out.setRow (g := w.heap.size + 1) (.inr (by omega)) _, rfl, fun k hk => hk.elim, fun k hk => (HBLK.out k hk).imp id (fun h => by have h1 := HWB.out; have h2 := HL89.out; omega)⟩
  | tk P =>
    obtain ⟨hO, hA, S, hP, hT⟩ := HQ2.out
    subst hO
    obtain ⟨ty, gi, rfl⟩ := hT.some
    have HP := hidB hP
    have HT := hidB hT
    clear hA hP hT
    have x0 : w10.cell? ⟨g9, 0, none⟩ = some (.int .u8 0) := X92.out.cell 0
    have qe : ∀ w : World, (binOp .eql 93 (.iface ty (ptr gi)) .nilIface).run Tryz.prog w = .ok (.bool false) w := fun _ => rfl
    have qn : ∀ w : World, (binOp .neq 93 (.iface ty (ptr gi)) .nilIface).run Tryz.prog w = .ok (.bool true) w := fun _ => rfl
    go_wp2_with (first | ((with_reducible refine wpId ?_); refine wpList_build_to (by rfl) 49 _ (by rfl) (({ OI.zero with kd := 1 } : OI).cs) (by kernel_rfl) ?_) | ((with_reducible refine stId 49 (.tmp 6) (.tmp 66) ?_); refine wpList_store_row (by rfl) 49 (.tmp 6) (.tmp 66) (by rfl) (w.heap.size + 1) (({ OI.zero with kd := 1 } : OI).cs) (by rfl) (by rfl) 49 (OI.zero.cs) (by exact R2.out) (by kernel_rfl) (by rfl) (by exact OI.one _ rfl) ?_))
    refine bodyPost_ret (v := .agg (({ OI.zero with kd := 1 } : OI).cs)) (results_cell_row Tryz.results19 _ _ (w.heap.size + 1) 49 (({ OI.zero with kd := 1 } : OI).cs) (0, 0) _ rfl (R2.out.setRow _) Tryz.underlying49 rfl (by kernel_rfl)) rfl ?_
    exact ⟨.slice q2 (n + 1) c2, .iface ty (ptr gi), A, rfl, TBc.out.setRow_far (by have := HTL.out; omega) _, own_eq HOWN2.out (fun k hk => heap_setRow _ (own_neB HOWN2.out R2.out (by decide) hk) _), KW2.out.setRow (g := w.heap.size + 1) (.inr (by omega)) _, ⟨S, HP.out, HT.out.keep (by simp [World.setRow]) (fun k hk => heap_setRow _ (by have h1 := (HAL.out k hk).1; have h3 := HL59.out; omega) _)⟩, fun k hk => ⟨by have h1 := (HAL.out k hk).1; have h3 := HL59.out; omega, by have h1 := HT.out.lt k hk; simpa [World.setRow] using h1, fun h => (HBLK.out k h).elim (fun h => by have h1 := (HSL.out k h).2; have h2 := (HAL.out k hk).1; have h3 := HL59.out; omega) (fun h => by have h1 := (HAL.out k hk).2; have h2 := HL78.out; have h3 := HWB.out; omega)⟩, fun k hk => (HBLK.out k hk).imp id (fun h => by have h1 := HWB.out; have h2 := HL89.out; omega)⟩

end Go.Proofs.YtbmaodlghglopaaGreatDoor
