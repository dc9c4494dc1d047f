/-
  Get along the prototypes: told at once, or a machine that asks the next object.
-/
import Derived.Test.YtbmaodlghglopaaGreatDoorMxA
import Derived.Test.YtbmaodlghglopaaGreatDoorTp2
namespace Go.Proofs.YtbmaodlghglopaaGreatDoor
open Go.RowKit

theorem vi_one1 (v : VI) : v.cells.toArray.all (·.oneCell') = true := by
  rw [Array.all_eq_true_iff_forall_mem]
  intro u hu
  simp only [VI.cells, List.mem_toArray, List.mem_cons, List.not_mem_nil, or_false] at hu
  rcases hu with rfl | rfl | rfl | rfl <;> rfl
/-- A machine that asks once, and comes to what is answered. -/
def onceS (a : AI) : List (OI × List KI) → Res
  | [] => .want (fun _ => methW a) []
  | e :: _ => .out e.1 e.2
def onceE (ga : Nat) (k : Nat) : Prop := k = ga
def onceC (a : AI) (ga : Nat) (w : World) : Prop := Bk w ga 34 a.cs
/-- A task in an interface value: a machine, or a trap with its machine; all of it in blocks of A. -/
def TkW (S : List (OI × List KI) → Res) (iv : Value) (q : Q) (A : Nat → Prop) (w : World) : Prop :=
  (∃ (fn : Nat) (caps : Array Value) (E : Nat → Prop) (Cap : World → Prop) (g : Nat), iv = .iface 134 (ptr g) ∧ RunF S fn caps E Cap ∧ MachW S fn caps E Cap g q A w) ∨ ∃ T, iv = .iface 115 (ptr T) ∧ TaskW S T q A w
theorem TkW.lt {S : List (OI × List KI) → Res} {iv : Value} {q : Q} {A : Nat → Prop} {w : World} (h : TkW S iv q A w) : ∀ k, A k → k < w.heap.size := by
  rcases h with ⟨_, _, _, _, _, _, _, hM⟩ | ⟨_, _, hT⟩
  · exact hM.lt
  · exact hT.lt
theorem TkW.keep {S : List (OI × List KI) → Res} {iv : Value} {q : Q} {A : Nat → Prop} {w w' : World} (h : TkW S iv q A w) (hs : w.heap.size ≤ w'.heap.size) (hb : ∀ k, A k → w'.heap[k]? = w.heap[k]?) : TkW S iv q A w' := by
  rcases h with ⟨fn, caps, E, Cap, g, h1, hF, hM⟩ | ⟨T, h1, hT⟩
  · exact .inl ⟨fn, caps, E, Cap, g, h1, hF, hM.keep hF hs hb⟩
  · exact .inr ⟨T, h1, hT.keep hs hb⟩
theorem TkW.on {S : List (OI × List KI) → Res} {iv : Value} {q : Q} {A : Nat → Prop} {w w' : World} (h : TkW S iv q A w) (hb : Below w.heap.size w w') : TkW S iv q A w' := h.keep hb.size fun k ha => hb.block k (h.lt k ha)
theorem TkW.some {S : List (OI × List KI) → Res} {iv : Value} {q : Q} {A : Nat → Prop} {w : World} (h : TkW S iv q A w) : ∃ t g, iv = .iface t (ptr g) := by
  rcases h with ⟨_, _, _, _, _, h1, _⟩ | ⟨_, h1, _⟩
  · exact ⟨_, _, h1⟩
  · exact ⟨_, _, h1⟩
/-- What going on comes to. -/
def TkC (S : List (OI × List KI) → Res) (iv : Value) (q : Q) (A : Nat → Prop) (x : OI) (ks : List KI) (w : World) (e : Ending) (w' : World) : Prop :=
  ∃ (wt : WI) (n : Int), e = .returned (.tuple #[wt.a, .int .i64 n]) ∧ wt.cs.all (·.oneCell') = true ∧ match nextQ S x ks q with
    | none => n = 160 ∧ wt = WI.zero ∧ Below w.heap.size w w'
    | some L => n = 0 ∧ ∃ mid, w.heap.size ≤ mid ∧ WantR (S L) mid wt w' ∧ Kept A w w' ∧ TkW S iv ((S L).q L) (fun k => A k ∨ (w.heap.size ≤ k ∧ k < mid)) w'
/-- The method that an interface value leads to. -/
theorem tk_next {S : List (OI × List KI) → Res} {iv : Value} {q : Q} {A : Nat → Prop} (x : OI) (ks : List KI) (w : World) (h : TkW S iv q A w) (hq : q.few) (hx : x.d.ok) (h0 : 0 ≤ x.v.k) (hr : RdL KI.cells 2 ks x.keys w) (hgd : ∀ L, nextQ S x ks q = some L → (S L).good) :
    (∃ g, iv = .iface 134 (ptr g) ∧ Calls Tryz.prog 220 #[ptr g, x.a] w (TkC S iv q A x ks w)) ∨ ∃ T, iv = .iface 115 (ptr T) ∧ Calls Tryz.prog 219 #[ptr T, x.a] w (TkC S iv q A x ks w) := by
  rcases h with ⟨fn, caps, E, Cap, g, h1, hF, hM⟩ | ⟨T, h1, hT⟩
  · refine .inl ⟨g, h1, (mach_next hF g q A x ks w hM hq hx h0 hr hgd).mono ?_⟩
    rintro e w' ⟨wt, n, he, hone, hn⟩
    refine ⟨wt, n, he, hone, ?_⟩
    unfold NextC at hn
    cases hL : nextQ S x ks q with
    | none => rw [hL] at hn; exact hn
    | some L =>
      rw [hL] at hn
      obtain ⟨a, mid, b, c, d, e⟩ := hn
      exact ⟨a, mid, b, c, d, .inl ⟨fn, caps, E, Cap, g, h1, hF, e⟩⟩
  · refine .inr ⟨T, h1, (task_next S T q A x ks w hT hq hx h0 hr hgd).mono ?_⟩
    rintro e w' ⟨wt, n, he, hone, hn⟩
    refine ⟨wt, n, he, hone, ?_⟩
    unfold TNextC at hn
    cases hL : nextQ S x ks q with
    | none => rw [hL] at hn; exact hn
    | some L =>
      rw [hL] at hn
      obtain ⟨a, mid, b, c, d, e⟩ := hn
      exact ⟨a, mid, b, c, d, .inr ⟨T, h1, e⟩⟩

set_option maxHeartbeats 8000000 in
set_option maxRecDepth 100000 in
theorem once1_any (a : AI) (ha : a.args.oneCell' = true) (ga p : Nat) (ans : Value) (wt : WI) (L : List (OI × List KI)) (w : World) (hC : Bk w ga 34 a.cs) (hP : Bk w p 218 (playC ans 0 wt)) (hA : AnsR p L ans w) : Calls Tryz.prog 78 #[.pointer (some ⟨p, 0, none⟩), .pointer (some ⟨ga, 0, none⟩)] w fun e w' => ∃ O : OI, e = .returned O.a ∧ O.keys.oneCell' = true ∧ Kept (fun q => q = p) w w' ∧ RunR (onceS a L) p w.heap.size O w' := by
  have HPL := hidB hP.lt
  have R := hidB (show Bk (w.alloc (.cells (#[.int .u8 0, .int .u8 0, .float .f64 0, .string ⟨#[]⟩, .int .i64 0, .bool false, .bool false, .int .u8 0, .int .u8 0, .float .f64 0, .string ⟨#[]⟩, .int .i64 0, .int .u8 0, .float .f64 0, .string ⟨#[]⟩, .int .i64 0, .int .u8 0, .float .f64 0, .string ⟨#[]⟩, .int .i64 0, .bool false, .bool false, .bool false, .slice none 0 0, .int .u8 0, .string ⟨#[]⟩]) 49)) (w.heap.size) 49 (OI.zero.cs) from Bk.new w _ _)
  have B := hidB (show Below w.heap.size w (w.alloc (.cells (#[.int .u8 0, .int .u8 0, .float .f64 0, .string ⟨#[]⟩, .int .i64 0, .bool false, .bool false, .int .u8 0, .int .u8 0, .float .f64 0, .string ⟨#[]⟩, .int .i64 0, .int .u8 0, .float .f64 0, .string ⟨#[]⟩, .int .i64 0, .int .u8 0, .float .f64 0, .string ⟨#[]⟩, .int .i64 0, .bool false, .bool false, .bool false, .slice none 0 0, .int .u8 0, .string ⟨#[]⟩]) 49)) from box_one w _)
  have PF := hidB (show Bk (w.alloc (.cells (#[.int .u8 0, .int .u8 0, .float .f64 0, .string ⟨#[]⟩, .int .i64 0, .bool false, .bool false, .int .u8 0, .int .u8 0, .float .f64 0, .string ⟨#[]⟩, .int .i64 0, .int .u8 0, .float .f64 0, .string ⟨#[]⟩, .int .i64 0, .int .u8 0, .float .f64 0, .string ⟨#[]⟩, .int .i64 0, .bool false, .bool false, .bool false, .slice none 0 0, .int .u8 0, .string ⟨#[]⟩]) 49)) p 218 (playC ans 0 wt) from hP.alloc _)
  have CF := hidB (show Bk (w.alloc (.cells (#[.int .u8 0, .int .u8 0, .float .f64 0, .string ⟨#[]⟩, .int .i64 0, .bool false, .bool false, .int .u8 0, .int .u8 0, .float .f64 0, .string ⟨#[]⟩, .int .i64 0, .int .u8 0, .float .f64 0, .string ⟨#[]⟩, .int .i64 0, .int .u8 0, .float .f64 0, .string ⟨#[]⟩, .int .i64 0, .bool false, .bool false, .bool false, .slice none 0 0, .int .u8 0, .string ⟨#[]⟩]) 49)) ga 34 a.cs from hC.alloc _)
  have KW := hidB (show Kept (fun q => q = p) w (w.alloc (.cells (#[.int .u8 0, .int .u8 0, .float .f64 0, .string ⟨#[]⟩, .int .i64 0, .bool false, .bool false, .int .u8 0, .int .u8 0, .float .f64 0, .string ⟨#[]⟩, .int .i64 0, .int .u8 0, .float .f64 0, .string ⟨#[]⟩, .int .i64 0, .int .u8 0, .float .f64 0, .string ⟨#[]⟩, .int .i64 0, .bool false, .bool false, .bool false, .slice none 0 0, .int .u8 0, .string ⟨#[]⟩]) 49)) from (Kept.refl _ w).alloc _)
  have AF := hidB (fun W (h : Kept (fun q => q = p) w W) => hA.kept h)
  have AK := hidB hA.keys
  clear hP hA hC
  go_enter Tryz.func78, Tryz.ntmps78
  go_upto_region 1 with fail
  generalize hW : (w.alloc (.cells (#[.int .u8 0, .int .u8 0, .float .f64 0, .string ⟨#[]⟩, .int .i64 0, .bool false, .bool false, .int .u8 0, .int .u8 0, .float .f64 0, .string ⟨#[]⟩, .int .i64 0, .int .u8 0, .float .f64 0, .string ⟨#[]⟩, .int .i64 0, .int .u8 0, .float .f64 0, .string ⟨#[]⟩, .int .i64 0, .bool false, .bool false, .bool false, .slice none 0 0, .int .u8 0, .string ⟨#[]⟩]) 49)) = w1 at *
  clear hW
  go_wp2_with (first | ((with_reducible refine ldId 34 (.tmp 1) ?_); refine wpList_load_row (by rfl) 34 (.tmp 1) (by rfl) (ga) (by rfl) 34 (a.cs) (0, 0) _ (by exact CF.out) Tryz.underlying34 (by rfl) (by kernel_rfl) ?_))
  refine (method_any a ha p ans 0 wt L w1 (by decide) PF.out (AF.out _ KW.out)).mono ?_; rintro e w2 ⟨O, rfl, hkp, hres⟩
  have HO := hidB hres.one
  have HOK := hidB hres.key
  have HRES := hidB hres
  have HLT := hidB R.out.lt
  replace R := hidB (R.out.kept hkp (by have := HPL.out; omega))
  replace KW := hidB (KW.out.trans hkp)
  have HSZ := hidB B.out.size
  clear hres hkp
  go_wp2_with (first | ((with_reducible refine stId 49 (.tmp 3) (.tmp 6) ?_); refine wpList_store_row (by rfl) 49 (.tmp 3) (.tmp 6) (by rfl) (w.heap.size) (O.cs) (by rfl) (by rfl) 49 (OI.zero.cs) (by exact R.out) (by kernel_rfl) (by rfl) (by exact HO.out) ?_))
  have hfin : RunR (onceS a L) p w.heap.size O (w2.setRow (w.heap.size) O.cs) := by
    rcases (HRES.out.setRow (g := w.heap.size) (by have := HLT.out; omega) (by have := HPL.out; omega) O.cs).lower HSZ.out with ⟨hl, kv, he, h, h'⟩ | ⟨h1, he, h3⟩
    · cases L with
      | nil => exact absurd hl (by simp)
      | cons e L =>
        have hk := AK.out e (by simp)
        exact ⟨by rcases hk.2.2.2 with h | h <;> omega, hk.2.1, kv, he, h⟩
    · cases L with
      | nil => subst he; exact ⟨rfl, vNil, ans, _, World.ownsRow_nil _ _ _ _, h3⟩
      | cons e L => exact absurd h1 (by simp)
  exact bodyPost_ret (v := .agg (O.cs)) (results_cell_row Tryz.results78 _ _ (w.heap.size) 49 (O.cs) (0, 0) _ rfl (R.out.setRow _) Tryz.underlying49 rfl (by kernel_rfl)) rfl (show ∃ O' : OI, Ending.returned O.a = .returned O'.a ∧ _ from ⟨O, rfl, HOK.out, KW.out.setRow (g := w.heap.size) (.inr (Nat.le_refl _)) O.cs, hfin⟩)

theorem runF_once (a : AI) (ha : a.args.oneCell' = true) (ga : Nat) : RunF (onceS a) 78 #[ptr ga] (onceE ga) (onceC a ga) where
  run := fun p ans wt L w hC _ hP hA _ => once1_any a ha ga p ans wt L w hC hP hA
  body := fun args w => by kernel_rfl
  keep := fun w w' h _ hb => (hb ga rfl).trans h
  typ := fun w k h hk => by
    obtain rfl : k = ga := hk
    exact ⟨a.cs, 34, (0, 0), h, by decide, by decide, by decide⟩
  strip := fun L => by cases L <;> rfl
  km := fun L W l h av => by
    cases L with
    | nil => injection h with h1 h2; subst h1; exact ⟨rfl, rfl, fun _ => ⟨ha, rfl, rfl, rfl⟩⟩
    | cons e L => cases h
/-- What Get tells of an object at once; none: the prototype is asked. -/
def alongV (e : OJ × List PI) (k : KI) : Option VI := match findP e.2 k with
  | some q => some q.d.v
  | none => if isObj e.1.pr.k then none else some VI.zero
/-- The ask for its own property. -/
def ownA (a : AI) : AI := { AI.zero with m := 5, ob := a.ob, k := a.k }
def AlongR (e0 : OJ × List PI) (a : AI) (w : World) (e : Ending) (w' : World) : Prop := Below w.heap.size w w' ∧ match alongV e0 a.k with
  | some v => e = .returned (.tuple #[.nilIface, (doneI v).a])
  | none => ∃ iv A, e = .returned (.tuple #[iv, OI.zero.a]) ∧ TkW (onceS { a with ob := e0.1.pr.r }) iv .fresh A w' ∧ ∀ k, A k → w.heap.size ≤ k
set_option maxHeartbeats 8000000 in
set_option maxRecDepth 100000 in
theorem along8_any (h : HI) (hv : Value) (n : Nat) (hn : n < h.length) (hk : (h[n]'hn).1.kd ≠ 3) (a : AI) (ha : a.args.oneCell' = true) (hm : a.m = 8) (ho : a.ob = n) (hd : ∀ q, findP (h[n]'hn).2 a.k = some q → (bits .and .u8 q.d.has 3 != 0) = true ∧ (bits .and .u8 q.d.has 12 != 0) = false) (gw : Nat) (w : World) (hw : Bk w gw 65 #[hv]) (hr : RdH h hv w) : Calls Tryz.prog 58 #[.pointer (some ⟨gw, 0, none⟩), a.a] w (AlongR (h[n]'hn) a w) := by
  have HDO := hidB (fun W (hW : Bk W gw 65 #[hv]) (hR : RdH h hv W) => does5_any h hv n hn hk (ownA a) rfl ho gw W hW hR)
  have HRD := hidB (fun W (hb : Below w.heap.size w W) => hr.on hb)
  obtain ⟨g, o, c, rfl, hlm, hj⟩ := hr.obj hn
  have HJ := hidB hj
  unfold maxLen at hlm
  have hlm2 : h.length ≤ 9223372036854775807 := by omega
  clear hr hj hlm
  have hn0 : (0 : Int) ≤ (n : Int) := by omega
  have hn1 : (n : Int) < (h.length : Int) := by omega
  generalize (h[n]'hn) = e0 at *
  have Y := hidB (show Bk ((w.alloc (.cells (a.cs) 34)).alloc (.cells (#[.int .u8 0, .int .u8 0, .float .f64 0, .string ⟨#[]⟩, .int .i64 0, .bool false, .bool false, .int .u8 0, .int .u8 0, .float .f64 0, .string ⟨#[]⟩, .int .i64 0, .int .u8 0, .float .f64 0, .string ⟨#[]⟩, .int .i64 0, .int .u8 0, .float .f64 0, .string ⟨#[]⟩, .int .i64 0, .bool false, .bool false, .bool false, .slice none 0 0, .int .u8 0, .string ⟨#[]⟩]) 49)) (w.heap.size) 34 (a.cs) from (Bk.new w _ _).alloc _)
  have R := hidB (show Bk ((w.alloc (.cells (a.cs) 34)).alloc (.cells (#[.int .u8 0, .int .u8 0, .float .f64 0, .string ⟨#[]⟩, .int .i64 0, .bool false, .bool false, .int .u8 0, .int .u8 0, .float .f64 0, .string ⟨#[]⟩, .int .i64 0, .int .u8 0, .float .f64 0, .string ⟨#[]⟩, .int .i64 0, .int .u8 0, .float .f64 0, .string ⟨#[]⟩, .int .i64 0, .bool false, .bool false, .bool false, .slice none 0 0, .int .u8 0, .string ⟨#[]⟩]) 49)) (w.heap.size + 1) 49 (OI.zero.cs) from Bk.new2 w _ _ _)
  have B := hidB (show Below w.heap.size w ((w.alloc (.cells (a.cs) 34)).alloc (.cells (#[.int .u8 0, .int .u8 0, .float .f64 0, .string ⟨#[]⟩, .int .i64 0, .bool false, .bool false, .int .u8 0, .int .u8 0, .float .f64 0, .string ⟨#[]⟩, .int .i64 0, .int .u8 0, .float .f64 0, .string ⟨#[]⟩, .int .i64 0, .int .u8 0, .float .f64 0, .string ⟨#[]⟩, .int .i64 0, .bool false, .bool false, .bool false, .slice none 0 0, .int .u8 0, .string ⟨#[]⟩]) 49)) from (box_one w _).alloc (by simp) _)
  have GW := hidB (show Bk ((w.alloc (.cells (a.cs) 34)).alloc (.cells (#[.int .u8 0, .int .u8 0, .float .f64 0, .string ⟨#[]⟩, .int .i64 0, .bool false, .bool false, .int .u8 0, .int .u8 0, .float .f64 0, .string ⟨#[]⟩, .int .i64 0, .int .u8 0, .float .f64 0, .string ⟨#[]⟩, .int .i64 0, .int .u8 0, .float .f64 0, .string ⟨#[]⟩, .int .i64 0, .bool false, .bool false, .bool false, .slice none 0 0, .int .u8 0, .string ⟨#[]⟩]) 49)) gw 65 #[(.slice (some ⟨g, o, none⟩) h.length c)] from (hw.alloc _).alloc _)
  have HM := hidB hm
  have HO := hidB ho
  have HA := hidB ha
  have HD := hidB hd
  clear hw hm ho hk ha hd
  go_enter Tryz.func58, Tryz.ntmps58
  go_upto_region 1 with fail
  generalize hW : ((w.alloc (.cells (a.cs) 34)).alloc (.cells (#[.int .u8 0, .int .u8 0, .float .f64 0, .string ⟨#[]⟩, .int .i64 0, .bool false, .bool false, .int .u8 0, .int .u8 0, .float .f64 0, .string ⟨#[]⟩, .int .i64 0, .int .u8 0, .float .f64 0, .string ⟨#[]⟩, .int .i64 0, .int .u8 0, .float .f64 0, .string ⟨#[]⟩, .int .i64 0, .bool false, .bool false, .bool false, .slice none 0 0, .int .u8 0, .string ⟨#[]⟩]) 49)) = w1 at *
  clear hW
  replace HJ := hidB (HJ.out.on B.out)
  have y1 : w1.cell? ⟨w.heap.size, 1, none⟩ = some (.int .i64 a.ob) := Y.out.cell 1
  go_wp2_with (first | ((with_reducible refine ldId 26 (.tmp 12) ?_); refine wpList_load_mid (by rfl) 26 (.tmp 12) (by rfl) (w.heap.size) 2 (by rfl) (a.k.cells) _ (by exact Bk.mid Y.out 2 _ rfl) Tryz.underlying26 (by rfl) (by kernel_rfl) ?_) | ((with_reducible refine wpId ?_); refine wpList_build_to (by rfl) 34 _ (by rfl) ((ownA a).cs) (by kernel_rfl) ?_))
  refine (HDO.out _ GW.out (HRD.out _ B.out)).mono ?_; rintro e w2 ⟨rfl, hb⟩
  clear HDO y1
  replace Y := hidB (Y.out.on hb)
  replace R := hidB (R.out.on hb)
  replace HJ := hidB (HJ.out.on hb)
  replace GW := hidB (GW.out.on hb)
  replace B := hidB (B.out.trans (hb.mono B.out.size))
  clear hb
  obtain ⟨O1, hO1⟩ : ∃ q, ownI e0 (ownA a).k = q := ⟨_, rfl⟩
  have HO1 := hidB (show ownI e0 a.k = O1 from hO1)
  have HOK := hidB (hO1 ▸ ownI_key e0 (ownA a).k : O1.keys.oneCell' = true)
  rw [hO1]
  clear hO1
  have X6 := hidB (show Bk (w2.alloc (.cells (O1.cs) 49)) w2.heap.size 49 (O1.cs) from Bk.new w2 _ _)
  replace Y := hidB (Y.out.alloc (.cells (O1.cs) 49))
  replace R := hidB (R.out.alloc (.cells (O1.cs) 49))
  replace GW := hidB (GW.out.alloc (.cells (O1.cs) 49))
  replace HJ := hidB (HJ.out.on (box_one w2 (.cells (O1.cs) 49)))
  have Hg6 := hidB B.out.size
  replace B := hidB (show Below w.heap.size w (w2.alloc (.cells (O1.cs) 49)) from B.out.alloc B.out.size _)
  go_upto_region 2 with (first | ((with_reducible refine wpId ?_); refine wpList_store_new (by rfl) 49 (.tmp 6) (.tmp 15) (by rfl) (O1.cs) 49 _ (by rfl) (by rfl) (by kernel_rfl) (by rfl) (by exact OI.one _ HOK.out) ?_))
  generalize hW : (w2.alloc (.cells (O1.cs) 49)) = w3 at *
  generalize hG : w2.heap.size = g6 at *
  clear hW hG
  have X6o := hidB X6.out
  have X7 := hidB (show Bk (w3.alloc (.cells (O1.d.cs) 31)) w3.heap.size 31 (O1.d.cs) from Bk.new w3 _ _)
  replace Y := hidB (Y.out.alloc (.cells (O1.d.cs) 31))
  replace R := hidB (R.out.alloc (.cells (O1.d.cs) 31))
  replace GW := hidB (GW.out.alloc (.cells (O1.d.cs) 31))
  replace X6 := hidB (X6.out.alloc (.cells (O1.d.cs) 31))
  replace HJ := hidB (HJ.out.on (box_one w3 (.cells (O1.d.cs) 31)))
  have Hg7 := hidB B.out.size
  replace B := hidB (show Below w.heap.size w (w3.alloc (.cells (O1.d.cs) 31)) from B.out.alloc B.out.size _)
  go_upto_region 3 with (first | ((with_reducible refine ldId 31 (.tmp 16) ?_); refine wpList_load_mid (by rfl) 31 (.tmp 16) (by rfl) (g6) 7 (by rfl) (O1.d.cs.toList) _ (by exact Bk.mid X6o.out 7 _ rfl) Tryz.underlying31 (by rfl) (by kernel_rfl) ?_) | ((with_reducible refine wpId ?_); refine wpList_store_new (by rfl) 31 (.tmp 7) (.tmp 17) (by rfl) (O1.d.cs) 31 _ (by rfl) (by rfl) (by kernel_rfl) (by rfl) (by exact DI.one _) ?_))
  clear X6o
  generalize hW : (w3.alloc (.cells (O1.d.cs) 31)) = w4 at *
  generalize hG : w3.heap.size = g7 at *
  clear hW hG
  refine wp_region_noPanic ?_
  refine wp_region_held_drew (S := fun W => Below w.heap.size w W ∧ Below w4.heap.size w4 W) (by kernel_rfl) ?_ (fun hHeld => ?_)
  · exact ⟨B.out.drew, (Below.refl _ _).drew⟩
  generalize hWd : w4.drew = wd at *
  clear hWd
  first | (refine wpAnyH_take (i := 0) (v := undef) (by exact gE rfl) (by kernel_rfl) (by kernel_rfl) (by kernel_rfl) (fun _ _ _ h => h) (Or.inr ⟨?_, rfl⟩) (by assumption) ?_; (rfl); try simp only [Act.put, List.setIfInBounds_toArray, List.set_cons_zero, List.set_cons_succ]) | (refine wpAnyH_take (i := 0) (v := ?_) (by exact gE rfl) (by kernel_rfl) (by kernel_rfl) (by kernel_rfl) (fun _ _ _ h => h) (Or.inl ⟨?_, ?_⟩) (by assumption) ?_; rotate_left; (rfl); (focus (intro w hSw; (try dsimp only at hSw); go_simp; try with_reducible rfl)); try simp only [Act.put, List.setIfInBounds_toArray, List.set_cons_zero, List.set_cons_succ])
  first | (refine wpAnyH_take (i := 1) (v := undef) (by exact gE rfl) (by kernel_rfl) (by kernel_rfl) (by kernel_rfl) (fun _ _ _ h => h) (Or.inr ⟨?_, rfl⟩) (by assumption) ?_; (rfl); try simp only [Act.put, List.setIfInBounds_toArray, List.set_cons_zero, List.set_cons_succ]) | (refine wpAnyH_take (i := 1) (v := ?_) (by exact gE rfl) (by kernel_rfl) (by kernel_rfl) (by kernel_rfl) (fun _ _ _ h => h) (Or.inl ⟨?_, ?_⟩) (by assumption) ?_; rotate_left; (rfl); (focus (intro w hSw; (try dsimp only at hSw); go_simp; try with_reducible rfl)); try simp only [Act.put, List.setIfInBounds_toArray, List.set_cons_zero, List.set_cons_succ])
  first | (refine wpAnyH_take (i := 2) (v := undef) (by exact gE rfl) (by kernel_rfl) (by kernel_rfl) (by kernel_rfl) (fun _ _ _ h => h) (Or.inr ⟨?_, rfl⟩) (by assumption) ?_; (rfl); try simp only [Act.put, List.setIfInBounds_toArray, List.set_cons_zero, List.set_cons_succ]) | (refine wpAnyH_take (i := 2) (v := ?_) (by exact gE rfl) (by kernel_rfl) (by kernel_rfl) (by kernel_rfl) (fun _ _ _ h => h) (Or.inl ⟨?_, ?_⟩) (by assumption) ?_; rotate_left; (rfl); (focus (intro w hSw; (try dsimp only at hSw); go_simp; try with_reducible rfl)); try simp only [Act.put, List.setIfInBounds_toArray, List.set_cons_zero, List.set_cons_succ])
  first | (refine wpAnyH_take (i := 3) (v := undef) (by exact gE rfl) (by kernel_rfl) (by kernel_rfl) (by kernel_rfl) (fun _ _ _ h => h) (Or.inr ⟨?_, rfl⟩) (by assumption) ?_; (rfl); try simp only [Act.put, List.setIfInBounds_toArray, List.set_cons_zero, List.set_cons_succ]) | (refine wpAnyH_take (i := 3) (v := ?_) (by exact gE rfl) (by kernel_rfl) (by kernel_rfl) (by kernel_rfl) (fun _ _ _ h => h) (Or.inl ⟨?_, ?_⟩) (by assumption) ?_; rotate_left; (rfl); (focus (intro w hSw; (try dsimp only at hSw); go_simp; try with_reducible rfl)); try simp only [Act.put, List.setIfInBounds_toArray, List.set_cons_zero, List.set_cons_succ])
  first | (refine wpAnyH_take (i := 4) (v := undef) (by exact gE rfl) (by kernel_rfl) (by kernel_rfl) (by kernel_rfl) (fun _ _ _ h => h) (Or.inr ⟨?_, rfl⟩) (by assumption) ?_; (rfl); try simp only [Act.put, List.setIfInBounds_toArray, List.set_cons_zero, List.set_cons_succ]) | (refine wpAnyH_take (i := 4) (v := ?_) (by exact gE rfl) (by kernel_rfl) (by kernel_rfl) (by kernel_rfl) (fun _ _ _ h => h) (Or.inl ⟨?_, ?_⟩) (by assumption) ?_; rotate_left; (rfl); (focus (intro W hSw; have hc0 := (show W.cell? ⟨gw, 0, none⟩ = some ((.slice (some ⟨g, o, none⟩) h.length c)) from (GW.out.on hSw.2).cell 0); clear hSw; go_simp; try with_reducible rfl)); try simp only [Act.put, List.setIfInBounds_toArray, List.set_cons_zero, List.set_cons_succ])
  first | (refine wpAnyH_take (i := 5) (v := undef) (by exact gE rfl) (by kernel_rfl) (by kernel_rfl) (by kernel_rfl) (fun _ _ _ h => h) (Or.inr ⟨?_, rfl⟩) (by assumption) ?_; (rfl); try simp only [Act.put, List.setIfInBounds_toArray, List.set_cons_zero, List.set_cons_succ]) | (refine wpAnyH_take (i := 5) (v := ?_) (by exact gE rfl) (by kernel_rfl) (by kernel_rfl) (by kernel_rfl) (fun _ _ _ h => h) (Or.inl ⟨?_, ?_⟩) (by assumption) ?_; rotate_left; (rfl); (focus (intro w hSw; (try dsimp only at hSw); go_simp; try with_reducible rfl)); try simp only [Act.put, List.setIfInBounds_toArray, List.set_cons_zero, List.set_cons_succ])
  first | (refine wpAnyH_take (i := 6) (v := undef) (by exact gE rfl) (by kernel_rfl) (by kernel_rfl) (by kernel_rfl) (fun _ _ _ h => h) (Or.inr ⟨?_, rfl⟩) (by assumption) ?_; (rfl); try simp only [Act.put, List.setIfInBounds_toArray, List.set_cons_zero, List.set_cons_succ]) | (refine wpAnyH_take (i := 6) (v := ?_) (by exact gE rfl) (by kernel_rfl) (by kernel_rfl) (by kernel_rfl) (fun _ _ _ h => h) (Or.inl ⟨?_, ?_⟩) (by assumption) ?_; rotate_left; (rfl); (focus (intro W hSw; have hc0 := (show W.cell? ⟨w.heap.size, 1, none⟩ = some (.int .i64 (n : Int)) from by rw [← HO.out]; exact (Y.out.on hSw.2).cell 1); clear hSw; go_simp; try with_reducible rfl)); try simp only [Act.put, List.setIfInBounds_toArray, List.set_cons_zero, List.set_cons_succ])
  first | (refine wpAnyH_take (i := 7) (v := undef) (by exact gE rfl) (by kernel_rfl) (by kernel_rfl) (by kernel_rfl) (fun _ _ _ h => h) (Or.inr ⟨?_, rfl⟩) (by assumption) ?_; (rfl); try simp only [Act.put, List.setIfInBounds_toArray, List.set_cons_zero, List.set_cons_succ]) | (refine wpAnyH_take (i := 7) (v := ?_) (by exact gE rfl) (by kernel_rfl) (by kernel_rfl) (by kernel_rfl) (fun _ _ _ h => h) (Or.inl ⟨?_, ?_⟩) (by assumption) ?_; rotate_left; (rfl); (focus (intro w hSw; (try dsimp only at hSw); go_simp; try with_reducible rfl)); try simp only [Act.put, List.setIfInBounds_toArray, List.set_cons_zero, List.set_cons_succ])
  first | (refine wpAnyH_take (i := 8) (v := undef) (by exact gE rfl) (by kernel_rfl) (by kernel_rfl) (by kernel_rfl) (fun _ _ _ h => h) (Or.inr ⟨?_, rfl⟩) (by assumption) ?_; (rfl); try simp only [Act.put, List.setIfInBounds_toArray, List.set_cons_zero, List.set_cons_succ]) | (refine wpAnyH_take (i := 8) (v := ?_) (by exact gE rfl) (by kernel_rfl) (by kernel_rfl) (by kernel_rfl) (fun _ _ _ h => h) (Or.inl ⟨?_, ?_⟩) (by assumption) ?_; rotate_left; (rfl); (focus (intro w hSw; (try dsimp only at hSw); go_simp; try with_reducible rfl)); try simp only [Act.put, List.setIfInBounds_toArray, List.set_cons_zero, List.set_cons_succ])
  (refine wpAnyH_take (i := 9) (v := e0.1.pr.a) (by exact gE rfl) (by kernel_rfl) (by kernel_rfl) (by kernel_rfl) (fun _ _ _ h => h) (yieldsIf_load_mid (by rfl) 29 (.tmp 26) (by rfl) (g) (o + n * 18 + 1) (by rfl) (e0.1.pr.cells) _ (fun W hS => range_field ((HJ.out.on hS.2).row) 1 4) Tryz.underlying29 (by rfl) (by kernel_rfl)) (by assumption) ?_; try simp only [Act.put, List.setIfInBounds_toArray, List.set_cons_zero, List.set_cons_succ])
  refine wpAnyH_ready (rs := [10]) (by kernel_rfl) (by simp) ?_
  refine AllReadyH.cons rfl (fun K hK => ?_) AllReadyH.nil
  go_simp
  have X8 := hidB (Bk.new wd 29 (#[.int .u8 0, .float .f64 0, .string ⟨#[]⟩, .int .i64 0]))
  have HGX8 := hidB hHeld.1.size
  have HHX8 := hidB hHeld.2.size
  replace hHeld := And.intro (hHeld.1.alloc hHeld.1.size (.cells (#[.int .u8 0, .float .f64 0, .string ⟨#[]⟩, .int .i64 0]) 29)) (hHeld.2.alloc hHeld.2.size (.cells (#[.int .u8 0, .float .f64 0, .string ⟨#[]⟩, .int .i64 0]) 29))
  refine hK.out _ _ hHeld (fun _ => ?_)
  clear hK K
  try simp only [Act.put, List.setIfInBounds_toArray, List.set_cons_zero, List.set_cons_succ]
  generalize hWn : (wd.alloc (.cells (#[.int .u8 0, .float .f64 0, .string ⟨#[]⟩, .int .i64 0]) 29)) = wa at *
  clear hWn
  generalize hGn : wd.heap.size = g8 at *
  clear hGn
  refine wpAnyH_ready (rs := [11]) (by kernel_rfl) (by simp) ?_
  refine AllReadyH.cons rfl (fun K hK => ?_) AllReadyH.nil
  rw [if_pos (by kernel_rfl)]
  refine wp_store_row 29 (.tmp 8) (.tmp 27) (by rfl) (g8) (e0.1.pr.cells.toArray) (by rfl) (by rfl) 29 (#[.int .u8 0, .float .f64 0, .string ⟨#[]⟩, .int .i64 0]) (by exact X8.out) (by kernel_rfl) (by rfl) (by exact vi_one1 e0.1.pr) ?_
  replace X8 := hidB (X8.out.setRow (e0.1.pr.cells.toArray))
  replace hHeld := And.intro (below_setRow hHeld.1 HGX8.out (e0.1.pr.cells.toArray)) (below_setRow hHeld.2 HHX8.out (e0.1.pr.cells.toArray))
  refine put_none_K (by first | rfl | kernel_rfl) ?_
  refine hK.out _ _ hHeld (fun _ => ?_)
  clear hK K
  generalize hWn : wa.setRow g8 (e0.1.pr.cells.toArray) = w5 at *
  clear hWn
  refine wpAnyH_done (by kernel_rfl) ?_ _
  refine NoPanic.normal ?_
  replace Y := hidB (Y.out.on hHeld.2)
  replace R := hidB (R.out.on hHeld.2)
  replace HJ := hidB (HJ.out.on hHeld.2)
  replace GW := hidB (GW.out.on hHeld.2)
  replace X6 := hidB (X6.out.on hHeld.2)
  replace X7 := hidB (X7.out.on hHeld.2)
  have B := hidB hHeld.1
  have Hg8 := hidB HGX8.out
  clear hHeld HGX8 HHX8
  have x6 : w5.cell? ⟨g6, 6, none⟩ = some (.bool O1.fo) := X6.out.cell 6
  have y0 : w5.cell? ⟨w.heap.size, 0, none⟩ = some (.int .u8 8) := by rw [← HM.out]; exact Y.out.cell 0
  have z3 : w5.cell? ⟨g8, 3, none⟩ = some (.int .i64 e0.1.pr.r) := X8.out.cell 3
  cases hf : findP e0.2 a.k with
  | none =>
    have HE := hidB (show O1 = { OI.zero with kd := 1 } from HO1.out.symm.trans (by unfold ownI; rw [hf]))
    have HV := hidB (show alongV e0 a.k = if isObj e0.1.pr.k then none else some VI.zero by unfold alongV; rw [hf])
    clear hf HD
    rw [HE.out] at x6
    skip
    go_wp2_with (first | ((with_reducible refine ldId 29 (.tmp 8) ?_); refine wpList_wload_mid 29 (.tmp 8) (by rfl) (by rfl) (g8) 0 (by rfl) (e0.1.pr.cells) _ (by exact Bk.mid X8.out 0 _ rfl) Tryz.underlying29 (by rfl) (by kernel_rfl) ?_))
    refine (isObjB_any e0.1.pr _).mono ?_; rintro e w6 ⟨rfl, hb⟩
    replace Y := hidB (Y.out.on hb)
    replace R := hidB (R.out.on hb)
    replace X6 := hidB (X6.out.on hb)
    replace X7 := hidB (X7.out.on hb)
    replace X8 := hidB (X8.out.on hb)
    replace GW := hidB (GW.out.on hb)
    replace B := hidB (B.out.trans (hb.mono B.out.size))
    clear hb
    replace y0 : w6.cell? ⟨w.heap.size, 0, none⟩ = some (.int .u8 8) := by rw [← HM.out]; exact Y.out.cell 0
    replace x6 : w6.cell? ⟨g6, 6, none⟩ = some (.bool false) := by have := X6.out.cell 6; rw [HE.out] at this; exact this
    replace z3 : w6.cell? ⟨g8, 3, none⟩ = some (.int .i64 e0.1.pr.r) := X8.out.cell 3
    cases hob : isObj e0.1.pr.k
    · have HVV := hidB (show alongV e0 a.k = some VI.zero by rw [HV.out, hob]; rfl)
      clear hob
      go_wp2_with fail
      skip
      refine (doneI_any VI.zero _).mono ?_; rintro e w7 ⟨rfl, hb⟩
      replace R := hidB (R.out.on hb)
      replace B := hidB (B.out.trans (hb.mono B.out.size))
      clear hb
      go_wp2_with (first | ((with_reducible refine stId 49 (.tmp 5) (.tmp 76) ?_); refine wpList_store_row (by rfl) 49 (.tmp 5) (.tmp 76) (by rfl) (w.heap.size + 1) ((doneI VI.zero).cs) (by rfl) (by rfl) 49 (OI.zero.cs) (by exact R.out) (by kernel_rfl) (by rfl) (by exact OI.one _ rfl) ?_))
      exact bodyPost_ret (v := .tuple #[.nilIface, (doneI VI.zero).a]) (results_tr Tryz.results58 _ _ (w.heap.size + 1) 49 ((doneI VI.zero).cs) (0, 0) _ rfl (R.out.setRow _) Tryz.underlying49 rfl (by kernel_rfl)) rfl (⟨below_setRow B.out (Nat.le_succ _) _, by rw [HVV.out]⟩)
    have HVV := hidB (show alongV e0 a.k = none by rw [HV.out, hob]; rfl)
    clear hob
    have yf : w6.frozen? ⟨w.heap.size, 1, none⟩ = false := Y.out.free 1
    have y1 : w6.cell? ⟨w.heap.size, 1, none⟩ = some (.int .i64 a.ob) := Y.out.cell 1
    go_upto_region 6 with fail
    have Y2 := hidB (show Bk (w6.setCell ⟨w.heap.size, 1, none⟩ (.int .i64 e0.1.pr.r)) (w.heap.size) 34 ({ a with ob := e0.1.pr.r } : AI).cs from Y.out.set 1 _)
    have R2 := hidB (show Bk (w6.setCell ⟨w.heap.size, 1, none⟩ (.int .i64 e0.1.pr.r)) (w.heap.size + 1) 49 OI.zero.cs from R.out.far (p := ⟨w.heap.size, 1, none⟩) (by show w.heap.size + 1 ≠ w.heap.size; omega) _)
    have B2 := hidB (show Below w.heap.size w (w6.setCell ⟨w.heap.size, 1, none⟩ (.int .i64 e0.1.pr.r)) from B.out.setCell (p := ⟨w.heap.size, 1, none⟩) (Nat.le_refl _) _)
    clear Y R B y0 y1 yf z3 x6 X6 X7 X8 GW HJ
    generalize hW : (w6.setCell ⟨w.heap.size, 1, none⟩ (.int .i64 e0.1.pr.r)) = w7 at *
    clear hW
    go_wp2_with fail
    refine (newM_any 78 #[ptr (w.heap.size)] w7).mono ?_; rintro e w8 ⟨rfl, hw8⟩
    have MG := hidB (show Bk w8 w7.heap.size 172 (machC 78 #[ptr (w.heap.size)] vNil 0 0 false false) from hw8 ▸ Bk.new w7 _ _)
    have hb : Below w7.heap.size w7 w8 := hw8 ▸ box_one w7 _
    have HS8 := hidB (show w8.heap.size = w7.heap.size + 1 by rw [hw8]; simp)
    have HYL := hidB R2.out.lt
    replace Y2 := hidB (Y2.out.on hb)
    replace R2 := hidB (R2.out.on hb)
    have HS7 := hidB B2.out.size
    replace B2 := hidB (B2.out.trans (hb.mono B2.out.size))
    clear hb hw8
    go_wp2_with (first | ((with_reducible refine wpId ?_); refine wpList_build_to (by rfl) 49 _ (by rfl) (OI.zero.cs) (by kernel_rfl) ?_) | ((with_reducible refine stId 49 (.tmp 5) (.tmp 41) ?_); refine wpList_store_row (by rfl) 49 (.tmp 5) (.tmp 41) (by rfl) (w.heap.size + 1) (OI.zero.cs) (by rfl) (by rfl) 49 (OI.zero.cs) (by exact R2.out) (by kernel_rfl) (by rfl) (by exact OI.one _ rfl) ?_))
    have Y3 := hidB (show Bk (w8.setRow (w.heap.size + 1) OI.zero.cs) (w.heap.size) 34 ({ a with ob := e0.1.pr.r } : AI).cs from Y2.out.setRow_far (by omega) _)
    have M3 := hidB (show Bk (w8.setRow (w.heap.size + 1) OI.zero.cs) w7.heap.size 172 (machC 78 #[ptr (w.heap.size)] vNil 0 0 false false) from MG.out.setRow_far (by have := HYL.out; omega) _)
    exact bodyPost_ret (v := .tuple #[.iface 134 (ptr w7.heap.size), OI.zero.a]) (results_tr Tryz.results58 _ _ (w.heap.size + 1) 49 (OI.zero.cs) (0, 0) _ rfl (R2.out.setRow _) Tryz.underlying49 rfl (by kernel_rfl)) rfl (⟨below_setRow B2.out (Nat.le_succ _) _, by rw [HVV.out]; exact ⟨_, fun k => k = w.heap.size ∨ k = w7.heap.size, rfl, .inl ⟨_, _, onceE (w.heap.size), onceC ({ a with ob := e0.1.pr.r } : AI) (w.heap.size), w7.heap.size, rfl, runF_once ({ a with ob := e0.1.pr.r } : AI) HA.out (w.heap.size), ⟨Y3.out, fun k hk => .inl hk, .inr rfl, fun k hk => by have h1 := HYL.out; have h2 := HS8.out; have h3 : ((w8.setRow (w.heap.size + 1) OI.zero.cs)).heap.size = w8.heap.size := (by simp [World.setRow]); rcases hk with rfl | rfl <;> omega, M3.out⟩⟩, fun k hk => by have := HS7.out; rcases hk with rfl | rfl <;> omega⟩⟩)
  | some q =>
    have HE := hidB (show O1 = { OI.zero with kd := 1, fo := true, d := q.d } from HO1.out.symm.trans (by unfold ownI; rw [hf]))
    have HV := hidB (show alongV e0 a.k = some q.d.v by unfold alongV; rw [hf])
    obtain ⟨hd1, hd2⟩ := HD.out q hf
    have HD1 := hidB hd1
    have HD2 := hidB hd2
    clear hf HD hd1 hd2
    rw [HE.out] at x6 X7
    go_wp2_with (first | ((with_reducible refine ldId 31 (.tmp 7) ?_); refine wpList_wload_row 31 (.tmp 7) (by rfl) (by rfl) (g7) (by rfl) 31 (q.d.cs) (0, 0) _ (by exact X7.out) Tryz.underlying31 (by rfl) (by kernel_rfl) ?_))
    refine (isAccess_any q.d _).mono ?_; rintro e w6 ⟨rfl, hb⟩
    rw [HD2.out]
    replace R := hidB (R.out.on hb)
    replace X7 := hidB (X7.out.on hb)
    replace B := hidB (B.out.trans (hb.mono B.out.size))
    clear hb
    go_wp2_with (first | ((with_reducible refine ldId 31 (.tmp 7) ?_); refine wpList_load_row (by rfl) 31 (.tmp 7) (by rfl) (g7) (by rfl) 31 (q.d.cs) (0, 0) _ (by exact X7.out) Tryz.underlying31 (by rfl) (by kernel_rfl) ?_))
    refine (isData_any q.d _).mono ?_; rintro e w7 ⟨rfl, hb⟩
    rw [HD1.out]
    replace R := hidB (R.out.on hb)
    replace X7 := hidB (X7.out.on hb)
    replace B := hidB (B.out.trans (hb.mono B.out.size))
    clear hb
    go_wp2_with (first | ((with_reducible refine ldId 29 (.tmp 80) ?_); refine wpList_load_mid (by rfl) 29 (.tmp 80) (by rfl) (g7) 1 (by rfl) (q.d.v.cells) _ (by exact Bk.mid X7.out 1 _ rfl) Tryz.underlying29 (by rfl) (by kernel_rfl) ?_))
    refine (doneI_any q.d.v _).mono ?_; rintro e w8 ⟨rfl, hb⟩
    replace R := hidB (R.out.on hb)
    replace B := hidB (B.out.trans (hb.mono B.out.size))
    clear hb
    go_wp2_with (first | ((with_reducible refine stId 49 (.tmp 5) (.tmp 82) ?_); refine wpList_store_row (by rfl) 49 (.tmp 5) (.tmp 82) (by rfl) (w.heap.size + 1) ((doneI q.d.v).cs) (by rfl) (by rfl) 49 (OI.zero.cs) (by exact R.out) (by kernel_rfl) (by rfl) (by exact OI.one _ rfl) ?_))
    exact bodyPost_ret (v := .tuple #[.nilIface, (doneI q.d.v).a]) (results_tr Tryz.results58 _ _ (w.heap.size + 1) 49 ((doneI q.d.v).cs) (0, 0) _ rfl (R.out.setRow _) Tryz.underlying49 rfl (by kernel_rfl)) rfl (⟨below_setRow B.out (Nat.le_succ _) _, by rw [HV.out]⟩)

end Go.Proofs.YtbmaodlghglopaaGreatDoor
