/-
  A task of reach goes on, up to its end.
-/
import Derived.Test.YtbmaodlghglopaaGreatDoorTp8
namespace Go.Proofs.YtbmaodlghglopaaGreatDoor
open Go.RowKit

set_option maxHeartbeats 8000000 in
set_option maxRecDepth 100000 in
theorem asked1_any (t : WI) (hk : t.kd = 1) (ho : t.ask.args.oneCell' = true) (w : World) : Calls Tryz.prog 41 #[t.a] w fun e w' => e = .returned (.tuple #[t.ask.a, .bool true]) ∧ Below w.heap.size w w' := by
  have X := hidB (show Bk ((w.alloc (.cells (t.cs) 51)).alloc (.cells (#[.int .u8 0, .int .i64 0, .string ⟨#[]⟩, .int .i64 0, .int .u8 0, .int .u8 0, .float .f64 0, .string ⟨#[]⟩, .int .i64 0, .int .u8 0, .float .f64 0, .string ⟨#[]⟩, .int .i64 0, .int .u8 0, .float .f64 0, .string ⟨#[]⟩, .int .i64 0, .bool false, .bool false, .bool false, .int .u8 0, .float .f64 0, .string ⟨#[]⟩, .int .i64 0, .int .u8 0, .float .f64 0, .string ⟨#[]⟩, .int .i64 0, .slice none 0 0]) 34)) (w.heap.size) 51 (t.cs) from (Bk.new w _ _).alloc _)
  have R := hidB (show Bk ((w.alloc (.cells (t.cs) 51)).alloc (.cells (#[.int .u8 0, .int .i64 0, .string ⟨#[]⟩, .int .i64 0, .int .u8 0, .int .u8 0, .float .f64 0, .string ⟨#[]⟩, .int .i64 0, .int .u8 0, .float .f64 0, .string ⟨#[]⟩, .int .i64 0, .int .u8 0, .float .f64 0, .string ⟨#[]⟩, .int .i64 0, .bool false, .bool false, .bool false, .int .u8 0, .float .f64 0, .string ⟨#[]⟩, .int .i64 0, .int .u8 0, .float .f64 0, .string ⟨#[]⟩, .int .i64 0, .slice none 0 0]) 34)) (w.heap.size + 1) 34 (#[.int .u8 0, .int .i64 0, .string ⟨#[]⟩, .int .i64 0, .int .u8 0, .int .u8 0, .float .f64 0, .string ⟨#[]⟩, .int .i64 0, .int .u8 0, .float .f64 0, .string ⟨#[]⟩, .int .i64 0, .int .u8 0, .float .f64 0, .string ⟨#[]⟩, .int .i64 0, .bool false, .bool false, .bool false, .int .u8 0, .float .f64 0, .string ⟨#[]⟩, .int .i64 0, .int .u8 0, .float .f64 0, .string ⟨#[]⟩, .int .i64 0, .slice none 0 0]) from Bk.new2 w _ _ _)
  have B := hidB (show Below w.heap.size w ((w.alloc (.cells (t.cs) 51)).alloc (.cells (#[.int .u8 0, .int .i64 0, .string ⟨#[]⟩, .int .i64 0, .int .u8 0, .int .u8 0, .float .f64 0, .string ⟨#[]⟩, .int .i64 0, .int .u8 0, .float .f64 0, .string ⟨#[]⟩, .int .i64 0, .int .u8 0, .float .f64 0, .string ⟨#[]⟩, .int .i64 0, .bool false, .bool false, .bool false, .int .u8 0, .float .f64 0, .string ⟨#[]⟩, .int .i64 0, .int .u8 0, .float .f64 0, .string ⟨#[]⟩, .int .i64 0, .slice none 0 0]) 34)) from (box_one w _).alloc (by simp) _)
  have HO := hidB ho
  clear ho
  go_enter Tryz.func41, Tryz.ntmps41
  go_upto_region 1 with fail
  generalize hW : ((w.alloc (.cells (t.cs) 51)).alloc (.cells (#[.int .u8 0, .int .i64 0, .string ⟨#[]⟩, .int .i64 0, .int .u8 0, .int .u8 0, .float .f64 0, .string ⟨#[]⟩, .int .i64 0, .int .u8 0, .float .f64 0, .string ⟨#[]⟩, .int .i64 0, .int .u8 0, .float .f64 0, .string ⟨#[]⟩, .int .i64 0, .bool false, .bool false, .bool false, .int .u8 0, .float .f64 0, .string ⟨#[]⟩, .int .i64 0, .int .u8 0, .float .f64 0, .string ⟨#[]⟩, .int .i64 0, .slice none 0 0]) 34)) = w1 at *
  clear hW
  have x0 : w1.cell? ⟨w.heap.size, 0, none⟩ = some (.int .u8 1) := by rw [← hk]; exact X.out.cell 0
  go_wp2_with (first | ((with_reducible refine ldId 34 (.tmp 8) ?_); refine wpList_load_mid (by rfl) 34 (.tmp 8) (by rfl) (w.heap.size) 1 (by rfl) (t.ask.cs.toList) _ (by exact Bk.mid X.out 1 _ rfl) Tryz.underlying34 (by rfl) (by kernel_rfl) ?_) | ((with_reducible refine stId 34 (.tmp 2) (.tmp 9) ?_); refine wpList_store_row (by rfl) 34 (.tmp 2) (.tmp 9) (by rfl) (w.heap.size + 1) (t.ask.cs) (by rfl) (by rfl) 34 (#[.int .u8 0, .int .i64 0, .string ⟨#[]⟩, .int .i64 0, .int .u8 0, .int .u8 0, .float .f64 0, .string ⟨#[]⟩, .int .i64 0, .int .u8 0, .float .f64 0, .string ⟨#[]⟩, .int .i64 0, .int .u8 0, .float .f64 0, .string ⟨#[]⟩, .int .i64 0, .bool false, .bool false, .bool false, .int .u8 0, .float .f64 0, .string ⟨#[]⟩, .int .i64 0, .int .u8 0, .float .f64 0, .string ⟨#[]⟩, .int .i64 0, .slice none 0 0]) (by exact R.out) (by kernel_rfl) (by rfl) (by exact AI.one _ HO.out) ?_))
  exact bodyPost_ret (v := .tuple #[.agg (t.ask.cs), .bool true]) (results_row2 Tryz.results41 _ _ (w.heap.size + 1) 34 (t.ask.cs) (0, 0) _ rfl (R.out.setRow _) Tryz.underlying34 rfl (by kernel_rfl)) rfl (⟨rfl, below_setRow B.out (Nat.le_succ _) _⟩)

/-- An ask under way: told at once, or by a task in a state. -/
structure Ent where
  a : AI
  lv : Int
  tk : Option ((List (OI × List KI) → Res) × Q)
/-- The rest of a run, by its steps: what it comes to, and how many asks end on the way. -/
def Good (h : HI) : Nat → List Ent → OI → OI → Nat → Prop
  | 0, _, _, _, _ => False
  | _ + 1, [], o, res, k => res = o ∧ k = 0 ∧ o.keys = vNil
  | n + 1, x :: st, o, res, k => (o.kd = 1 ∧ o.keys = vNil ∧ o.d.ok ∧ 0 ≤ o.v.k) ∧ (x.a.m = 3 ∨ x.a.m = 8) ∧ x.a.args.oneCell' = true ∧ match x.tk with
    | none => ∃ k', k = k' + 1 ∧ Good h n st (toldI x.a.m o) res k'
    | some (S, q) => q.few ∧ ∃ L, nextQ S o [] q = some L ∧ (S L).good ∧ match S L with
      | .out y ks => y.kd = 1 ∧ ks = [] ∧ ∃ k', k = k' + 1 ∧ Good h n st (toldI x.a.m y) res k'
      | .want W l => l = [] ∧ (0 ≤ x.lv ∧ x.lv + 1 ≤ 64) ∧ ∀ q0 c0, c0 ≤ maxLen → (W (.slice q0 0 c0)).kd = 1 ∧ ∃ r, BegOK h (W (.slice q0 0 c0)).ask r ∧ match r with
        | .now y => Good h n (⟨(W (.slice q0 0 c0)).ask, x.lv + 1, none⟩ :: ⟨x.a, x.lv, some (S, .wait L)⟩ :: st) y res k
        | .tk P => ∀ S', P S' → Good h n (⟨(W (.slice q0 0 c0)).ask, x.lv + 1, some (S', .fresh)⟩ :: ⟨x.a, x.lv, some (S, .wait L)⟩ :: st) { OI.zero with kd := 1 } res k
/-- Asks in memory, with their interface values. -/
def TksM : List (Ent × Value × Int) → (Nat → Prop) → World → Prop
  | [], _, _ => True
  | (x, iv, _) :: st, U, w => iv.oneCell' = true ∧ match x.tk with
    | none => iv = .nilIface ∧ TksM st U w
    | some (S, q) => ∃ A U', TkW S iv q A w ∧ TksM st U' w ∧ (∀ k, A k → U k) ∧ (∀ k, U' k → U k) ∧ ∀ k, A k → ¬ U' k
theorem TksM.keep : ∀ {st : List (Ent × Value × Int)} {U : Nat → Prop} {w w' : World}, TksM st U w → w.heap.size ≤ w'.heap.size → (∀ k, U k → w'.heap[k]? = w.heap[k]?) → TksM st U w'
  | [], _, _, _, _, _, _ => trivial
  | (⟨a, lv, none⟩, iv, bg) :: st, U, w, w', h, hs, hb => ⟨h.1, h.2.1, TksM.keep h.2.2 hs hb⟩
  | (⟨a, lv, some (S, q)⟩, iv, bg) :: st, U, w, w', h, hs, hb => by
    obtain ⟨h1, A, U', h2, h3, h4, h5, h6⟩ := h
    exact ⟨h1, A, U', h2.keep hs (fun k hk => hb k (h4 k hk)), TksM.keep h3 hs (fun k hk => hb k (h5 k hk)), h4, h5, h6⟩
theorem TksM.wider : ∀ {st : List (Ent × Value × Int)} {U U2 : Nat → Prop} {w : World}, TksM st U w → (∀ k, U k → U2 k) → TksM st U2 w
  | [], _, _, _, _, _ => trivial
  | (⟨a, lv, none⟩, iv, bg) :: st, U, U2, w, h, hb => ⟨h.1, h.2.1, TksM.wider h.2.2 hb⟩
  | (⟨a, lv, some (S, q)⟩, iv, bg) :: st, U, U2, w, h, hb => by
    obtain ⟨h1, A, U', h2, h3, h4, h5, h6⟩ := h
    exact ⟨h1, A, U', h2, h3, fun k hk => hb k (h4 k hk), fun k hk => hb k (h5 k hk), h6⟩
def rowsOf (st : List (Ent × Value × Int)) : List Value := st.reverse.flatMap fun x => (entC x.2.1 x.1.a x.1.lv x.2.2).toList
theorem rowsOf_cons (x : Ent × Value × Int) (st : List (Ent × Value × Int)) : rowsOf (x :: st) = rowsOf st ++ (entC x.2.1 x.1.a x.1.lv x.2.2).toList := by
  unfold rowsOf
  rw [List.reverse_cons, List.flatMap_append, List.flatMap_singleton]
/-- All that on goes by, but for the tasks. -/
structure OnF (hv : Value) (wx : World) (B1 gw T G : Nat) (fa : AI) (flv wn : Int) (ov : Bool) (hd : Value) (st : List (Ent × Value × Int)) (o : OI) (mn bg : Int) (qs : Option Addr) (cs : Nat) (qe : Option Addr) (ce sn : Nat) (ys : List Value) (w : World) : Prop where
  TB : Bk w T 68 (tkC gw (.slice qs st.length cs) mn bg fa flv wn ov hd (.slice qe sn ce))
  GW : Bk w gw 65 #[hv]
  S : w.ownsRow B1 95 32 (.slice qs st.length cs) st.length (rowsOf st)
  E : w.ownsRow B1 121 32 (.slice qe sn ce) sn ys
  Y : Bk w G 49 o.cs
  R : Bk w (G + 1) 51 WI.zero.cs
  X : Below B1 wx w
  nT : gw ≠ T
  bT : B1 ≤ T
  bG : B1 ≤ G
/-- The blocks of the tasks are none of on's own. -/
def UOk (B1 gw T G : Nat) (sv se : Value) (U : Nat → Prop) (w : World) : Prop := ∀ k, U k → B1 ≤ k ∧ k < w.heap.size ∧ k ≠ T ∧ k ≠ G ∧ k ≠ G + 1 ∧ k ≠ gw ∧ sv.ownBlock ≠ some k ∧ se.ownBlock ≠ some k
section
variable {hv : Value} {wx : World} {B1 gw T G : Nat} {fa : AI} {flv wn : Int} {ov : Bool} {hd : Value} {st : List (Ent × Value × Int)} {o : OI} {mn bg : Int} {qs : Option Addr} {cs : Nat} {qe : Option Addr} {ce sn : Nat} {ys : List Value} {U A : Nat → Prop} {w w' : World}
theorem OnF.on (f : OnF hv wx B1 gw T G fa flv wn ov hd st o mn bg qs cs qe ce sn ys w) (hb : Below w.heap.size w w') : OnF hv wx B1 gw T G fa flv wn ov hd st o mn bg qs cs qe ce sn ys w' :=
  ⟨f.TB.on hb, f.GW.on hb, own_on f.S hb, own_on f.E hb, f.Y.on hb, f.R.on hb, f.X.trans (hb.mono (Nat.le_of_lt (Nat.lt_of_le_of_lt f.bT f.TB.lt))), f.nT, f.bT, f.bG⟩
theorem UOk.on {sv se : Value} (h : UOk B1 gw T G sv se U w) (hs : w.heap.size ≤ w'.heap.size) : UOk B1 gw T G sv se U w' := fun k hk => by
  obtain ⟨a1, a2, a3⟩ := h k hk
  exact ⟨a1, Nat.lt_of_lt_of_le a2 hs, a3⟩
theorem UOk.sub {sv se : Value} (h : UOk B1 gw T G sv se U w) (hs : ∀ k, A k → U k) : UOk B1 gw T G sv se A w := fun k hk => h k (hs k hk)
theorem OnF.kept (f : OnF hv wx B1 gw T G fa flv wn ov hd st o mn bg qs cs qe ce sn ys w) (hk : Kept A w w') (hA : UOk B1 gw T G (.slice qs st.length cs) (.slice qe sn ce) A w) : OnF hv wx B1 gw T G fa flv wn ov hd st o mn bg qs cs qe ce sn ys w' :=
  ⟨f.TB.kept hk (fun h => (hA _ h).2.2.1 rfl), f.GW.kept hk (fun h => (hA _ h).2.2.2.2.2.1 rfl), own_kept f.S hk (fun k e h => (hA k h).2.2.2.2.2.2.1 e), own_kept f.E hk (fun k e h => (hA k h).2.2.2.2.2.2.2 e), f.Y.kept hk (fun h => (hA _ h).2.2.2.1 rfl), f.R.kept hk (fun h => (hA _ h).2.2.2.2.1 rfl), f.X.trans (hk.toBelow (Nat.le_of_lt (Nat.lt_of_le_of_lt f.bT f.TB.lt)) (fun k h => (hA k h).1)), f.nT, f.bT, f.bG⟩
theorem Kept.step {V S : Nat → Prop} {a b c : World} (h : Kept V a b) (k : Kept S b c) (hs : ∀ j, S j → V j ∨ a.heap.size ≤ j) : Kept V a c :=
  ⟨k.os.trans h.os, k.tape.trans h.tape, k.output.trans h.output, Nat.le_trans h.size k.size, fun j hj hn => (k.block j (Nat.lt_of_lt_of_le hj h.size) (fun s => (hs j s).elim hn (fun h => by omega))).trans (h.block j hj hn)⟩
/-- The innermost ask has ended. -/
theorem on_ended {x : Ent × Value × Int} {gq : Nat} {y : OI} {e : Ending} (f : OnF hv wx B1 gw T G fa flv wn ov hd (x :: st) o mn bg (some ⟨gq, 0, none⟩) cs qe ce sn ys w) (hu : UOk B1 gw T G (.slice (some ⟨gq, 0, none⟩) (st.length + 1) cs) (.slice qe sn ce) U w) (ht : TksM st U w) (hr : REnd B1 gw T gq cs st.length (rowsOf st) x.2.1 x.1.a x.1.lv x.2.2 mn bg fa flv wn ov hd qe ce sn y w e w') :
    e = .returned (toldI x.1.a.m y).a ∧ ∃ qe2 ce2 ys2, Bk w' G 49 o.cs ∧ OnF hv wx B1 gw T G fa flv wn ov hd st (toldI x.1.a.m y) (mn + 1) bg (some ⟨gq, 0, none⟩) cs qe2 ce2 (sn + 1) ys2 (w'.setRow G (toldI x.1.a.m y).cs) ∧ TksM st U (w'.setRow G (toldI x.1.a.m y).cs) ∧ UOk B1 gw T G (.slice (some ⟨gq, 0, none⟩) st.length cs) (.slice qe2 (sn + 1) ce2) U (w'.setRow G (toldI x.1.a.m y).cs) ∧ Kept (fun j => j = T ∨ (Value.slice qe sn ce).ownBlock = some j ∨ j = G) w (w'.setRow G (toldI x.1.a.m y).cs) ∧ (∀ j, (Value.slice qe2 (sn + 1) ce2).ownBlock = some j → (Value.slice qe sn ce).ownBlock = some j ∨ w.heap.size ≤ j) := by
  obtain ⟨se', ys', he, hT, hS, hE, hK, hB⟩ := hr
  obtain ⟨qe2, ce2, rfl⟩ := own_slice hE
  have nG : ∀ {g : Nat} {t : TypeId} {cs' : Array Value}, Bk w g t cs' → g ≠ T → 121 ≠ t → ¬ (g = T ∨ (Value.slice qe sn ce).ownBlock = some g) := fun hg h1 h2 h => h.elim h1 (fun e => own_neB f.E hg h2 e rfl)
  have hGT : G ≠ T := fun h => by have h1 := f.Y; rw [h] at h1; exact absurd (h1.symm.trans f.TB) (by intro h; injection h with h; injection h with _ h _; exact absurd h (by decide))
  have hRT : G + 1 ≠ T := fun h => by have h1 := f.R; rw [h] at h1; exact absurd (h1.symm.trans f.TB) (by intro h; injection h with h; injection h with _ h _; exact absurd h (by decide))
  have hGg : G ≠ gw := fun h => by have h1 := f.Y; rw [h] at h1; exact absurd (h1.symm.trans f.GW) (by intro h; injection h with h; injection h with _ h _; exact absurd h (by decide))
  have hY := f.Y.kept hK (nG f.Y hGT (by decide))
  have hR := f.R.kept hK (nG f.R hRT (by decide))
  have hW := f.GW.kept hK (nG f.GW f.nT (by decide))
  have hb : ∀ k, k < w.heap.size → U k → w'.heap[k]? = w.heap[k]? := fun k hk hU => hK.block k hk (fun h => h.elim (hu k hU).2.2.1 (hu k hU).2.2.2.2.2.2.2)
  have hb2 : ∀ k, U k → (w'.setRow G (toldI x.1.a.m y).cs).heap[k]? = w.heap[k]? := fun k hU => (heap_setRow w' (hu k hU).2.2.2.1 _).trans (hb k (hu k hU).2.1 hU)
  have hs2 : (w'.setRow G (toldI x.1.a.m y).cs).heap.size = w'.heap.size := by simp [World.setRow]
  refine ⟨he, qe2, ce2, ys', hY, ⟨hT.setRow_far hGT _, hW.setRow_far hGg _, own_eq hS (fun k hk => heap_setRow _ (own_neB hS hY (by decide) hk) _), own_eq hE (fun k hk => heap_setRow _ (own_neB hE hY (by decide) hk) _), hY.setRow _, hR.setRow_far (Nat.succ_ne_self G).symm _, ?_, f.nT, f.bT, f.bG⟩, ht.keep (by rw [hs2]; exact hK.size) hb2, fun k hk => ?_, (hK.wider (fun j _ h => h.imp id .inl)).setRow (.inl (.inr (.inr rfl))) _, hB⟩
  · exact below_setRow (f.X.trans (hK.toBelow (Nat.le_of_lt (Nat.lt_of_le_of_lt f.bT f.TB.lt)) (fun k h => h.elim (fun e => e ▸ f.bT) (fun e => (f.E.lt k e).1)))) f.bG _
  · obtain ⟨a1, a2, a3, a4, a5, a6, a7, a8⟩ := hu k hk
    exact ⟨a1, by rw [hs2]; exact Nat.lt_of_lt_of_le a2 hK.size, a3, a4, a5, a6, a7, fun e => (hB k e).elim a8 (fun h => by omega)⟩
/-- One more ask is under way. -/
theorem on_begun {a : AI} {r : BR} {lv : Int} {e : Ending} {h : HI} (hbk : BegOK h a r) (f : OnF hv wx B1 gw T G fa flv wn ov hd st o mn bg qs cs qe ce sn ys w) (hu : UOk B1 gw T G (.slice qs st.length cs) (.slice qe sn ce) U w) (ht : TksM st U w) (hr : RBeg B1 gw T qs cs st.length (rowsOf st) mn bg fa flv wn ov hd (.slice qe sn ce) a r lv w e w') :
    e = .returned (begO r).a ∧ ∃ qs2 cs2 iv tk U2, (match r with | .now _ => tk = none | .tk P => ∃ S', P S' ∧ tk = some (S', Q.fresh)) ∧ Bk w' G 49 o.cs ∧ OnF hv wx B1 gw T G fa flv wn ov hd ((⟨a, lv, tk⟩, iv, mn) :: st) (begO r) mn (bg + 1) qs2 cs2 qe ce sn ys (w'.setRow G (begO r).cs) ∧ TksM ((⟨a, lv, tk⟩, iv, mn) :: st) U2 (w'.setRow G (begO r).cs) ∧ UOk B1 gw T G (.slice qs2 (st.length + 1) cs2) (.slice qe sn ce) U2 (w'.setRow G (begO r).cs) ∧ Kept (fun j => j = T ∨ (Value.slice qs st.length cs).ownBlock = some j ∨ j = G) w (w'.setRow G (begO r).cs) ∧ (∀ j, (Value.slice qs2 (st.length + 1) cs2).ownBlock = some j → (Value.slice qs st.length cs).ownBlock = some j ∨ w.heap.size ≤ j) ∧ (∀ j, U2 j → U j ∨ w.heap.size ≤ j) := by
  obtain ⟨sv', iv, A, he, hT, hS, hK, hB, hA, hsv⟩ := hr
  obtain ⟨qs2, cs2, rfl⟩ := own_slice hS
  have nG : ∀ {g : Nat} {t : TypeId} {cs' : Array Value}, Bk w g t cs' → g ≠ T → 95 ≠ t → ¬ (g = T ∨ (Value.slice qs st.length cs).ownBlock = some g) := fun hg h1 h2 h => h.elim h1 (fun e => own_neB f.S hg h2 e rfl)
  have hGT : G ≠ T := fun h => by have h1 := f.Y; rw [h] at h1; exact absurd (h1.symm.trans f.TB) (by intro h; injection h with h; injection h with _ h _; exact absurd h (by decide))
  have hRT : G + 1 ≠ T := fun h => by have h1 := f.R; rw [h] at h1; exact absurd (h1.symm.trans f.TB) (by intro h; injection h with h; injection h with _ h _; exact absurd h (by decide))
  have hGg : G ≠ gw := fun h => by have h1 := f.Y; rw [h] at h1; exact absurd (h1.symm.trans f.GW) (by intro h; injection h with h; injection h with _ h _; exact absurd h (by decide))
  have hY := f.Y.kept hK (nG f.Y hGT (by decide))
  have hR := f.R.kept hK (nG f.R hRT (by decide))
  have hW := f.GW.kept hK (nG f.GW f.nT (by decide))
  have hE := own_kept f.E hK (fun k hk h => h.elim (fun e => own_neB f.E f.TB (by decide) hk e) (fun e => own_neO f.E f.S (by decide) hk e))
  have hb2 : ∀ k, U k → (w'.setRow G (begO r).cs).heap[k]? = w.heap[k]? := fun k hU => (heap_setRow w' (hu k hU).2.2.2.1 _).trans (hK.block k (hu k hU).2.1 (fun h => h.elim (hu k hU).2.2.1 (hu k hU).2.2.2.2.2.2.1))
  have hs2 : (w'.setRow G (begO r).cs).heap.size = w'.heap.size := by simp [World.setRow]
  have htk := ht.keep (w' := w'.setRow G (begO r).cs) (by rw [hs2]; exact hK.size) hb2
  have hX : Below B1 wx (w'.setRow G (begO r).cs) := below_setRow (f.X.trans (hK.toBelow (Nat.le_of_lt (Nat.lt_of_le_of_lt f.bT f.TB.lt)) (fun k h => h.elim (fun e => e ▸ f.bT) (fun e => (f.S.lt k e).1)))) f.bG _
  have hF : ∀ tk, OnF hv wx B1 gw T G fa flv wn ov hd ((⟨a, lv, tk⟩, iv, mn) :: st) (begO r) mn (bg + 1) qs2 cs2 qe ce sn ys (w'.setRow G (begO r).cs) := fun tk =>
    ⟨hT.setRow_far hGT _, hW.setRow_far hGg _, by rw [rowsOf_cons]; exact own_eq hS (fun k hk => heap_setRow _ (own_neB hS hY (by decide) hk) _), own_eq hE (fun k hk => heap_setRow _ (own_neB hE hY (by decide) hk) _), hY.setRow _, hR.setRow_far (Nat.succ_ne_self G).symm _, hX, f.nT, f.bT, f.bG⟩
  have hUo : ∀ k, U k → B1 ≤ k ∧ k < (w'.setRow G (begO r).cs).heap.size ∧ k ≠ T ∧ k ≠ G ∧ k ≠ G + 1 ∧ k ≠ gw ∧ (Value.slice qs2 (st.length + 1) cs2).ownBlock ≠ some k ∧ (Value.slice qe sn ce).ownBlock ≠ some k := fun k hk => by
    obtain ⟨a1, a2, a3, a4, a5, a6, a7, a8⟩ := hu k hk
    exact ⟨a1, by rw [hs2]; exact Nat.lt_of_lt_of_le a2 hK.size, a3, a4, a5, a6, fun e => (hsv k e).elim a7 (fun h => by omega), a8⟩
  have hKK : Kept (fun j => j = T ∨ (Value.slice qs st.length cs).ownBlock = some j ∨ j = G) w (w'.setRow G (begO r).cs) := (hK.wider (fun j _ h => h.imp id .inl)).setRow (.inl (.inr (.inr rfl))) _
  refine ⟨he, qs2, cs2, iv, ?_⟩
  cases r with
  | now x => exact ⟨none, U, rfl, hY, hF none, ⟨by rw [show iv = .nilIface from hB]; rfl, hB, htk⟩, hUo, hKK, hsv, fun j h => .inl h⟩
  | tk P =>
    obtain ⟨S, hP, hTk⟩ := hB
    have hlt := f.TB.lt
    have hYl := f.Y.lt
    have hRl := f.R.lt
    have hGl := f.GW.lt
    refine ⟨some (S, .fresh), fun k => A k ∨ U k, ⟨S, hP, rfl⟩, hY, hF _, ⟨?_, A, U, hTk.keep (by rw [hs2]; exact Nat.le_refl _) (fun k hk => heap_setRow w' (by have := (hA k hk).1; omega) _), htk, fun k h => .inl h, fun k h => .inr h, fun k hk hU => by have h1 := (hA k hk).1; have h2 := (hu k hU).2.1; omega⟩, fun k hk => ?_, hKK, hsv, fun j h => h.elim (fun h => .inr (hA j h).1) .inl⟩
    · obtain ⟨t, g, rfl⟩ := hTk.some; rfl
    · rcases hk with hk | hk
      · obtain ⟨b1, b2, b3⟩ := hA k hk
        have hbt := f.bT
        exact ⟨by omega, by rw [hs2]; exact b2, by omega, by omega, by omega, by omega, b3, fun e => by have := (f.E.lt k e).2; omega⟩
      · exact hUo k hk
end
/-- What on comes to. -/
def OnR (h : HI) (hv : Value) (wx : World) (B1 gw T : Nat) (fa : AI) (flv wn : Int) (ov : Bool) (hd : Value) (res : OI) (sn : Nat) (V : Nat → Prop) (w0 : World) (e : Ending) (w' : World) : Prop := ∃ (mn bg : Int) (sv : Value) (qe : Option Addr) (ce : Nat) (ys : List Value), e = .returned (endW res).a ∧ Bk w' T 68 (tkC gw sv mn bg fa flv wn ov hd (.slice qe sn ce)) ∧ Bk w' gw 65 #[hv] ∧ w'.ownsRow B1 121 32 (.slice qe sn ce) sn ys ∧ Below B1 wx w' ∧ Kept V w0 w'
def OnI (h : HI) (hv : Value) (wx : World) (B1 gw T G : Nat) (fa : AI) (flv wn : Int) (ov : Bool) (hd : Value) (res : OI) (S : Nat) (V : Nat → Prop) (w0 : World) (n : Nat) (w : World) : Prop := ∃ (st : List (Ent × Value × Int)) (o : OI) (k : Nat) (mn bg : Int) (qs : Option Addr) (cs : Nat) (qe : Option Addr) (ce sn : Nat) (ys : List Value) (U : Nat → Prop), Good h n (st.map (·.1)) o res k ∧ sn + k = S ∧ 0 ≤ mn ∧ mn + n ≤ 8192 ∧ 0 ≤ bg ∧ bg + n ≤ 8192 ∧ st.length + n ≤ 8192 ∧ sn + n ≤ 8192 ∧ OnF hv wx B1 gw T G fa flv wn ov hd st o mn bg qs cs qe ce sn ys w ∧ TksM st U w ∧ UOk B1 gw T G (.slice qs st.length cs) (.slice qe sn ce) U w ∧ Kept V w0 w ∧ (∀ j, U j → V j ∨ w0.heap.size ≤ j) ∧ (∀ j, (Value.slice qs st.length cs).ownBlock = some j → V j ∨ w0.heap.size ≤ j) ∧ (∀ j, (Value.slice qe sn ce).ownBlock = some j → V j ∨ w0.heap.size ≤ j)

set_option maxHeartbeats 8000000 in
set_option maxRecDepth 100000 in
theorem on_any (h : HI) (hv : Value) (wx : World) (B1 gw T : Nat) (fa : AI) (flv wn : Int) (ov : Bool) (hd : Value) (N : Nat) (st : List (Ent × Value × Int)) (o : OI) (res : OI) (k : Nat) (mn bg : Int) (qs : Option Addr) (cs : Nat) (qe : Option Addr) (ce sn : Nat) (ys : List Value) (U : Nat → Prop) (w : World) (hR : ∀ W, Below B1 wx W → RdH h hv W) (hgd : Good h N (st.map (·.1)) o res k) (hmn : 0 ≤ mn ∧ mn + N ≤ 8192) (hbg : 0 ≤ bg ∧ bg + N ≤ 8192) (hst : st.length + N ≤ 8192) (hsn : sn + N ≤ 8192) (hB1 : B1 ≤ T) (hTB : Bk w T 68 (tkC gw (.slice qs st.length cs) mn bg fa flv wn ov hd (.slice qe sn ce))) (hGW : Bk w gw 65 #[hv]) (hS : w.ownsRow B1 95 32 (.slice qs st.length cs) st.length (rowsOf st)) (hE : w.ownsRow B1 121 32 (.slice qe sn ce) sn ys) (htk : TksM st U w) (hU : ∀ k, U k → B1 ≤ k ∧ k < w.heap.size ∧ k ≠ T ∧ k ≠ gw ∧ (Value.slice qs st.length cs).ownBlock ≠ some k ∧ (Value.slice qe sn ce).ownBlock ≠ some k) (hx : Below B1 wx w) : Calls Tryz.prog 21 #[ptr T, o.a] w (OnR h hv wx B1 gw T fa flv wn ov hd res (sn + k) (fun j => j = T ∨ U j ∨ (Value.slice qs st.length cs).ownBlock = some j ∨ (Value.slice qe sn ce).ownBlock = some j) w) := by
  have HRX := hidB hR
  have HTL := hidB hTB.lt
  have HWL := hidB hGW.lt
  have HB1 := hidB hB1
  have HNG := hidB (show gw ≠ T from fun h => by rw [h] at hGW; exact absurd (hGW.symm.trans hTB) (by intro h; injection h with h; injection h with _ h _; exact absurd h (by decide)))
  have HBX := hidB hx.size
  have Y := hidB (show Bk ((w.alloc (.cells (o.cs) 49)).alloc (.cells (Tryz.zeroCells51) 51)) (w.heap.size) 49 (o.cs) from (Bk.new w _ _).alloc _)
  have R := hidB (show Bk ((w.alloc (.cells (o.cs) 49)).alloc (.cells (Tryz.zeroCells51) 51)) (w.heap.size + 1) 51 (WI.zero.cs) from Bk.new2 w _ _ _)
  have B := hidB (show Below w.heap.size w ((w.alloc (.cells (o.cs) 49)).alloc (.cells (Tryz.zeroCells51) 51)) from (box_one w _).alloc (by simp) _)
  have HBB := hidB (show B1 ≤ w.heap.size by have := HTL.out; omega)
  have I0 := hidB (show OnI h hv wx B1 gw T w.heap.size fa flv wn ov hd res (sn + k) (fun j => j = T ∨ U j ∨ (Value.slice qs st.length cs).ownBlock = some j ∨ (Value.slice qe sn ce).ownBlock = some j) w N ((w.alloc (.cells (o.cs) 49)).alloc (.cells (Tryz.zeroCells51) 51)) from ⟨st, o, k, mn, bg, qs, cs, qe, ce, sn, ys, U, hgd, rfl, hmn.1, hmn.2, hbg.1, hbg.2, hst, hsn, ⟨(hTB.alloc _).alloc _, (hGW.alloc _).alloc _, own_on (own_on hS (box_one w _)) (box_one _ _), own_on (own_on hE (box_one w _)) (box_one _ _), Y.out, R.out, hx.trans (B.out.mono HBB.out), HNG.out, hB1, HBB.out⟩, htk.keep B.out.size (fun k hk => B.out.block k (hU k hk).2.1), fun k hk => by obtain ⟨a1, a2, a3, a4, a5, a6⟩ := hU k hk; exact ⟨a1, Nat.lt_of_lt_of_le a2 B.out.size, a3, by omega, by omega, a4, a5, a6⟩, Kept.below B.out, fun j h => .inl (.inr (.inl h)), fun j h => .inl (.inr (.inr (.inl h))), fun j h => .inl (.inr (.inr (.inr h)))⟩)
  clear hR hgd hmn hbg hst hsn hB1 hTB hGW hS hE htk hU hx Y R B
  obtain ⟨SN, hSN⟩ : ∃ q, sn + k = q := ⟨_, rfl⟩
  rw [hSN] at I0 ⊢
  clear hSN
  have HVT : Hid ((fun j => j = T ∨ U j ∨ (Value.slice qs st.length cs).ownBlock = some j ∨ (Value.slice qe sn ce).ownBlock = some j) T) := hidB (.inl rfl)
  generalize (fun j => j = T ∨ U j ∨ (Value.slice qs st.length cs).ownBlock = some j ∨ (Value.slice qe sn ce).ownBlock = some j) = V at *
  skip
  go_enter Tryz.func21, Tryz.ntmps21
  go_upto_region 1 with fail
  generalize hW : ((w.alloc (.cells (o.cs) 49)).alloc (.cells (Tryz.zeroCells51) 51)) = w1 at *
  clear hW
  go_wp2_with fail
  go_loopg [] N (fun n wr => ∃ n2 : Nat, n = n2 ∧ OnI h hv wx B1 gw T w.heap.size fa flv wn ov hd res SN V w n2 wr)
  case atStart => exact ⟨N, rfl, I0.out⟩
  case round =>
    clear I0
    obtain ⟨n, hne, st, o, k, mn, bg, qs, cs, qe, ce, sn, ys, U, hgd, hSN, hmn0, hmn1, hbg0, hbg1, hst, hsn, hF, htk, hu, hKV, hUV, hSV, hEV⟩ := hrel
    have HKV := hidB hKV
    have HUV := hidB hUV
    have HSV := hidB hSV
    have HEV := hidB hEV
    clear hKV hUV hSV hEV
    cases n with
    | zero => exact absurd hgd (by unfold Good; exact id)
    | succ m =>
      cases st with
      | nil =>
        obtain ⟨hres, hk0, hkey⟩ : res = o ∧ k = 0 ∧ o.keys = vNil := hgd
        subst hres
        subst hk0
        obtain rfl : sn = SN := by omega
        have HKEY := hidB hkey
        have HF := hidB hF
        clear hF htk hu hSN hkey
        have Y := hidB HF.out.Y
        have R := hidB HF.out.R
        have TB := hidB HF.out.TB
        have t1 : wr.cell? ⟨T, 1, none⟩ = some (.slice qs 0 cs) := TB.out.cell 1
        skip
        go_wp2_with (first | ((with_reducible refine ldId 49 (.tmp 3) ?_); refine wpList_load_row (by rfl) 49 (.tmp 3) (by rfl) (w.heap.size) (by rfl) 49 (res.cs) (0, 0) _ (by exact Y.out) Tryz.underlying49 (by rfl) (by kernel_rfl) ?_) | ((with_reducible refine wpId ?_); refine wpList_build_to (by rfl) 51 _ (by rfl) ((endW res).cs) (by kernel_rfl) ?_) | ((with_reducible refine stId 51 (.tmp 4) (.tmp 20) ?_); refine wpList_store_row (by rfl) 51 (.tmp 4) (.tmp 20) (by rfl) (w.heap.size + 1) ((endW res).cs) (by rfl) (by rfl) 51 (WI.zero.cs) (by exact R.out) (by kernel_rfl) (by rfl) (by exact WI.one _ rfl rfl rfl (by rw [show (endW res).out.keys = vNil from HKEY.out]; rfl)) ?_))
        refine bodyPost_ret (v := .agg ((endW res).cs)) (results_cell_row Tryz.results21 _ _ (w.heap.size + 1) 51 ((endW res).cs) (0, 0) _ rfl (R.out.setRow _) Tryz.underlying51 rfl (by kernel_rfl)) rfl ?_
        exact ⟨mn, bg, .slice qs 0 cs, qe, ce, ys, rfl, (show Bk (wr.setRow (w.heap.size + 1) (endW res).cs) T 68 _ from TB.out.setRow_far (g2 := w.heap.size + 1) (by have := HTL.out; omega) _), (show Bk (wr.setRow (w.heap.size + 1) (endW res).cs) gw 65 _ from HF.out.GW.setRow_far (g2 := w.heap.size + 1) (by have := HWL.out; omega) _), own_eq HF.out.E (fun j hj => heap_setRow _ (own_neB HF.out.E R.out (by decide) hj) _), below_setRow HF.out.X (by have := HBB.out; omega) _, HKV.out.setRow (g := w.heap.size + 1) (.inr (by omega)) _⟩
      | cons x st =>
        obtain ⟨⟨a, lv, tk⟩, iv, b0⟩ := x
        obtain ⟨⟨hok1, hok2, hok3, hok4⟩, hm, hao, hgo⟩ := hgd
        obtain ⟨hiv, htk⟩ := htk
        obtain ⟨gq, hgq⟩ := own_addr hF.S
        subst hgq
        have HO1 := hidB hok1
        have HO2 := hidB hok2
        have HO3 := hidB hok3
        have HO4 := hidB hok4
        have HM := hidB hm
        have HAO := hidB hao
        have HIV := hidB hiv
        have HGO := hidB hgo
        have HTK := hidB htk
        have HU := hidB hu
        have HSN := hidB hSN
        have HST := hidB hst
        have HSNB := hidB hsn
        clear hok1 hok2 hok3 hok4 hm hao hiv hgo htk hu hSN
        have HRQ := hidB (show wr.rangeAt gq (st.length * 32) (entC iv a lv b0).toList ∧ st.length + 1 ≤ cs from own_last (by have := hF.S; rw [rowsOf_cons] at this; exact this) rfl)
        have HF := hidB hF
        have HGQ := hidB (hF.S.lt gq rfl)
        have HSE := hidB (fun j hj => (hF.E.lt j hj).2)
        have HG6B := hidB (show w.heap.size + 1 < wr.heap.size from hF.R.lt)
        clear hF hsn
        have hst2 : st.length ≤ 8192 := by simp only [List.length_cons] at hst; omega
        clear hst
        have hn0 : (0 : Int) ≤ (st.length : Int) := by omega
        have hwr : IntKind.i64.wrap ((st.length : Nat) : Int) = (st.length : Int) := IntWalk.i64_in _ (by omega)
        have hx2 : (st.length : Int) < (st.length : Int) + 1 := by omega
        have hx3 : ¬ ((st.length : Int) + 1 = 0) := by omega
        have hx4 : ((st.length : Int) + 1 == 0) = false := by rw [beq_eq_false_iff_ne]; omega
        have hx5 : (st.length : Int) + 1 - 1 = (st.length : Int) := by omega
        have TB := hidB HF.out.TB
        have t1 : wr.cell? ⟨T, 1, none⟩ = some (.slice (some ⟨gq, 0, none⟩) (st.length + 1) cs) := TB.out.cell 1
        have X6 := hidB (show Bk (wr.alloc (.cells (entC iv a lv b0) 95)) wr.heap.size 95 (entC iv a lv b0) from Bk.new wr _ _)
        have HUR := hidB (fun k (hk : U k) => (HU.out k hk).2.1)
        have HB6 := hidB (show Below wr.heap.size wr (wr.alloc (.cells (entC iv a lv b0) 95)) from box_one _ _)
        go_upto_region 5 with (first | ((with_reducible refine ldId 95 (.tmp 27) ?_); refine wpList_load_mid (by rfl) 95 (.tmp 27) (by rfl) (gq) (st.length * 32) (by rfl) ((entC iv a lv b0).toList) _ (by exact HRQ.out.1) Tryz.underlying95 (by rfl) (by kernel_rfl) ?_) | ((with_reducible refine wpId ?_); refine wpList_store_new (by rfl) 95 (.tmp 6) (.tmp 28) (by rfl) (entC iv a lv b0) 95 _ (by rfl) (by rfl) (by kernel_rfl) (by rfl) (by exact ent_one iv a lv b0 HIV.out HAO.out) ?_))
        generalize hW : (wr.alloc (.cells (entC iv a lv b0) 95)) = w6 at *
        have HS6 := hidB HB6.out.size
        generalize hG : wr.heap.size = g6 at *
        clear hW t1 TB
        have X7 := hidB (show Bk (w6.alloc (.cells Tryz.zeroCells51 51)) w6.heap.size 51 WI.zero.cs from Bk.new w6 _ _)
        have X6L := hidB X6.out.lt
        have HB7 := hidB (show Below w6.heap.size w6 (w6.alloc (.cells Tryz.zeroCells51 51)) from box_one _ _)
        replace X6 := hidB (X6.out.on HB7.out)
        skip
        go_upto_region 6 with fail
        generalize hW : (w6.alloc (.cells Tryz.zeroCells51 51)) = w7 at *
        generalize hG7 : w6.heap.size = g7 at *
        clear hW
        skip
        have HBW := hidB (show Below wr.heap.size wr w7 from by rw [hG]; exact HB6.out.trans (HB7.out.mono (by have := HS6.out; omega)))
        have HBK := hidB (fun k (hk : U k) => HBW.out.block k (by rw [hG]; exact HUR.out k hk))
        replace HKV := hidB (HKV.out.trans (Kept.below HBW.out))
        replace HF := hidB (HF.out.on HBW.out)
        replace HU := hidB (HU.out.on HBW.out.size)
        skip
        have HUL := hidB (show ∀ k, U k → k < g6 from fun k hk => HUR.out k hk)
        have HL7 := hidB (show g7 < w7.heap.size from X7.out.lt)
        have HL67 := hidB (show g6 < g7 by have h1 := X6L.out; omega)
        clear hG hG7 HB6 HB7 HS6
        have Y := hidB HF.out.Y
        have i0 : w7.cell? ⟨g6, 0, none⟩ = some iv := X6.out.cell 0
        cases tk with
        | none =>
          obtain ⟨hiv0, ht⟩ := HTK.out
          subst hiv0
          obtain ⟨k', hk', hgd2⟩ := HGO.out
          have HGD := hidB hgd2
          have HT2 := hidB (ht.keep HBW.out.size (fun k hk => HBK.out k hk))
          have HU2 := HU
          clear ht hgd2
          have heqI : ∀ w : World, (binOp .eql 93 .nilIface .nilIface).run Tryz.prog w = .ok (.bool true) w := fun _ => rfl
          go_wp2_with (first | ((with_reducible refine ldId 49 (.tmp 3) ?_); refine wpList_load_row (by rfl) 49 (.tmp 3) (by rfl) (w.heap.size) (by rfl) 49 (o.cs) (0, 0) _ (by exact Y.out) Tryz.underlying49 (by rfl) (by kernel_rfl) ?_))
          refine (ended_any B1 gw T gq cs st.length (rowsOf st) (.nilIface) a lv b0 mn bg fa flv wn ov hd qe ce sn o w7 ys HIV.out HAO.out HM.out HO1.out (by rw [HO2.out]; rfl) ⟨hmn0, by omega⟩ hst2 (by have := HSNB.out; omega) HB1.out HF.out.TB (by have := HF.out.S; rw [rowsOf_cons] at this; exact this) HF.out.E).mono ?_; rintro e w8 hre
          obtain ⟨rfl, qe2, ce2, ys2, hY, hF2, hT2, hU2, hK2, hE2⟩ := on_ended (x := (⟨a, lv, none⟩, .nilIface, b0)) HF.out HU2.out HT2.out hre
          have HY := hidB hY
          have HF2 := hidB hF2
          have HT3 := hidB hT2
          have HU3 := hidB hU2
          have HKV3 := hidB (HKV.out.step hK2 (fun j h => by rcases h with rfl | h | rfl; exact .inl HVT.out; exact HEV.out j h; exact .inr (Nat.le_refl _)))
          have HEV3 := hidB (fun j h => (hE2 j h).elim (HEV.out j) (fun h => Or.inr (Nat.le_trans HKV.out.size h)) : ∀ j, (Value.slice qe2 (sn + 1) ce2).ownBlock = some j → V j ∨ w.heap.size ≤ j)
          clear hre hY hF2 hT2 hU2 hK2 hE2
          go_wp2_with (first | ((with_reducible refine stId 49 (.tmp 3) (.tmp 40) ?_); refine wpList_store_row (by rfl) 49 (.tmp 3) (.tmp 40) (by rfl) (w.heap.size) ((toldI a.m o).cs) (by rfl) (by rfl) 49 (o.cs) (by exact HY.out) (by kernel_rfl) (by rfl) (by exact OI.one _ (told_key a.m _)) ?_))
          go_roundg m
          case measure => omega
          case rel => exact ⟨m, rfl, ⟨st, toldI a.m o, k', mn + 1, bg, some ⟨gq, 0, none⟩, cs, qe2, ce2, sn + 1, ys2, U, HGD.out, by have h1 := HSN.out; omega, by omega, by omega, by omega, by omega, by have := HST.out; simp only [List.length_cons] at this; omega, by have := HSNB.out; omega, HF2.out, HT3.out, HU3.out, HKV3.out, (fun j h => HUV.out j (h)), HSV.out, HEV3.out⟩⟩
        | some Sq =>
          obtain ⟨S, q⟩ := Sq
          obtain ⟨A, U', hTk, hTs, hAU, hUU, hdis⟩ := HTK.out
          obtain ⟨hfew, L, hL, hgood, hgo⟩ := HGO.out
          have HTKA := hidB (hTk.keep HBW.out.size (fun k hk => HBK.out k (hAU k hk)))
          have HTS := hidB (hTs.keep HBW.out.size (fun k hk => HBK.out k (hUU k hk)))
          have HAU := hidB hAU
          have HUU := hidB hUU
          have HDIS := hidB hdis
          have HGO2 := hidB hgo
          have HL := hidB hL
          have HTN := hidB (tk_next o [] w7 HTKA.out hfew HO3.out HO4.out (by rw [HO2.out]; exact RdL.nil _ _ _) (fun L' hL' => by rw [hL] at hL'; injection hL' with hL'; rw [← hL']; exact hgood))
          have HG7O := hidB (show B1 ≤ g7 ∧ g7 < w7.heap.size ∧ g7 ≠ T ∧ g7 ≠ w.heap.size ∧ g7 ≠ w.heap.size + 1 ∧ g7 ≠ gw ∧ (Value.slice (some ⟨gq, 0, none⟩) (st.length + 1) cs).ownBlock ≠ some g7 ∧ (Value.slice qe sn ce).ownBlock ≠ some g7 from by have h1 := HTL.out; have h2 := HWL.out; have h3 := HB1.out; have h4 := HL67.out; have h5 := HG6B.out; exact ⟨by omega, HL7.out, by omega, by omega, by omega, by omega, fun e => by have e2 : gq = g7 := Option.some.inj e; have := HGQ.out.2; omega, fun e => by have := HSE.out g7 e; omega⟩)
          clear hTk hTs hAU hUU hdis hfew hL hgood hgo
          rcases HTN.out with ⟨gt, hiv1, hcall⟩ | ⟨gt, hiv1, hcall⟩
          · skip
            subst hiv1
            have HCALL := hidB hcall
            clear hcall HTN
            have heqI : ∀ w : World, (binOp .eql 93 (.iface 134 (ptr gt)) .nilIface).run Tryz.prog w = .ok (.bool false) w := fun _ => rfl
            have hmeth : ∀ w : World, (method 378 134 (ptr gt) "Next").run Tryz.prog w = .ok (220, ptr gt) w := fun _ => by kernel_rfl
            go_wp2_with (first | ((with_reducible refine ldId 49 (.tmp 3) ?_); refine wpList_load_row (by rfl) 49 (.tmp 3) (by rfl) (w.heap.size) (by rfl) 49 (o.cs) (0, 0) _ (by exact Y.out) Tryz.underlying49 (by rfl) (by kernel_rfl) ?_))
            refine HCALL.out.mono ?_; rintro e w8 ⟨wt, nn, rfl, hone, hC⟩
            rw [HL.out] at hC
            obtain ⟨rfl, mid, hmid, hWR, hKA, hTk2⟩ := hC
            have HMID := hidB hmid
            have HNEW := hidB (fun j (hj : w7.heap.size ≤ j ∧ j < mid) => (show B1 ≤ j ∧ j < w8.heap.size ∧ j ≠ T ∧ j ≠ w.heap.size ∧ j ≠ w.heap.size + 1 ∧ j ≠ gw ∧ (Value.slice (some ⟨gq, 0, none⟩) (st.length + 1) cs).ownBlock ≠ some j ∧ (Value.slice qe sn ce).ownBlock ≠ some j from by have h0 := hTk2.lt j (.inr hj); have h1 := HTL.out; have h2 := HWL.out; have h3 := HB1.out; have h4 := HL67.out; have h5 := HG6B.out; have h6 := HL7.out; exact ⟨by omega, h0, by omega, by omega, by omega, by omega, fun e => by have e2 : gq = j := Option.some.inj e; have := HGQ.out.2; omega, fun e => by have := HSE.out j e; omega⟩))
            have HONE := hidB hone
            have HWR := hidB hWR
            have HUA := hidB (HU.out.sub HAU.out)
            have HF8 := hidB (HF.out.kept hKA HUA.out)
            have HKV8 := hidB (HKV.out.step hKA (fun j h => HUV.out j (HAU.out j h)))
            have HG6L := hidB X6.out.lt
            have NA := hidB (show ∀ j, g6 ≤ j → ¬ A j from fun j hj h => absurd (HUL.out j (HAU.out j h)) (by omega))
            have X68 := hidB (X6.out.kept hKA (NA.out g6 (Nat.le_refl _)))
            have X78 := hidB (X7.out.kept hKA (NA.out g7 (Nat.le_of_lt HL67.out)))
            have HTK8 := hidB hTk2
            have HTS8 := hidB (HTS.out.keep hKA.size (fun j hj => hKA.block j (HU.out j (HUU.out j hj)).2.1 (fun h => HDIS.out j h hj)))
            have HS78 := hidB hKA.size
            have HLT := hidB hTk2.lt
            clear hone hWR hKA hTk2 hmid HF X6 X7 HTKA HTS Y i0 HCALL heqI hmeth HUA HTK
            have hy3 : ∀ j, j ≠ g7 → (w8.setRow g7 wt.cs).heap[j]? = w8.heap[j]? := fun j hj => heap_setRow w8 hj _
            have hs9 : (w8.setRow g7 wt.cs).heap.size = w8.heap.size := by simp [World.setRow]
            have X79 := hidB (show Bk (w8.setRow g7 wt.cs) g7 51 wt.cs from X78.out.setRow _)
            have X69 := hidB (show Bk (w8.setRow g7 wt.cs) g6 95 (entC (.iface 134 (ptr gt)) a lv b0) from X68.out.setRow_far (g2 := g7) (by have := HL67.out; omega) _)
            have HKV9 := hidB (show Kept V w (w8.setRow g7 wt.cs) from HKV8.out.setRow (g := g7) (.inr (by have h1 := HG6B.out; have h2 := HL67.out; omega)) _)
            have HKG := hidB (show Kept (fun j => j = g7) w8 (w8.setRow g7 wt.cs) from Kept.setRow (S := fun j => j = g7) (Kept.refl _ _) (g := g7) (.inl rfl) _)
            have HUG := hidB (show UOk B1 gw T w.heap.size (.slice (some ⟨gq, 0, none⟩) (st.length + 1) cs) (.slice qe sn ce) (fun j => j = g7) w8 from fun j hj => by subst hj; exact ⟨HG7O.out.1, by have h1 := HG7O.out.2.1; have h2 := HS78.out; omega, HG7O.out.2.2⟩)
            have HF9 := hidB (HF8.out.kept HKG.out HUG.out)
            have HTS9 := hidB (HTS8.out.keep (w' := (w8.setRow g7 wt.cs)) (by rw [hs9]; exact Nat.le_refl _) (fun j hj => hy3 j (by have h1 := HUL.out j (HUU.out j hj); have h2 := HL67.out; omega)))
            have HTK9 := hidB (HTK8.out.keep (w' := (w8.setRow g7 wt.cs)) (by rw [hs9]; exact Nat.le_refl _) (fun j hj => hy3 j (by rcases hj with hj | hj; (have h1 := HUL.out j (HAU.out j hj); have h2 := HL67.out; omega); (have h2 := HL7.out; omega))))
            have HWR9 := hidB (show WantR (S L) mid wt (w8.setRow g7 wt.cs) from WantR.setRow HWR.out (by have h2 := HL7.out; have := HMID.out; omega) _)
            go_upto_region 12 with (first | ((with_reducible refine stId 51 (.tmp 7) (.tmp 35) ?_); refine wpList_store_row (by rfl) 51 (.tmp 7) (.tmp 35) (by rfl) (g7) (wt.cs) (by rfl) (by rfl) 51 (WI.zero.cs) (by exact X78.out) (by kernel_rfl) (by rfl) (by exact HONE.out) ?_))
            generalize hW : (w8.setRow g7 wt.cs) = w9 at *
            clear hW hy3 X78 X68 HF8 HTS8 HTK8 HWR HKG HUG HKV HKV8
            have HKV := HKV9
            clear HKV9
            cases hSL : S L with
            | out y ks =>
              have hg2 := HGO2.out
              rw [hSL] at hg2
              obtain ⟨hy1, rfl, k', hk', hgd2⟩ := hg2
              have HGD := hidB hgd2
              have hw2 := HWR9.out
              rw [hSL] at hw2
              obtain ⟨_, _, kv, hwt, hkown⟩ := hw2
              subst hwt
              have HKVO := hidB (own_one hkown)
              have HY1 := hidB hy1
              clear hgd2 hkown HWR9 hSL hy1
              have x0 : w9.cell? ⟨g7, 0, none⟩ = some (.int .u8 7) := X79.out.cell 0
              have HF := hidB HF9.out
              have HT2 := hidB HTS9.out
              have HU2 := hidB (show UOk B1 gw T w.heap.size (.slice (some ⟨gq, 0, none⟩) (st.length + 1) cs) (.slice qe sn ce) U' w9 from (HU.out.sub HUU.out).on (by rw [hs9]; exact HS78.out))
              clear HF9 HTS9
              go_wp2_with (first | ((with_reducible refine ldId 49 (.tmp 45) ?_); refine wpList_load_mid (by rfl) 49 (.tmp 45) (by rfl) (g7) 61 (by rfl) ((y.put kv).cs.toList) _ (by exact Bk.mid X79.out 61 _ rfl) Tryz.underlying49 (by rfl) (by kernel_rfl) ?_))
              refine (ended_any B1 gw T gq cs st.length (rowsOf st) (.iface 134 (ptr gt)) a lv b0 mn bg fa flv wn ov hd qe ce sn (y.put kv) w9 ys HIV.out HAO.out HM.out HY1.out HKVO.out ⟨hmn0, by omega⟩ hst2 (by have := HSNB.out; omega) HB1.out HF.out.TB (by have := HF.out.S; rw [rowsOf_cons] at this; exact this) HF.out.E).mono ?_; rintro e w8 hre
              obtain ⟨rfl, qe2, ce2, ys2, hY, hF2, hT2, hU2, hK2, hE2⟩ := on_ended (x := (⟨a, lv, some (S, q)⟩, .iface 134 (ptr gt), b0)) HF.out HU2.out HT2.out hre
              have HY := hidB hY
              have HF2 := hidB hF2
              have HT3 := hidB hT2
              have HU3 := hidB hU2
              have HKV3 := hidB (HKV.out.step hK2 (fun j h => by rcases h with rfl | h | rfl; exact .inl HVT.out; exact HEV.out j h; exact .inr (Nat.le_refl _)))
              have HEV3 := hidB (fun j h => (hE2 j h).elim (HEV.out j) (fun h => Or.inr (Nat.le_trans HKV.out.size h)) : ∀ j, (Value.slice qe2 (sn + 1) ce2).ownBlock = some j → V j ∨ w.heap.size ≤ j)
              clear hre hY hF2 hT2 hU2 hK2 hE2
              go_wp2_with (first | ((with_reducible refine stId 49 (.tmp 3) (.tmp 47) ?_); refine wpList_store_row (by rfl) 49 (.tmp 3) (.tmp 47) (by rfl) (w.heap.size) ((toldI a.m (y.put kv)).cs) (by rfl) (by rfl) 49 (o.cs) (by exact HY.out) (by kernel_rfl) (by rfl) (by exact OI.one _ (told_key a.m _)) ?_))
              go_roundg m
              case measure => omega
              case rel => exact ⟨m, rfl, ⟨st, toldI a.m y, k', mn + 1, bg, some ⟨gq, 0, none⟩, cs, qe2, ce2, sn + 1, ys2, U', HGD.out, by have h1 := HSN.out; omega, by omega, by omega, by omega, by omega, by have := HST.out; simp only [List.length_cons] at this; omega, by have := HSNB.out; omega, HF2.out, HT3.out, HU3.out, HKV3.out, (fun j h => HUV.out j (HUU.out j h)), HSV.out, HEV3.out⟩⟩
            | want W l =>
              have hg2 := HGO2.out
              rw [hSL] at hg2
              obtain ⟨rfl, ⟨hlv0, hlv⟩, hall⟩ := hg2
              have hw2 := HWR9.out
              rw [hSL] at hw2
              obtain ⟨av, hwt, hown⟩ := hw2
              obtain ⟨q0, c0, rfl⟩ := own_slice hown
              have hc0 : c0 ≤ maxLen := hown.2.elim (fun h => by cases h.1; exact Nat.zero_le _) (fun ⟨g, cap, cur, h1, _, _, _, hm, _⟩ => by cases h1; exact hm)
              obtain ⟨hkd, r, hbk, hnext⟩ := hall q0 c0 hc0
              subst hwt
              have HKD := hidB hkd
              have HBK2 := hidB hbk
              have HNX := hidB hnext
              have HQ2 := hidB (show (S L).q L = .wait L by rw [hSL]; rfl)
              clear hall hown hc0 hkd hbk hnext HWR9 hSL
              have x0 : w9.cell? ⟨g7, 0, none⟩ = some (.int .u8 1) := by rw [← HKD.out]; exact X79.out.cell 0
              go_wp2_with (first | ((with_reducible refine ldId 51 (.tmp 7) ?_); refine wpList_load_row (by rfl) 51 (.tmp 7) (by rfl) (g7) (by rfl) 51 ((W (.slice q0 0 c0)).cs) (0, 0) _ (by exact X79.out) Tryz.underlying51 (by rfl) (by kernel_rfl) ?_))
              refine (asked1_any (W (.slice q0 0 c0)) HKD.out HBK2.out.one _).mono ?_; rintro e w10 ⟨rfl, hb⟩
              have HF := hidB (HF9.out.on hb)
              replace HKV := hidB (HKV.out.trans (Kept.below hb))
              have HTS2 := hidB (HTS9.out.keep hb.size (fun j hj => hb.block j (by have h1 := (HU.out j (HUU.out j hj)).2.1; have h2 := HS78.out; omega)))
              have HTK2 := hidB (HTK9.out.on hb)
              have X6 := hidB (X69.out.on hb)
              have HS910 := hidB hb.size
              clear hb HF9 HTS9 HTK9 X69 X79 x0
              have X10 := hidB (show Bk (w10.alloc (.cells (W (.slice q0 0 c0)).ask.cs 34)) w10.heap.size 34 (W (.slice q0 0 c0)).ask.cs from Bk.new w10 _ _)
              have HB11 := hidB (show Below w10.heap.size w10 (w10.alloc (.cells (W (.slice q0 0 c0)).ask.cs 34)) from box_one _ _)
              go_upto_region 15 with (first | ((with_reducible refine wpId ?_); refine wpList_store_new (by rfl) 34 (.tmp 10) (.tmp 51) (by rfl) ((W (.slice q0 0 c0)).ask.cs) 34 _ (by rfl) (by rfl) (by kernel_rfl) (by rfl) (by exact AI.one _ HBK2.out.one) ?_))
              replace HF := hidB (HF.out.on HB11.out)
              replace HKV := hidB (HKV.out.trans (Kept.below HB11.out))
              replace HTS2 := hidB (HTS2.out.keep HB11.out.size (fun j hj => HB11.out.block j (by have h1 := (HU.out j (HUU.out j hj)).2.1; have h2 := HS78.out; have h3 := HS910.out; omega)))
              replace HTK2 := hidB (HTK2.out.on HB11.out)
              replace X6 := hidB (X6.out.on HB11.out)
              have HS1011 := hidB HB11.out.size
              clear HB11
              generalize hW : (w10.alloc (.cells (W (.slice q0 0 c0)).ask.cs 34)) = w11 at *
              generalize hG10 : w10.heap.size = g10 at *
              clear hW hG10
              have HS811 := hidB (show w8.heap.size ≤ w11.heap.size by have h2 := HS910.out; have h3 := HS1011.out; omega)
              have HS711 := hidB (Nat.le_trans HS78.out HS811.out)
              have l30 : w11.cell? ⟨g6, 30, none⟩ = some (.int .i64 lv) := X6.out.cell 30
              have HRD := hidB (HRX.out _ HF.out.X)
              have hlv0' : 0 ≤ lv := hlv0
              have hlv1 : lv + 1 ≤ 64 := hlv
              have hwl : IntKind.i64.wrap (lv + 1) = lv + 1 := IntWalk.i64_in _ (by omega)
              go_wp2_with (first | ((with_reducible refine ldId 34 (.tmp 10) ?_); refine wpList_load_row (by rfl) 34 (.tmp 10) (by rfl) (g10) (by rfl) 34 ((W (.slice q0 0 c0)).ask.cs) (0, 0) _ (by exact X10.out) Tryz.underlying34 (by rfl) (by kernel_rfl) ?_))
              have HUN := hidB (show UOk B1 gw T w.heap.size (.slice (some ⟨gq, 0, none⟩) (st.length + 1) cs) (.slice qe sn ce) (fun j => (A j ∨ (w7.heap.size ≤ j ∧ j < mid)) ∨ U' j) w11 from fun j hj => by rcases hj with (hj | hj) | hj; (exact ((HU.out.sub HAU.out).on (w' := w11) HS711.out) j hj); (exact ⟨(HNEW.out j hj).1, Nat.lt_of_lt_of_le (HNEW.out j hj).2.1 HS811.out, (HNEW.out j hj).2.2⟩); (exact ((HU.out.sub HUU.out).on (w' := w11) HS711.out) j hj))
              have HTT := hidB (show TksM ((⟨a, lv, some (S, .wait L)⟩, .iface 134 (ptr gt), b0) :: st) (fun j => (A j ∨ (w7.heap.size ≤ j ∧ j < mid)) ∨ U' j) w11 from ⟨rfl, fun j => A j ∨ (w7.heap.size ≤ j ∧ j < mid), U', by rw [← HQ2.out]; exact HTK2.out, HTS2.out, fun j h => .inl h, fun j h => .inr h, fun j h hU => by rcases h with h | h; exact HDIS.out j h hU; exact absurd (HU.out j (HUU.out j hU)).2.1 (by omega)⟩)
              refine (begin_any h hv wx B1 gw T (some ⟨gq, 0, none⟩) cs (st.length + 1) (rowsOf ((⟨a, lv, some (S, .wait L)⟩, .iface 134 (ptr gt), b0) :: st)) mn bg fa flv wn ov hd (.slice qe sn ce) (W (.slice q0 0 c0)).ask r (lv + 1) w11 HRX.out ⟨hbg0, by omega⟩ (by have := HST.out; simp only [List.length_cons] at this; omega) HBK2.out hlv HB1.out HF.out.X HF.out.TB HF.out.GW (by have := HF.out.S; rw [rowsOf_cons] at this ⊢; exact this)).mono ?_; rintro e w12 hre
              obtain ⟨rfl, qs2, cs2, iv2, tk2, U2, htk2, hY, hF2, hT2, hU2, hK2, hS2, hUU2⟩ := on_begun (st := ((⟨a, lv, some (S, .wait L)⟩, .iface 134 (ptr gt), b0) :: st)) HBK2.out (show OnF hv wx B1 gw T w.heap.size fa flv wn ov hd ((⟨a, lv, some (S, .wait L)⟩, .iface 134 (ptr gt), b0) :: st) o mn bg (some ⟨gq, 0, none⟩) cs qe ce sn ys w11 from ⟨HF.out.TB, HF.out.GW, by have := HF.out.S; rw [rowsOf_cons] at this ⊢; exact this, HF.out.E, HF.out.Y, HF.out.R, HF.out.X, HF.out.nT, HF.out.bT, HF.out.bG⟩) HUN.out HTT.out hre
              have HY := hidB hY
              have HF2 := hidB hF2
              have HT3 := hidB hT2
              have HU3 := hidB hU2
              have HTK3 := hidB htk2
              have HW7W := hidB (show w.heap.size ≤ w7.heap.size by have h1 := HG6B.out; have h2 := HL67.out; have h3 := HL7.out; omega)
              have HKV3 := hidB (HKV.out.step hK2 (fun j h => by rcases h with rfl | h | rfl; exact .inl HVT.out; exact HSV.out j h; exact .inr (Nat.le_refl _)))
              have HSV3 := hidB (fun j h => (hS2 j h).elim (HSV.out j) (fun h => Or.inr (Nat.le_trans HKV.out.size h)) : ∀ j, (Value.slice qs2 ((st.length + 1) + 1) cs2).ownBlock = some j → V j ∨ w.heap.size ≤ j)
              have HUV3 := hidB (fun j h => (hUU2 j h).elim (fun h => h.elim (fun h => h.elim (fun h => HUV.out j (HAU.out j h)) (fun h => Or.inr (Nat.le_trans HW7W.out h.1))) (fun h => HUV.out j (HUU.out j h))) (fun h => Or.inr (Nat.le_trans HKV.out.size h)) : ∀ j, U2 j → V j ∨ w.heap.size ≤ j)
              clear hre hY hF2 hT2 hU2 htk2 hK2 hS2 hUU2
              have HBK3 := hidB (show (begO r).kd = 1 ∧ (begO r).keys.oneCell' = true from by cases r with | now x => exact ⟨HBK2.out.now.1, by rw [show (begO (.now x)).keys = vNil from HBK2.out.now.2]; rfl⟩ | tk P => exact ⟨rfl, rfl⟩)
              go_upto_region 18 with (first | ((with_reducible refine stId 49 (.tmp 3) (.tmp 67) ?_); refine wpList_store_row (by rfl) 49 (.tmp 3) (.tmp 67) (by rfl) (w.heap.size) ((begO r).cs) (by rfl) (by rfl) 49 (o.cs) (by exact HY.out) (by kernel_rfl) (by rfl) (by exact OI.one _ HBK3.out.2) ?_))
              generalize hW : (w12.setRow (w.heap.size) (begO r).cs) = w13 at *
              clear hW HY
              have b0' : w13.cell? ⟨w.heap.size, 0, none⟩ = some (.int .u8 1) := by rw [← HBK3.out.1]; exact HF2.out.Y.cell 0
              go_wp2_with fail
              go_roundg m
              case measure => omega
              case rel =>
                have hgd3 : Good h m (((⟨(W (.slice q0 0 c0)).ask, lv + 1, tk2⟩, iv2, mn) :: ((⟨a, lv, some (S, .wait L)⟩, .iface 134 (ptr gt), b0) :: st)).map (·.1)) (begO r) res k := by
                  have hn := HNX.out
                  have ht := HTK3.out
                  cases r with
                  | now x => subst ht; exact hn
                  | tk P => obtain ⟨S', hP, rfl⟩ := ht; exact hn S' hP
                exact ⟨m, rfl, ((⟨(W (.slice q0 0 c0)).ask, lv + 1, tk2⟩, iv2, mn) :: ((⟨a, lv, some (S, .wait L)⟩, .iface 134 (ptr gt), b0) :: st)), _, k, mn, bg + 1, qs2, cs2, qe, ce, sn, ys, U2, hgd3, HSN.out, by omega, by omega, by omega, by omega, by have := HST.out; simp only [List.length_cons] at this ⊢; omega, by have := HSNB.out; omega, HF2.out, HT3.out, HU3.out, HKV3.out, HUV3.out, HSV3.out, HEV.out⟩
          · skip
            subst hiv1
            have HCALL := hidB hcall
            clear hcall HTN
            have heqI : ∀ w : World, (binOp .eql 93 (.iface 115 (ptr gt)) .nilIface).run Tryz.prog w = .ok (.bool false) w := fun _ => rfl
            have hmeth : ∀ w : World, (method 378 115 (ptr gt) "Next").run Tryz.prog w = .ok (219, ptr gt) w := fun _ => by kernel_rfl
            go_wp2_with (first | ((with_reducible refine ldId 49 (.tmp 3) ?_); refine wpList_load_row (by rfl) 49 (.tmp 3) (by rfl) (w.heap.size) (by rfl) 49 (o.cs) (0, 0) _ (by exact Y.out) Tryz.underlying49 (by rfl) (by kernel_rfl) ?_))
            refine HCALL.out.mono ?_; rintro e w8 ⟨wt, nn, rfl, hone, hC⟩
            rw [HL.out] at hC
            obtain ⟨rfl, mid, hmid, hWR, hKA, hTk2⟩ := hC
            have HMID := hidB hmid
            have HNEW := hidB (fun j (hj : w7.heap.size ≤ j ∧ j < mid) => (show B1 ≤ j ∧ j < w8.heap.size ∧ j ≠ T ∧ j ≠ w.heap.size ∧ j ≠ w.heap.size + 1 ∧ j ≠ gw ∧ (Value.slice (some ⟨gq, 0, none⟩) (st.length + 1) cs).ownBlock ≠ some j ∧ (Value.slice qe sn ce).ownBlock ≠ some j from by have h0 := hTk2.lt j (.inr hj); have h1 := HTL.out; have h2 := HWL.out; have h3 := HB1.out; have h4 := HL67.out; have h5 := HG6B.out; have h6 := HL7.out; exact ⟨by omega, h0, by omega, by omega, by omega, by omega, fun e => by have e2 : gq = j := Option.some.inj e; have := HGQ.out.2; omega, fun e => by have := HSE.out j e; omega⟩))
            have HONE := hidB hone
            have HWR := hidB hWR
            have HUA := hidB (HU.out.sub HAU.out)
            have HF8 := hidB (HF.out.kept hKA HUA.out)
            have HKV8 := hidB (HKV.out.step hKA (fun j h => HUV.out j (HAU.out j h)))
            have HG6L := hidB X6.out.lt
            have NA := hidB (show ∀ j, g6 ≤ j → ¬ A j from fun j hj h => absurd (HUL.out j (HAU.out j h)) (by omega))
            have X68 := hidB (X6.out.kept hKA (NA.out g6 (Nat.le_refl _)))
            have X78 := hidB (X7.out.kept hKA (NA.out g7 (Nat.le_of_lt HL67.out)))
            have HTK8 := hidB hTk2
            have HTS8 := hidB (HTS.out.keep hKA.size (fun j hj => hKA.block j (HU.out j (HUU.out j hj)).2.1 (fun h => HDIS.out j h hj)))
            have HS78 := hidB hKA.size
            have HLT := hidB hTk2.lt
            clear hone hWR hKA hTk2 hmid HF X6 X7 HTKA HTS Y i0 HCALL heqI hmeth HUA HTK
            have hy3 : ∀ j, j ≠ g7 → (w8.setRow g7 wt.cs).heap[j]? = w8.heap[j]? := fun j hj => heap_setRow w8 hj _
            have hs9 : (w8.setRow g7 wt.cs).heap.size = w8.heap.size := by simp [World.setRow]
            have X79 := hidB (show Bk (w8.setRow g7 wt.cs) g7 51 wt.cs from X78.out.setRow _)
            have X69 := hidB (show Bk (w8.setRow g7 wt.cs) g6 95 (entC (.iface 115 (ptr gt)) a lv b0) from X68.out.setRow_far (g2 := g7) (by have := HL67.out; omega) _)
            have HKV9 := hidB (show Kept V w (w8.setRow g7 wt.cs) from HKV8.out.setRow (g := g7) (.inr (by have h1 := HG6B.out; have h2 := HL67.out; omega)) _)
            have HKG := hidB (show Kept (fun j => j = g7) w8 (w8.setRow g7 wt.cs) from Kept.setRow (S := fun j => j = g7) (Kept.refl _ _) (g := g7) (.inl rfl) _)
            have HUG := hidB (show UOk B1 gw T w.heap.size (.slice (some ⟨gq, 0, none⟩) (st.length + 1) cs) (.slice qe sn ce) (fun j => j = g7) w8 from fun j hj => by subst hj; exact ⟨HG7O.out.1, by have h1 := HG7O.out.2.1; have h2 := HS78.out; omega, HG7O.out.2.2⟩)
            have HF9 := hidB (HF8.out.kept HKG.out HUG.out)
            have HTS9 := hidB (HTS8.out.keep (w' := (w8.setRow g7 wt.cs)) (by rw [hs9]; exact Nat.le_refl _) (fun j hj => hy3 j (by have h1 := HUL.out j (HUU.out j hj); have h2 := HL67.out; omega)))
            have HTK9 := hidB (HTK8.out.keep (w' := (w8.setRow g7 wt.cs)) (by rw [hs9]; exact Nat.le_refl _) (fun j hj => hy3 j (by rcases hj with hj | hj; (have h1 := HUL.out j (HAU.out j hj); have h2 := HL67.out; omega); (have h2 := HL7.out; omega))))
            have HWR9 := hidB (show WantR (S L) mid wt (w8.setRow g7 wt.cs) from WantR.setRow HWR.out (by have h2 := HL7.out; have := HMID.out; omega) _)
            go_upto_region 12 with (first | ((with_reducible refine stId 51 (.tmp 7) (.tmp 35) ?_); refine wpList_store_row (by rfl) 51 (.tmp 7) (.tmp 35) (by rfl) (g7) (wt.cs) (by rfl) (by rfl) 51 (WI.zero.cs) (by exact X78.out) (by kernel_rfl) (by rfl) (by exact HONE.out) ?_))
            generalize hW : (w8.setRow g7 wt.cs) = w9 at *
            clear hW hy3 X78 X68 HF8 HTS8 HTK8 HWR HKG HUG HKV HKV8
            have HKV := HKV9
            clear HKV9
            cases hSL : S L with
            | out y ks =>
              have hg2 := HGO2.out
              rw [hSL] at hg2
              obtain ⟨hy1, rfl, k', hk', hgd2⟩ := hg2
              have HGD := hidB hgd2
              have hw2 := HWR9.out
              rw [hSL] at hw2
              obtain ⟨_, _, kv, hwt, hkown⟩ := hw2
              subst hwt
              have HKVO := hidB (own_one hkown)
              have HY1 := hidB hy1
              clear hgd2 hkown HWR9 hSL hy1
              have x0 : w9.cell? ⟨g7, 0, none⟩ = some (.int .u8 7) := X79.out.cell 0
              have HF := hidB HF9.out
              have HT2 := hidB HTS9.out
              have HU2 := hidB (show UOk B1 gw T w.heap.size (.slice (some ⟨gq, 0, none⟩) (st.length + 1) cs) (.slice qe sn ce) U' w9 from (HU.out.sub HUU.out).on (by rw [hs9]; exact HS78.out))
              clear HF9 HTS9
              go_wp2_with (first | ((with_reducible refine ldId 49 (.tmp 45) ?_); refine wpList_load_mid (by rfl) 49 (.tmp 45) (by rfl) (g7) 61 (by rfl) ((y.put kv).cs.toList) _ (by exact Bk.mid X79.out 61 _ rfl) Tryz.underlying49 (by rfl) (by kernel_rfl) ?_))
              refine (ended_any B1 gw T gq cs st.length (rowsOf st) (.iface 115 (ptr gt)) a lv b0 mn bg fa flv wn ov hd qe ce sn (y.put kv) w9 ys HIV.out HAO.out HM.out HY1.out HKVO.out ⟨hmn0, by omega⟩ hst2 (by have := HSNB.out; omega) HB1.out HF.out.TB (by have := HF.out.S; rw [rowsOf_cons] at this; exact this) HF.out.E).mono ?_; rintro e w8 hre
              obtain ⟨rfl, qe2, ce2, ys2, hY, hF2, hT2, hU2, hK2, hE2⟩ := on_ended (x := (⟨a, lv, some (S, q)⟩, .iface 115 (ptr gt), b0)) HF.out HU2.out HT2.out hre
              have HY := hidB hY
              have HF2 := hidB hF2
              have HT3 := hidB hT2
              have HU3 := hidB hU2
              have HKV3 := hidB (HKV.out.step hK2 (fun j h => by rcases h with rfl | h | rfl; exact .inl HVT.out; exact HEV.out j h; exact .inr (Nat.le_refl _)))
              have HEV3 := hidB (fun j h => (hE2 j h).elim (HEV.out j) (fun h => Or.inr (Nat.le_trans HKV.out.size h)) : ∀ j, (Value.slice qe2 (sn + 1) ce2).ownBlock = some j → V j ∨ w.heap.size ≤ j)
              clear hre hY hF2 hT2 hU2 hK2 hE2
              go_wp2_with (first | ((with_reducible refine stId 49 (.tmp 3) (.tmp 47) ?_); refine wpList_store_row (by rfl) 49 (.tmp 3) (.tmp 47) (by rfl) (w.heap.size) ((toldI a.m (y.put kv)).cs) (by rfl) (by rfl) 49 (o.cs) (by exact HY.out) (by kernel_rfl) (by rfl) (by exact OI.one _ (told_key a.m _)) ?_))
              go_roundg m
              case measure => omega
              case rel => exact ⟨m, rfl, ⟨st, toldI a.m y, k', mn + 1, bg, some ⟨gq, 0, none⟩, cs, qe2, ce2, sn + 1, ys2, U', HGD.out, by have h1 := HSN.out; omega, by omega, by omega, by omega, by omega, by have := HST.out; simp only [List.length_cons] at this; omega, by have := HSNB.out; omega, HF2.out, HT3.out, HU3.out, HKV3.out, (fun j h => HUV.out j (HUU.out j h)), HSV.out, HEV3.out⟩⟩
            | want W l =>
              have hg2 := HGO2.out
              rw [hSL] at hg2
              obtain ⟨rfl, ⟨hlv0, hlv⟩, hall⟩ := hg2
              have hw2 := HWR9.out
              rw [hSL] at hw2
              obtain ⟨av, hwt, hown⟩ := hw2
              obtain ⟨q0, c0, rfl⟩ := own_slice hown
              have hc0 : c0 ≤ maxLen := hown.2.elim (fun h => by cases h.1; exact Nat.zero_le _) (fun ⟨g, cap, cur, h1, _, _, _, hm, _⟩ => by cases h1; exact hm)
              obtain ⟨hkd, r, hbk, hnext⟩ := hall q0 c0 hc0
              subst hwt
              have HKD := hidB hkd
              have HBK2 := hidB hbk
              have HNX := hidB hnext
              have HQ2 := hidB (show (S L).q L = .wait L by rw [hSL]; rfl)
              clear hall hown hc0 hkd hbk hnext HWR9 hSL
              have x0 : w9.cell? ⟨g7, 0, none⟩ = some (.int .u8 1) := by rw [← HKD.out]; exact X79.out.cell 0
              go_wp2_with (first | ((with_reducible refine ldId 51 (.tmp 7) ?_); refine wpList_load_row (by rfl) 51 (.tmp 7) (by rfl) (g7) (by rfl) 51 ((W (.slice q0 0 c0)).cs) (0, 0) _ (by exact X79.out) Tryz.underlying51 (by rfl) (by kernel_rfl) ?_))
              refine (asked1_any (W (.slice q0 0 c0)) HKD.out HBK2.out.one _).mono ?_; rintro e w10 ⟨rfl, hb⟩
              have HF := hidB (HF9.out.on hb)
              replace HKV := hidB (HKV.out.trans (Kept.below hb))
              have HTS2 := hidB (HTS9.out.keep hb.size (fun j hj => hb.block j (by have h1 := (HU.out j (HUU.out j hj)).2.1; have h2 := HS78.out; omega)))
              have HTK2 := hidB (HTK9.out.on hb)
              have X6 := hidB (X69.out.on hb)
              have HS910 := hidB hb.size
              clear hb HF9 HTS9 HTK9 X69 X79 x0
              have X10 := hidB (show Bk (w10.alloc (.cells (W (.slice q0 0 c0)).ask.cs 34)) w10.heap.size 34 (W (.slice q0 0 c0)).ask.cs from Bk.new w10 _ _)
              have HB11 := hidB (show Below w10.heap.size w10 (w10.alloc (.cells (W (.slice q0 0 c0)).ask.cs 34)) from box_one _ _)
              go_upto_region 15 with (first | ((with_reducible refine wpId ?_); refine wpList_store_new (by rfl) 34 (.tmp 10) (.tmp 51) (by rfl) ((W (.slice q0 0 c0)).ask.cs) 34 _ (by rfl) (by rfl) (by kernel_rfl) (by rfl) (by exact AI.one _ HBK2.out.one) ?_))
              replace HF := hidB (HF.out.on HB11.out)
              replace HKV := hidB (HKV.out.trans (Kept.below HB11.out))
              replace HTS2 := hidB (HTS2.out.keep HB11.out.size (fun j hj => HB11.out.block j (by have h1 := (HU.out j (HUU.out j hj)).2.1; have h2 := HS78.out; have h3 := HS910.out; omega)))
              replace HTK2 := hidB (HTK2.out.on HB11.out)
              replace X6 := hidB (X6.out.on HB11.out)
              have HS1011 := hidB HB11.out.size
              clear HB11
              generalize hW : (w10.alloc (.cells (W (.slice q0 0 c0)).ask.cs 34)) = w11 at *
              generalize hG10 : w10.heap.size = g10 at *
              clear hW hG10
              have HS811 := hidB (show w8.heap.size ≤ w11.heap.size by have h2 := HS910.out; have h3 := HS1011.out; omega)
              have HS711 := hidB (Nat.le_trans HS78.out HS811.out)
              have l30 : w11.cell? ⟨g6, 30, none⟩ = some (.int .i64 lv) := X6.out.cell 30
              have HRD := hidB (HRX.out _ HF.out.X)
              have hlv0' : 0 ≤ lv := hlv0
              have hlv1 : lv + 1 ≤ 64 := hlv
              have hwl : IntKind.i64.wrap (lv + 1) = lv + 1 := IntWalk.i64_in _ (by omega)
              go_wp2_with (first | ((with_reducible refine ldId 34 (.tmp 10) ?_); refine wpList_load_row (by rfl) 34 (.tmp 10) (by rfl) (g10) (by rfl) 34 ((W (.slice q0 0 c0)).ask.cs) (0, 0) _ (by exact X10.out) Tryz.underlying34 (by rfl) (by kernel_rfl) ?_))
              have HUN := hidB (show UOk B1 gw T w.heap.size (.slice (some ⟨gq, 0, none⟩) (st.length + 1) cs) (.slice qe sn ce) (fun j => (A j ∨ (w7.heap.size ≤ j ∧ j < mid)) ∨ U' j) w11 from fun j hj => by rcases hj with (hj | hj) | hj; (exact ((HU.out.sub HAU.out).on (w' := w11) HS711.out) j hj); (exact ⟨(HNEW.out j hj).1, Nat.lt_of_lt_of_le (HNEW.out j hj).2.1 HS811.out, (HNEW.out j hj).2.2⟩); (exact ((HU.out.sub HUU.out).on (w' := w11) HS711.out) j hj))
              have HTT := hidB (show TksM ((⟨a, lv, some (S, .wait L)⟩, .iface 115 (ptr gt), b0) :: st) (fun j => (A j ∨ (w7.heap.size ≤ j ∧ j < mid)) ∨ U' j) w11 from ⟨rfl, fun j => A j ∨ (w7.heap.size ≤ j ∧ j < mid), U', by rw [← HQ2.out]; exact HTK2.out, HTS2.out, fun j h => .inl h, fun j h => .inr h, fun j h hU => by rcases h with h | h; exact HDIS.out j h hU; exact absurd (HU.out j (HUU.out j hU)).2.1 (by omega)⟩)
              refine (begin_any h hv wx B1 gw T (some ⟨gq, 0, none⟩) cs (st.length + 1) (rowsOf ((⟨a, lv, some (S, .wait L)⟩, .iface 115 (ptr gt), b0) :: st)) mn bg fa flv wn ov hd (.slice qe sn ce) (W (.slice q0 0 c0)).ask r (lv + 1) w11 HRX.out ⟨hbg0, by omega⟩ (by have := HST.out; simp only [List.length_cons] at this; omega) HBK2.out hlv HB1.out HF.out.X HF.out.TB HF.out.GW (by have := HF.out.S; rw [rowsOf_cons] at this ⊢; exact this)).mono ?_; rintro e w12 hre
              obtain ⟨rfl, qs2, cs2, iv2, tk2, U2, htk2, hY, hF2, hT2, hU2, hK2, hS2, hUU2⟩ := on_begun (st := ((⟨a, lv, some (S, .wait L)⟩, .iface 115 (ptr gt), b0) :: st)) HBK2.out (show OnF hv wx B1 gw T w.heap.size fa flv wn ov hd ((⟨a, lv, some (S, .wait L)⟩, .iface 115 (ptr gt), b0) :: st) o mn bg (some ⟨gq, 0, none⟩) cs qe ce sn ys w11 from ⟨HF.out.TB, HF.out.GW, by have := HF.out.S; rw [rowsOf_cons] at this ⊢; exact this, HF.out.E, HF.out.Y, HF.out.R, HF.out.X, HF.out.nT, HF.out.bT, HF.out.bG⟩) HUN.out HTT.out hre
              have HY := hidB hY
              have HF2 := hidB hF2
              have HT3 := hidB hT2
              have HU3 := hidB hU2
              have HTK3 := hidB htk2
              have HW7W := hidB (show w.heap.size ≤ w7.heap.size by have h1 := HG6B.out; have h2 := HL67.out; have h3 := HL7.out; omega)
              have HKV3 := hidB (HKV.out.step hK2 (fun j h => by rcases h with rfl | h | rfl; exact .inl HVT.out; exact HSV.out j h; exact .inr (Nat.le_refl _)))
              have HSV3 := hidB (fun j h => (hS2 j h).elim (HSV.out j) (fun h => Or.inr (Nat.le_trans HKV.out.size h)) : ∀ j, (Value.slice qs2 ((st.length + 1) + 1) cs2).ownBlock = some j → V j ∨ w.heap.size ≤ j)
              have HUV3 := hidB (fun j h => (hUU2 j h).elim (fun h => h.elim (fun h => h.elim (fun h => HUV.out j (HAU.out j h)) (fun h => Or.inr (Nat.le_trans HW7W.out h.1))) (fun h => HUV.out j (HUU.out j h))) (fun h => Or.inr (Nat.le_trans HKV.out.size h)) : ∀ j, U2 j → V j ∨ w.heap.size ≤ j)
              clear hre hY hF2 hT2 hU2 htk2 hK2 hS2 hUU2
              have HBK3 := hidB (show (begO r).kd = 1 ∧ (begO r).keys.oneCell' = true from by cases r with | now x => exact ⟨HBK2.out.now.1, by rw [show (begO (.now x)).keys = vNil from HBK2.out.now.2]; rfl⟩ | tk P => exact ⟨rfl, rfl⟩)
              go_upto_region 18 with (first | ((with_reducible refine stId 49 (.tmp 3) (.tmp 67) ?_); refine wpList_store_row (by rfl) 49 (.tmp 3) (.tmp 67) (by rfl) (w.heap.size) ((begO r).cs) (by rfl) (by rfl) 49 (o.cs) (by exact HY.out) (by kernel_rfl) (by rfl) (by exact OI.one _ HBK3.out.2) ?_))
              generalize hW : (w12.setRow (w.heap.size) (begO r).cs) = w13 at *
              clear hW HY
              have b0' : w13.cell? ⟨w.heap.size, 0, none⟩ = some (.int .u8 1) := by rw [← HBK3.out.1]; exact HF2.out.Y.cell 0
              go_wp2_with fail
              go_roundg m
              case measure => omega
              case rel =>
                have hgd3 : Good h m (((⟨(W (.slice q0 0 c0)).ask, lv + 1, tk2⟩, iv2, mn) :: ((⟨a, lv, some (S, .wait L)⟩, .iface 115 (ptr gt), b0) :: st)).map (·.1)) (begO r) res k := by
                  have hn := HNX.out
                  have ht := HTK3.out
                  cases r with
                  | now x => subst ht; exact hn
                  | tk P => obtain ⟨S', hP, rfl⟩ := ht; exact hn S' hP
                exact ⟨m, rfl, ((⟨(W (.slice q0 0 c0)).ask, lv + 1, tk2⟩, iv2, mn) :: ((⟨a, lv, some (S, .wait L)⟩, .iface 115 (ptr gt), b0) :: st)), _, k, mn, bg + 1, qs2, cs2, qe, ce, sn, ys, U2, hgd3, HSN.out, by omega, by omega, by omega, by omega, by have := HST.out; simp only [List.length_cons] at this ⊢; omega, by have := HSNB.out; omega, HF2.out, HT3.out, HU3.out, HKV3.out, HUV3.out, HSV3.out, HEV.out⟩

end Go.Proofs.YtbmaodlghglopaaGreatDoor
