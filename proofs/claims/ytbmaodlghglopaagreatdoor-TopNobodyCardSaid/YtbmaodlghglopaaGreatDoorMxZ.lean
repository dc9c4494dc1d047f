/-
  A call, a construction, a body is begun.
  A task goes on.
  A heap with one more object: heap.New.
-/
import Derived.Test.YtbmaodlghglopaaGreatDoorNext
import Derived.Test.YtbmaodlghglopaaGreatDoorMxX
import Derived.Test.YtbmaodlghglopaaGreatDoorMxA
import Derived.Test.YtbmaodlghglopaaGreatDoorHBare
namespace Go.Proofs.YtbmaodlghglopaaGreatDoor
open Go.RowKit

set_option maxHeartbeats 8000000 in
set_option maxRecDepth 100000 in
theorem newM_any (fn : Nat) (caps : Array Value) (w : World) : Calls Tryz.prog 75 #[.func (.func fn) #[] caps] w fun e w' => e = .returned (.pointer (some ⟨w.heap.size, 0, none⟩)) ∧ w' = w.alloc (.cells (machC fn caps vNil 0 0 false false) 172) := by
  go_enter Tryz.func75, Tryz.ntmps75
  go_wp2_with (first | ((with_reducible refine wpId ?_); refine wpList_build_to (by rfl) 172 _ (by rfl) ((machC fn caps vNil 0 0 false false)) (by kernel_rfl) ?_))
  go_ret
  exact ⟨rfl, rfl⟩

abbrev ptr (g : Nat) : Value := .pointer (some ⟨g, 0, none⟩)
/-! ### a body -/
/-- A task: a block that points to a machine; all of it in blocks of A. -/
structure TaskW (S : List (OI × List KI) → Res) (T : Nat) (q : Q) (A : Nat → Prop) (w : World) : Prop where
  lt : ∀ k, A k → k < w.heap.size
  m : ∃ fn caps E Cap g A', RunF S fn caps E Cap ∧ MachW S fn caps E Cap g q A' w ∧ (∀ k, A' k → A k) ∧ ¬ A' T ∧ A T ∧ Bk w T 140 #[ptr g]
theorem TaskW.keep {S : List (OI × List KI) → Res} {T : Nat} {q : Q} {A : Nat → Prop} {w w' : World} (h : TaskW S T q A w) (hs : w.heap.size ≤ w'.heap.size) (hb : ∀ k, A k → w'.heap[k]? = w.heap[k]?) : TaskW S T q A w' := by
  obtain ⟨h0, fn, caps, E, Cap, g, A', h1, h2, h3, h4, h5, h6⟩ := h
  exact ⟨fun k hk => Nat.lt_of_lt_of_le (h0 k hk) hs, fn, caps, E, Cap, g, A', h1, h2.keep h1 hs fun k hk => hb k (h3 k hk), h3, h4, h5, (hb T h5).trans h6⟩
theorem TaskW.on {S : List (OI × List KI) → Res} {T : Nat} {q : Q} {A : Nat → Prop} {w w' : World} (h : TaskW S T q A w) (hb : Below w.heap.size w w') : TaskW S T q A w' := h.keep hb.size fun k hk => hb.block k (h.lt k hk)
/-- A machine that has not begun. -/
theorem mach_fresh {S : List (OI × List KI) → Res} {fn : Nat} {caps : Array Value} {E : Nat → Prop} {Cap : World → Prop} {g : Nat} {w : World} (hg : Bk w g 172 (machC fn caps vNil 0 0 false false)) (hC : Cap w) (hE : ∀ k, E k → k < w.heap.size) : MachW S fn caps E Cap g .fresh (fun k => E k ∨ k = g) w :=
  ⟨hC, fun _ h => .inl h, .inr rfl, fun k h => by rcases h with h | rfl; exact hE k h; exact hg.lt, hg⟩
theorem task_fresh {S : List (OI × List KI) → Res} {fn : Nat} {caps : Array Value} {E : Nat → Prop} {Cap : World → Prop} {g T : Nat} {w : World} (hF : RunF S fn caps E Cap) (hg : Bk w g 172 (machC fn caps vNil 0 0 false false)) (hC : Cap w) (hE : ∀ k, E k → k < w.heap.size ∧ k ≠ T) (hT : Bk w T 140 #[ptr g]) (hne : T ≠ g) : TaskW S T .fresh (fun k => E k ∨ k = g ∨ k = T) w :=
  ⟨fun k h => by rcases h with h | rfl | rfl; exact (hE k h).1; exact hg.lt; exact hT.lt, fn, caps, E, Cap, g, _, hF, mach_fresh hg hC fun k h => (hE k h).1, fun k h => by rcases h with h | h; exact .inl h; exact .inr (.inl h), fun h => by rcases h with h | h; exact (hE T h).2 rfl; exact hne h, .inr (.inr rfl), hT⟩

end Go.Proofs.YtbmaodlghglopaaGreatDoor

namespace Go.Proofs.YtbmaodlghglopaaGreatDoor
open Go.RowKit

/-- What going on comes to: a want and an error. -/
def NextC (S : List (OI × List KI) → Res) (fn : Nat) (caps : Array Value) (E : Nat → Prop) (Cap : World → Prop) (g : Nat) (q : Q) (A : Nat → Prop) (x : OI) (ks : List KI) (w : World) (wt : WI) (n : Int) (w' : World) : Prop := match nextQ S x ks q with
  | none => n = 160 ∧ wt = WI.zero ∧ Below w.heap.size w w'
  | some L => n = 0 ∧ ∃ mid, w.heap.size ≤ mid ∧ WantR (S L) mid wt w' ∧ Kept A w w' ∧ MachW S fn caps E Cap g ((S L).q L) (fun k => A k ∨ (w.heap.size ≤ k ∧ k < mid)) w'
def NextP (S : List (OI × List KI) → Res) (fn : Nat) (caps : Array Value) (E : Nat → Prop) (Cap : World → Prop) (g : Nat) (q : Q) (A : Nat → Prop) (x : OI) (ks : List KI) (w : World) (e : Ending) (w' : World) : Prop :=
  ∃ (wt : WI) (n : Int), e = .returned (.tuple #[wt.a, .int .i64 n]) ∧ wt.cs.all (·.oneCell') = true ∧ NextC S fn caps E Cap g q A x ks w wt n w'
theorem wantR_one {S : List (OI × List KI) → Res} {fn : Nat} {caps : Array Value} {E : Nat → Prop} {Cap : World → Prop} (hF : RunF S fn caps E Cap) {L : List (OI × List KI)} {mid : Nat} {wt : WI} {w' : World} (h : WantR (S L) mid wt w') : wt.cs.all (·.oneCell') = true := by
  cases hS : S L with
  | out y ky =>
    rw [hS] at h
    obtain ⟨_, _, kv, rfl, hown⟩ := h
    exact WI.one _ rfl rfl rfl (own_one hown)
  | want WW l =>
    rw [hS] at h
    obtain ⟨av, rfl, hown⟩ := h
    obtain ⟨h1, h2, h3, h4⟩ := (hF.km L WW l hS av).2.2 (own_one hown)
    exact WI.one _ h1 h2 h3 h4
/-- Fresh, or waiting with fewer than 899 answers, or over. -/
def Q.few : Q → Prop
  | .wait L => L.length < 899
  | _ => True
theorem nextP_of {S : List (OI × List KI) → Res} {fn : Nat} {caps : Array Value} {E : Nat → Prop} {Cap : World → Prop} (hF : RunF S fn caps E Cap) {g : Nat} {q : Q} {A : Nat → Prop} {x : OI} {ks : List KI} {w : World} {L : List (OI × List KI)} (hn : nextQ S x ks q = some L) (e : Ending) (w' : World) (h : NextR S fn caps E Cap g A L w e w') : NextP S fn caps E Cap g q A x ks w e w' := by
  obtain ⟨wt, mid, h1, h2, h3, h4, h5⟩ := h
  exact ⟨wt, 0, h1, wantR_one hF h3, by unfold NextC; rw [hn]; exact ⟨rfl, mid, h2, h3, h4, h5⟩⟩
theorem nextP_no {S : List (OI × List KI) → Res} {fn : Nat} {caps : Array Value} {E : Nat → Prop} {Cap : World → Prop} {g : Nat} {q : Q} {A : Nat → Prop} {x : OI} {ks : List KI} {w : World} (hn : nextQ S x ks q = none) (e : Ending) (w' : World) (h : e = .returned (.tuple #[WI.zero.a, .int .i64 160]) ∧ Below w.heap.size w w') : NextP S fn caps E Cap g q A x ks w e w' :=
  ⟨WI.zero, 160, h.1, WI.one _ rfl rfl rfl rfl, by unfold NextC; rw [hn]; exact ⟨rfl, rfl, h.2⟩⟩
theorem mach_next {S : List (OI × List KI) → Res} {fn : Nat} {caps : Array Value} {E : Nat → Prop} {Cap : World → Prop} (hF : RunF S fn caps E Cap) (g : Nat) (q : Q) (A : Nat → Prop) (x : OI) (ks : List KI) (w : World) (hM : MachW S fn caps E Cap g q A w) (hq : q.few) (hx : x.d.ok) (h0 : 0 ≤ x.v.k) (hr : RdL KI.cells 2 ks x.keys w) (hgd : ∀ L, nextQ S x ks q = some L → (S L).good) : Calls Tryz.prog 220 #[ptr g, x.a] w (NextP S fn caps E Cap g q A x ks w) := by
  cases q with
  | fresh => exact (next_go hF g A x ks w hx h0 hr vNil 0 0 false [] hM.st hM.cap hM.gA hM.eA hM.lt (by decide) (hgd _ rfl) (.inl ⟨rfl, rfl, rfl⟩)).mono (nextP_of hF rfl)
  | over =>
    obtain ⟨kd, mt, hg⟩ := hM.st
    exact (next_no hF g A x ks w hx h0 hr vNil kd mt true true hg hM.cap hM.gA hM.eA hM.lt (.inl rfl)).mono (nextP_no rfl)
  | wait L =>
    obtain ⟨hL, ans, hg, hA⟩ := hM.st
    by_cases hf : fitsB (S L).km.1 (S L).km.2 x ks = true
    · exact (next_go hF g A x ks w hx h0 hr ans _ _ true (L ++ [(x.put vNil, ks)]) hg hM.cap hM.gA hM.eA hM.lt (by have := (show L.length < 899 from hq); simp only [List.length_append, List.length_cons, List.length_nil]; omega) (hgd _ (if_pos hf)) (.inr ⟨rfl, hf, L, hA, rfl⟩)).mono (nextP_of hF (if_pos hf))
    · exact (next_no hF g A x ks w hx h0 hr ans _ _ true false hg hM.cap hM.gA hM.eA hM.lt (.inr ⟨rfl, by simpa using hf⟩)).mono (nextP_no (if_neg hf))

theorem nextC_kept {S : List (OI × List KI) → Res} {fn : Nat} {caps : Array Value} {E : Nat → Prop} {Cap : World → Prop} {g : Nat} {q : Q} {A : Nat → Prop} {x : OI} {ks : List KI} {w w' : World} {wt : WI} {n : Int} (h : NextC S fn caps E Cap g q A x ks w wt n w') : Kept A w w' := by
  unfold NextC at h
  split at h
  · exact Kept.below h.2.2
  · obtain ⟨_, mid, _, _, hk, _⟩ := h; exact hk

/-- The same of a task. -/
def TNextC (S : List (OI × List KI) → Res) (T : Nat) (q : Q) (A : Nat → Prop) (x : OI) (ks : List KI) (w : World) (wt : WI) (n : Int) (w' : World) : Prop := match nextQ S x ks q with
  | none => n = 160 ∧ wt = WI.zero ∧ Below w.heap.size w w'
  | some L => n = 0 ∧ ∃ mid, w.heap.size ≤ mid ∧ WantR (S L) mid wt w' ∧ Kept A w w' ∧ TaskW S T ((S L).q L) (fun k => A k ∨ (w.heap.size ≤ k ∧ k < mid)) w'
def TNextP (S : List (OI × List KI) → Res) (T : Nat) (q : Q) (A : Nat → Prop) (x : OI) (ks : List KI) (w : World) (e : Ending) (w' : World) : Prop :=
  ∃ (wt : WI) (n : Int), e = .returned (.tuple #[wt.a, .int .i64 n]) ∧ wt.cs.all (·.oneCell') = true ∧ TNextC S T q A x ks w wt n w'
theorem WantR.setRow {r : Res} {mid g : Nat} {wt : WI} {w : World} (h : WantR r mid wt w) (hg : g < mid) (ds : Array Value) : WantR r mid wt (w.setRow g ds) := by
  cases r with
  | out x ks => obtain ⟨h1, h2, kv, e, h⟩ := h; exact ⟨h1, h2, kv, e, own_setRow h hg ds⟩
  | want W l => obtain ⟨av, e, h⟩ := h; exact ⟨av, e, own_setRow h hg ds⟩
/-- From the machine to the task: the walk's own two boxes lie at B and B + 1. -/
theorem tnext_of {S : List (OI × List KI) → Res} {fn : Nat} {caps : Array Value} {E : Nat → Prop} {Cap : World → Prop} {g T : Nat} {q : Q} {A A' : Nat → Prop} {x : OI} {ks : List KI} {w w1 w2 : World} {wt : WI} {n : Int} (hF : RunF S fn caps E Cap) (h : NextC S fn caps E Cap g q A' x ks w1 wt n w2) (hb : Below w.heap.size w w1) (h2 : w.heap.size + 1 < w1.heap.size) (hA : ∀ k, A' k → A k) (hlt : ∀ k, A k → k < w.heap.size) (hT : ¬ A' T) (hAT : A T) (hTb : Bk w T 140 #[ptr g]) (ds : Array Value) : TNextC S T q A x ks w wt n (w2.setRow (w.heap.size + 1) ds) := by
  unfold NextC at h
  unfold TNextC
  cases hn : nextQ S x ks q with
  | none =>
    rw [hn] at h
    obtain ⟨h1, h3, h4⟩ := h
    exact ⟨h1, h3, below_setRow (hb.trans (h4.mono hb.size)) (Nat.le_succ _) ds⟩
  | some L =>
    rw [hn] at h
    obtain ⟨h1, mid, hm, hw, hk, hM⟩ := h
    have hTl := hlt T hAT
    refine ⟨h1, mid, by omega, hw.setRow (by omega) ds, ?_, ⟨fun k hk' => ?_, fn, caps, E, Cap, g, _, hF, hM.keep hF (by simp [World.setRow]) (fun k hk' => heap_setRow w2 (by rintro rfl; rcases hk' with h | h; (have := hlt _ (hA _ h); omega); omega) ds), fun k hk' => ?_, ?_, .inl hAT, ?_⟩⟩
    · exact ((Kept.below hb).trans (hk.wider fun k _ h => hA k h)).setRow (.inr (Nat.le_succ _)) ds
    · have h5 := hk.size
      have h6 := hM.lt
      simp only [size_setRow]
      rcases hk' with h | h
      · have := hlt k h; omega
      · by_cases hk1 : w1.heap.size ≤ k
        · exact h6 k (.inr ⟨hk1, h.2⟩)
        · omega
    · rcases hk' with h | h
      · exact .inl (hA k h)
      · exact .inr ⟨by omega, h.2⟩
    · intro hh
      rcases hh with h | h
      · exact hT h
      · omega
    · show Bk _ T _ _
      refine Bk.setRow_far ?_ (by omega) ds
      exact ((hk.block T (by omega) hT).trans (hb.block T hTl)).trans hTb

set_option maxHeartbeats 8000000 in
set_option maxRecDepth 100000 in
theorem task_next (S : List (OI × List KI) → Res) (T : Nat) (q : Q) (A : Nat → Prop) (x : OI) (ks : List KI) (w : World) (hT : TaskW S T q A w) (hq : q.few) (hx : x.d.ok) (h0 : 0 ≤ x.v.k) (hr : RdL KI.cells 2 ks x.keys w) (hgd : ∀ L, nextQ S x ks q = some L → (S L).good) : Calls Tryz.prog 219 #[ptr T, x.a] w (TNextP S T q A x ks w) := by
  obtain ⟨hlt, fn, caps, E, Cap, g, A', hF, hM, hA, hAT', hAT, hTb⟩ := hT
  have X := hidB (show Bk ((w.alloc (.cells (x.cs) 49)).alloc (.cells (Tryz.zeroCells51) 51)) (w.heap.size) 49 (x.cs) from (Bk.new w _ _).alloc _)
  have R := hidB (show Bk ((w.alloc (.cells (x.cs) 49)).alloc (.cells (Tryz.zeroCells51) 51)) (w.heap.size + 1) 51 (WI.zero.cs) from Bk.new2 w _ _ _)
  have B := hidB (show Below w.heap.size w ((w.alloc (.cells (x.cs) 49)).alloc (.cells (Tryz.zeroCells51) 51)) from (box_one w _).alloc (by simp) _)
  have MN := hidB (fun W (hb : Below w.heap.size w W) => mach_next hF g q A' x ks W (hM.on hF hb) hq hx h0 (hr.on hb) hgd)
  have TN := hidB (fun W1 W2 wt n ds (h : NextC S fn caps E Cap g q A' x ks W1 wt n W2) (hb : Below w.heap.size w W1) (h2 : w.heap.size + 1 < W1.heap.size) => tnext_of (T := T) hF h hb h2 hA hlt hAT' hAT hTb ds)
  have HTL := hidB hTb.lt
  have TB := hidB (show Bk ((w.alloc (.cells (x.cs) 49)).alloc (.cells (Tryz.zeroCells51) 51)) T 140 #[ptr g] from (hTb.alloc _).alloc _)
  have HLT := hidB hlt
  have HNT := hidB hAT'
  have HAA := hidB hA
  clear hM hq hx h0 hr hgd hA hlt hAT' hAT hTb
  go_enter Tryz.func219, Tryz.ntmps219
  go_upto_region 1 with fail
  generalize hW : ((w.alloc (.cells (x.cs) 49)).alloc (.cells (Tryz.zeroCells51) 51)) = w1 at *
  clear hW
  go_upto_region 3 with fail
  refine wp_region_noPanic ?_
  refine wp_region_held_drew (S := fun W => Bk W T 140 #[ptr g] ∧ Bk W w.heap.size 49 x.cs) (by kernel_rfl) ?_ (fun hHeld => ?_)
  · exact ⟨TB.out.drew, X.out.drew⟩
  replace R := hidB (show Bk w1.drew (w.heap.size + 1) 51 WI.zero.cs from R.out.drew)
  have HBD := hidB (show Below w.heap.size w w1.drew from B.out.drew)
  have HSD := hidB (show w.heap.size + 1 < w1.drew.heap.size from R.out.lt)
  generalize hWd : w1.drew = wd at *
  clear hWd
  first | (refine wpAnyH_take (i := 0) (v := undef) (by exact gE rfl) (by kernel_rfl) (by kernel_rfl) (by kernel_rfl) (fun _ _ _ h => h) (Or.inr ⟨?_, rfl⟩) (by assumption) ?_; (rfl); try simp only [Act.put, List.setIfInBounds_toArray, List.set_cons_zero, List.set_cons_succ]) | (refine wpAnyH_take (i := 0) (v := ?_) (by exact gE rfl) (by kernel_rfl) (by kernel_rfl) (by kernel_rfl) (fun _ _ _ h => h) (Or.inl ⟨?_, ?_⟩) (by assumption) ?_; rotate_left; (rfl); (focus (intro w hSw; (try dsimp only at hSw); go_simp; try with_reducible rfl)); try simp only [Act.put, List.setIfInBounds_toArray, List.set_cons_zero, List.set_cons_succ])
  first | (refine wpAnyH_take (i := 1) (v := undef) (by exact gE rfl) (by kernel_rfl) (by kernel_rfl) (by kernel_rfl) (fun _ _ _ h => h) (Or.inr ⟨?_, rfl⟩) (by assumption) ?_; (rfl); try simp only [Act.put, List.setIfInBounds_toArray, List.set_cons_zero, List.set_cons_succ]) | (refine wpAnyH_take (i := 1) (v := ?_) (by exact gE rfl) (by kernel_rfl) (by kernel_rfl) (by kernel_rfl) (fun _ _ _ h => h) (Or.inl ⟨?_, ?_⟩) (by assumption) ?_; rotate_left; (rfl); (focus (intro w hSw; (try dsimp only at hSw); go_simp; try with_reducible rfl)); try simp only [Act.put, List.setIfInBounds_toArray, List.set_cons_zero, List.set_cons_succ])
  first | (refine wpAnyH_take (i := 2) (v := undef) (by exact gE rfl) (by kernel_rfl) (by kernel_rfl) (by kernel_rfl) (fun _ _ _ h => h) (Or.inr ⟨?_, rfl⟩) (by assumption) ?_; (rfl); try simp only [Act.put, List.setIfInBounds_toArray, List.set_cons_zero, List.set_cons_succ]) | (refine wpAnyH_take (i := 2) (v := ?_) (by exact gE rfl) (by kernel_rfl) (by kernel_rfl) (by kernel_rfl) (fun _ _ _ h => h) (Or.inl ⟨?_, ?_⟩) (by assumption) ?_; rotate_left; (rfl); (focus (intro w hSw; (try dsimp only at hSw); go_simp; try with_reducible rfl)); try simp only [Act.put, List.setIfInBounds_toArray, List.set_cons_zero, List.set_cons_succ])
  first | (refine wpAnyH_take (i := 3) (v := undef) (by exact gE rfl) (by kernel_rfl) (by kernel_rfl) (by kernel_rfl) (fun _ _ _ h => h) (Or.inr ⟨?_, rfl⟩) (by assumption) ?_; (rfl); try simp only [Act.put, List.setIfInBounds_toArray, List.set_cons_zero, List.set_cons_succ]) | (refine wpAnyH_take (i := 3) (v := ?_) (by exact gE rfl) (by kernel_rfl) (by kernel_rfl) (by kernel_rfl) (fun _ _ _ h => h) (Or.inl ⟨?_, ?_⟩) (by assumption) ?_; rotate_left; (rfl); (focus (intro W hSw; have hc0 := (show W.cell? ⟨T, 0, none⟩ = some (ptr g) from hSw.1.cell 0); clear hSw; go_simp; try with_reducible rfl)); try simp only [Act.put, List.setIfInBounds_toArray, List.set_cons_zero, List.set_cons_succ])
  (refine wpAnyH_take (i := 4) (v := x.a) (by exact gE rfl) (by kernel_rfl) (by kernel_rfl) (by kernel_rfl) (fun _ _ _ h => h) (yieldsIf_load_mid (by rfl) 49 (.tmp 3) (by rfl) (w.heap.size) (0) (by rfl) (x.cs.toList) _ (fun W hS => Bk.mid hS.2 0 _ rfl) Tryz.underlying49 (by rfl) (by kernel_rfl)) (by assumption) ?_; try simp only [Act.put, List.setIfInBounds_toArray, List.set_cons_zero, List.set_cons_succ])
  refine wpAnyH_ready (rs := [5]) (by kernel_rfl) (by simp) ?_
  refine AllReadyH.cons rfl (fun K hK => ?_) AllReadyH.nil
  go_simp
  refine (MN.out wd HBD.out).mono ?_; rintro e w2 ⟨wt, n, rfl, hone, hnx⟩
  have hk2 := nextC_kept hnx
  have HONE := hidB hone
  have HTNX := hidB (TN.out wd w2 wt n wt.cs hnx HBD.out HSD.out)
  replace R := hidB (R.out.kept hk2 (fun h => by have := HLT.out _ (HAA.out _ h); omega))
  replace hHeld := And.intro (hHeld.1.kept hk2 HNT.out) (hHeld.2.kept hk2 (fun h => by have := HLT.out _ (HAA.out _ h); omega))
  clear hone hnx hk2
  refine hK.out _ _ hHeld (fun _ => ?_)
  clear hK K
  try simp only [Act.put, List.setIfInBounds_toArray, List.set_cons_zero, List.set_cons_succ]
  first | (refine wpAnyH_take (i := 6) (v := undef) (by exact gE rfl) (by kernel_rfl) (by kernel_rfl) (by kernel_rfl) (fun _ _ _ h => h) (Or.inr ⟨?_, rfl⟩) (by assumption) ?_; (rfl); try simp only [Act.put, List.setIfInBounds_toArray, List.set_cons_zero, List.set_cons_succ]) | (refine wpAnyH_take (i := 6) (v := ?_) (by exact gE rfl) (by kernel_rfl) (by kernel_rfl) (by kernel_rfl) (fun _ _ _ h => h) (Or.inl ⟨?_, ?_⟩) (by assumption) ?_; rotate_left; (rfl); (focus (intro w hSw; (try dsimp only at hSw); go_simp; try with_reducible rfl)); try simp only [Act.put, List.setIfInBounds_toArray, List.set_cons_zero, List.set_cons_succ])
  first | (refine wpAnyH_take (i := 7) (v := undef) (by exact gE rfl) (by kernel_rfl) (by kernel_rfl) (by kernel_rfl) (fun _ _ _ h => h) (Or.inr ⟨?_, rfl⟩) (by assumption) ?_; (rfl); try simp only [Act.put, List.setIfInBounds_toArray, List.set_cons_zero, List.set_cons_succ]) | (refine wpAnyH_take (i := 7) (v := ?_) (by exact gE rfl) (by kernel_rfl) (by kernel_rfl) (by kernel_rfl) (fun _ _ _ h => h) (Or.inl ⟨?_, ?_⟩) (by assumption) ?_; rotate_left; (rfl); (focus (intro w hSw; (try dsimp only at hSw); go_simp; try with_reducible rfl)); try simp only [Act.put, List.setIfInBounds_toArray, List.set_cons_zero, List.set_cons_succ])
  refine wpAnyH_ready (rs := [8]) (by kernel_rfl) (by simp) ?_
  refine AllReadyH.cons rfl (fun K hK => ?_) AllReadyH.nil
  rw [if_pos (by kernel_rfl)]
  refine wp_store_row 51 (.tmp 4) (.tmp 15) (by rfl) (w.heap.size + 1) (wt.cs) (by rfl) (by rfl) 51 (WI.zero.cs) (by exact R.out) (by kernel_rfl) (by rfl) (by exact HONE.out) ?_
  have RR := hidB (R.out.setRow wt.cs)
  replace hHeld := And.intro (hHeld.1.setRow_far (g2 := w.heap.size + 1) (Nat.ne_of_gt (Nat.lt_succ_of_lt HTL.out)) wt.cs) (hHeld.2.setRow_far (g2 := w.heap.size + 1) (by omega) wt.cs)
  refine put_none_K (by first | rfl | kernel_rfl) ?_
  refine hK.out _ _ hHeld (fun _ => ?_)
  clear hK K
  first | (refine wpAnyH_take (i := 9) (v := undef) (by exact gE rfl) (by kernel_rfl) (by kernel_rfl) (by kernel_rfl) (fun _ _ _ h => h) (Or.inr ⟨?_, rfl⟩) (by assumption) ?_; (rfl); try simp only [Act.put, List.setIfInBounds_toArray, List.set_cons_zero, List.set_cons_succ]) | (refine wpAnyH_take (i := 9) (v := ?_) (by exact gE rfl) (by kernel_rfl) (by kernel_rfl) (by kernel_rfl) (fun _ _ _ h => h) (Or.inl ⟨?_, ?_⟩) (by assumption) ?_; rotate_left; (rfl); (focus (intro w hSw; (try dsimp only at hSw); go_simp; try with_reducible rfl)); try simp only [Act.put, List.setIfInBounds_toArray, List.set_cons_zero, List.set_cons_succ])
  refine wpAnyH_done (by kernel_rfl) ?_ _
  refine NoPanic.normal ?_
  go_wp2_with fail
  exact bodyPost_ret (v := .tuple #[.agg (wt.cs), .int .i64 n]) (results_row2 Tryz.results219 _ _ (w.heap.size + 1) 51 (wt.cs) (0, 0) _ rfl (RR.out) Tryz.underlying51 rfl (by kernel_rfl)) rfl (show TNextP S T q A x ks w _ _ from ⟨wt, n, rfl, HONE.out, HTNX.out⟩)

end Go.Proofs.YtbmaodlghglopaaGreatDoor

namespace Go.Proofs.YtbmaodlghglopaaGreatDoor
open Go.RowKit

theorem Bk.neT {w : World} {g q : Nat} {t u : TypeId} {cs ds : Array Value} (h : Bk w g t cs) (k : Bk w q u ds) (ht : t ≠ u) : g ≠ q := by
  rintro rfl
  unfold Bk at h k
  rw [h] at k
  simp only [Option.some.injEq, Obj.cells.injEq] at k
  exact ht k.2.1
/-- The boxes of a call of New. -/
def NewB (w : World) (hv : Value) (x : OJ) (W : World) : Prop := Below w.heap.size w W ∧ Bk W w.heap.size 24 #[hv] ∧ Bk W (w.heap.size + 1) 42 x.cs ∧ Bk W (w.heap.size + 1 + 1) 24 #[.slice none 0 0]
theorem NewB.on {w : World} {hv : Value} {x : OJ} {W W1 : World} (h : NewB w hv x W) (hb : Below W.heap.size W W1) : NewB w hv x W1 := ⟨h.1.trans (hb.mono h.1.size), h.2.1.on hb, h.2.2.1.on hb, h.2.2.2.on hb⟩
theorem NewB.far {w : World} {hv : Value} {x : OJ} {W W1 : World} (h : NewB w hv x W) {q : Nat} (hq : w.heap.size + 1 + 1 < q) (ho : W1.os = W.os) (ht : W1.tape = W.tape) (hp : W1.output = W.output) (hs : W.heap.size ≤ W1.heap.size) (hx : ∀ b, b < W.heap.size → b ≠ q → W1.heap[b]? = W.heap[b]?) : NewB w hv x W1 :=
  have hl := h.2.2.2.lt
  ⟨⟨ho.trans h.1.os, ht.trans h.1.tape, hp.trans h.1.output, Nat.le_trans h.1.size hs, fun k hk => (hx k (by omega) (by omega)).trans (h.1.block k hk)⟩, (hx _ (by omega) (by omega)).trans h.2.1, (hx _ (by omega) (by omega)).trans h.2.2.1, (hx _ (by omega) (by omega)).trans h.2.2.2⟩
theorem RdY.grown {B : Nat} {l : List PI} {v : Value} {w w1 : World} (h : RdY B l v w) {g : Nat} {t : TypeId} {cs : Array Value} (hg : Bk w g t cs) (ht : t ≠ 91) (hB : B ≤ g) (hgr : w.grownBy w1 (some g)) : RdY B l v w1 := by
  obtain ⟨⟨pa, c, rfl, h1, h2, h3⟩, hne⟩ := h
  have key : ∀ b, 0 < l.length → (Value.slice pa l.length c).ownBlock = some b → b ≠ g := by
    rintro b h0 e rfl
    rcases hne h0 b e with hl | ⟨cur, hc⟩
    · omega
    · exact hc.neT hg (fun e => ht e.symm) rfl
  refine ⟨⟨pa, c, rfl, h1, h2, fun h0 => ?_⟩, fun h0 b e => (hne h0 b e).imp id (fun ⟨cur, hc⟩ => ⟨cur, (hgr.block b hc.lt (fun e2 => key b h0 e (by simpa using e2))).trans hc⟩)⟩
  obtain ⟨b, o, rfl, hb, hr⟩ := h3 h0
  have hbg := key b h0 rfl
  exact ⟨b, o, rfl, Nat.lt_of_lt_of_le hb hgr.size, fun i hi j u hu => (World.cell?_of_block (hgr.block b hb (fun e => hbg (by simpa using e)))).trans (hr i hi j u hu)⟩

end Go.Proofs.YtbmaodlghglopaaGreatDoor
