/-
  What is wanted, and what was given: the walks of a player's methods.
-/
import Derived.Test.YtbmaodlghglopaaGreatDoorMxA
import Derived.Test.YtbmaodlghglopaaGreatDoorTwin
namespace Go.Proofs.YtbmaodlghglopaaGreatDoor
open Go.RowKit

/-- Answers that can be read, none of it in block p. -/
structure AnsR (p : Nat) (L : List (OI × List KI)) (v : Value) (w : World) : Prop where
  rd : RdL (fun e : OI × List KI => e.1.cs.toList) 26 L v w
  far : ∀ k, v.ownBlock = some k → k ≠ p
  keys : ∀ e ∈ L, RdL KI.cells 2 e.2 e.1.keys w ∧ e.2.length ≤ 1024 ∧ (∀ k, e.1.keys.ownBlock = some k → k ≠ p) ∧ (e.1.kd = 1 ∨ e.1.kd = 2)
theorem AnsR.kept {p : Nat} {L : List (OI × List KI)} {v : Value} {w w' : World} (h : AnsR p L v w) (hk : Kept (fun q => q = p) w w') : AnsR p L v w' :=
  ⟨h.rd.kept hk h.far, h.far, fun e he => ⟨(h.keys e he).1.kept hk (h.keys e he).2.2.1, (h.keys e he).2⟩⟩
/-- What a player's method leaves. -/
def WantRes (t : WI) (p : Nat) (ans : Value) (k : Nat) (wt : WI) (L : List (OI × List KI)) (B : Nat) (O : OI) (w' : World) : Prop :=
  (∃ (h : k < L.length) (kv : Value), O = (L[k].1).put kv ∧ w'.ownsRow B 26 2 kv L[k].2.length (L[k].2.flatMap KI.cells) ∧ Bk w' p 218 (playC ans (k + 1) wt)) ∨ (L.length ≤ k ∧ O = OI.zero ∧ Bk w' p 218 (playC ans (k + 1) t))
theorem WantRes.one {t : WI} {p : Nat} {ans : Value} {k : Nat} {wt : WI} {L : List (OI × List KI)} {B : Nat} {O : OI} {w' : World} (h : WantRes t p ans k wt L B O w') : O.cs.all (·.oneCell') = true := by
  rcases h with ⟨_, kv, rfl, h, _⟩ | ⟨_, rfl, _⟩
  · exact OI.one _ (own_one h)
  · exact OI.one _ rfl
theorem WantRes.lower {t : WI} {p : Nat} {ans : Value} {k : Nat} {wt : WI} {L : List (OI × List KI)} {B B' : Nat} {O : OI} {w' : World} (h : WantRes t p ans k wt L B O w') (hB : B' ≤ B) : WantRes t p ans k wt L B' O w' := by
  rcases h with ⟨hl, kv, e, h, h'⟩ | h
  · exact .inl ⟨hl, kv, e, own_base h fun k hk => Nat.le_trans hB (h.lt k hk).1, h'⟩
  · exact .inr h
theorem WantRes.setRow {t : WI} {p : Nat} {ans : Value} {k : Nat} {wt : WI} {L : List (OI × List KI)} {B : Nat} {O : OI} {w' : World} (h : WantRes t p ans k wt L B O w') {g : Nat} (hg : g < B) (hp : g ≠ p) (ds : Array Value) : WantRes t p ans k wt L B O (w'.setRow g ds) := by
  rcases h with ⟨hl, kv, e, h, h'⟩ | ⟨h1, h2, h3⟩
  · exact .inl ⟨hl, kv, e, own_setRow h hg ds, h'.setRow_far hp ds⟩
  · exact .inr ⟨h1, h2, h3.setRow_far hp ds⟩

set_option maxHeartbeats 8000000 in
set_option maxRecDepth 100000 in
theorem want_any (t : WI) (ht : t.cs.all (·.oneCell') = true) (p : Nat) (ans : Value) (k : Nat) (wt : WI) (L : List (OI × List KI)) (w : World) (hk : k < 1000) (hP : Bk w p 218 (playC ans k wt)) (hA : AnsR p L ans w) : Calls Tryz.prog 118 #[.pointer (some ⟨p, 0, none⟩), t.a] w fun e w' => ∃ O : OI, e = .returned O.a ∧ Kept (fun q => q = p) w w' ∧ WantRes (t) p ans k wt L w.heap.size O w' := by
  obtain ⟨⟨pa, c, rfl, hlc, hcm, hcell⟩, hfar, hkeys⟩ := hA
  unfold maxLen at hcm
  have hpl : p < w.heap.size := hP.lt
  have HPL := hidB hpl
  have HT := hidB ht
  have HC := hidB hcell
  have HF := hidB hfar
  have HY := hidB hkeys
  clear ht hcell hfar hkeys
  have X := hidB (show Bk ((w.alloc (.cells (t.cs) 51)).alloc (.cells (#[.int .u8 0, .int .u8 0, .float .f64 0, .string ⟨#[]⟩, .int .i64 0, .bool false, .bool false, .int .u8 0, .int .u8 0, .float .f64 0, .string ⟨#[]⟩, .int .i64 0, .int .u8 0, .float .f64 0, .string ⟨#[]⟩, .int .i64 0, .int .u8 0, .float .f64 0, .string ⟨#[]⟩, .int .i64 0, .bool false, .bool false, .bool false, .slice none 0 0, .int .u8 0, .string ⟨#[]⟩]) 49)) (w.heap.size) 51 (t.cs) from (Bk.new w _ _).alloc _)
  have R := hidB (show Bk ((w.alloc (.cells (t.cs) 51)).alloc (.cells (#[.int .u8 0, .int .u8 0, .float .f64 0, .string ⟨#[]⟩, .int .i64 0, .bool false, .bool false, .int .u8 0, .int .u8 0, .float .f64 0, .string ⟨#[]⟩, .int .i64 0, .int .u8 0, .float .f64 0, .string ⟨#[]⟩, .int .i64 0, .int .u8 0, .float .f64 0, .string ⟨#[]⟩, .int .i64 0, .bool false, .bool false, .bool false, .slice none 0 0, .int .u8 0, .string ⟨#[]⟩]) 49)) (w.heap.size + 1) 49 (OI.zero.cs) from Bk.new2 w _ _ _)
  have B := hidB (show Below w.heap.size w ((w.alloc (.cells (t.cs) 51)).alloc (.cells (#[.int .u8 0, .int .u8 0, .float .f64 0, .string ⟨#[]⟩, .int .i64 0, .bool false, .bool false, .int .u8 0, .int .u8 0, .float .f64 0, .string ⟨#[]⟩, .int .i64 0, .int .u8 0, .float .f64 0, .string ⟨#[]⟩, .int .i64 0, .int .u8 0, .float .f64 0, .string ⟨#[]⟩, .int .i64 0, .bool false, .bool false, .bool false, .slice none 0 0, .int .u8 0, .string ⟨#[]⟩]) 49)) from (box_one w _).alloc (by simp) _)
  have PF := hidB (show Bk ((w.alloc (.cells (t.cs) 51)).alloc (.cells (#[.int .u8 0, .int .u8 0, .float .f64 0, .string ⟨#[]⟩, .int .i64 0, .bool false, .bool false, .int .u8 0, .int .u8 0, .float .f64 0, .string ⟨#[]⟩, .int .i64 0, .int .u8 0, .float .f64 0, .string ⟨#[]⟩, .int .i64 0, .int .u8 0, .float .f64 0, .string ⟨#[]⟩, .int .i64 0, .bool false, .bool false, .bool false, .slice none 0 0, .int .u8 0, .string ⟨#[]⟩]) 49)) p 218 (playC (.slice pa L.length c) k wt) from (hP.alloc _).alloc _)
  have KW := hidB (show Kept (fun q => q = p) w ((w.alloc (.cells (t.cs) 51)).alloc (.cells (#[.int .u8 0, .int .u8 0, .float .f64 0, .string ⟨#[]⟩, .int .i64 0, .bool false, .bool false, .int .u8 0, .int .u8 0, .float .f64 0, .string ⟨#[]⟩, .int .i64 0, .int .u8 0, .float .f64 0, .string ⟨#[]⟩, .int .i64 0, .int .u8 0, .float .f64 0, .string ⟨#[]⟩, .int .i64 0, .bool false, .bool false, .bool false, .slice none 0 0, .int .u8 0, .string ⟨#[]⟩]) 49)) from ((Kept.refl _ w).alloc _).alloc _)
  have HS : Hid (w.heap.size + 2 ≤ ((w.alloc (.cells (t.cs) 51)).alloc (.cells (#[.int .u8 0, .int .u8 0, .float .f64 0, .string ⟨#[]⟩, .int .i64 0, .bool false, .bool false, .int .u8 0, .int .u8 0, .float .f64 0, .string ⟨#[]⟩, .int .i64 0, .int .u8 0, .float .f64 0, .string ⟨#[]⟩, .int .i64 0, .int .u8 0, .float .f64 0, .string ⟨#[]⟩, .int .i64 0, .bool false, .bool false, .bool false, .slice none 0 0, .int .u8 0, .string ⟨#[]⟩]) 49)).heap.size) := hidB (by first | (simp; done) | (simp; omega))
  clear hP hpl
  go_enter Tryz.func118, Tryz.ntmps118
  go_upto_region 1 with fail
  generalize hW : ((w.alloc (.cells (t.cs) 51)).alloc (.cells (#[.int .u8 0, .int .u8 0, .float .f64 0, .string ⟨#[]⟩, .int .i64 0, .bool false, .bool false, .int .u8 0, .int .u8 0, .float .f64 0, .string ⟨#[]⟩, .int .i64 0, .int .u8 0, .float .f64 0, .string ⟨#[]⟩, .int .i64 0, .int .u8 0, .float .f64 0, .string ⟨#[]⟩, .int .i64 0, .bool false, .bool false, .bool false, .slice none 0 0, .int .u8 0, .string ⟨#[]⟩]) 49)) = w1 at *
  clear hW
  have y1 : w1.cell? ⟨p, 1, none⟩ = some (.int .i64 k) := PF.out.cell 1
  have f1 : w1.frozen? ⟨p, 1, none⟩ = false := PF.out.free 1
  have PF2 := hidB (show Bk (w1.setCell ⟨p, 1, none⟩ (.int .i64 ((k : Int) + 1))) p 218 (playC (.slice pa L.length c) ((k : Int) + 1) wt) from PF.out.set 1 _)
  have X2 := hidB (show Bk (w1.setCell ⟨p, 1, none⟩ (.int .i64 ((k : Int) + 1))) (w.heap.size) 51 t.cs from X.out.far (p := ⟨p, 1, none⟩) (Nat.ne_of_gt HPL.out) _)
  have R2 := hidB (show Bk (w1.setCell ⟨p, 1, none⟩ (.int .i64 ((k : Int) + 1))) (w.heap.size + 1) 49 OI.zero.cs from R.out.far (p := ⟨p, 1, none⟩) (Nat.ne_of_gt (Nat.lt_succ_of_lt HPL.out)) _)
  have KW2 := hidB (show Kept (fun q => q = p) w (w1.setCell ⟨p, 1, none⟩ (.int .i64 ((k : Int) + 1))) from KW.out.setCell (p := ⟨p, 1, none⟩) (.inl rfl) _)
  have HS2 : Hid (w.heap.size + 2 ≤ (w1.setCell ⟨p, 1, none⟩ (.int .i64 ((k : Int) + 1))).heap.size) := hidB (by have := HS.out; simpa [World.setCell] using this)
  clear PF X R KW HS B
  go_upto_region 2 with fail
  generalize hW : (w1.setCell ⟨p, 1, none⟩ (.int .i64 ((k : Int) + 1))) = w2 at *
  clear hW y1 f1
  have y0 : w2.cell? ⟨p, 0, none⟩ = some (.slice pa L.length c) := PF2.out.cell 0
  have y1 : w2.cell? ⟨p, 1, none⟩ = some (.int .i64 ((k : Int) + 1)) := PF2.out.cell 1
  by_cases hlt : k < L.length
  · have hi : ¬ (L.length : Int) < (k : Int) + 1 := by omega
    have hi2 : (0 : Int) ≤ (k : Int) := by omega
    have hi3 : (k : Int) < (L.length : Int) := by omega
    skip
    go_quiet (fail)
    have PF3 := hidB (show Bk (w2.drewN nq) p 218 (playC (.slice pa L.length c) ((k : Int) + 1) wt) from PF2.out.drewN nq)
    have X3 := hidB (show Bk (w2.drewN nq) (w.heap.size) 51 t.cs from X2.out.drewN nq)
    have R3 := hidB (show Bk (w2.drewN nq) (w.heap.size + 1) 49 OI.zero.cs from R2.out.drewN nq)
    have KW3 := hidB (show Kept (fun q => q = p) w (w2.drewN nq) from ⟨KW2.out.os, KW2.out.tape, KW2.out.output, KW2.out.size, KW2.out.block⟩)
    have HS3 := hidB (show w.heap.size + 2 ≤ (w2.drewN nq).heap.size from HS2.out)
    clear PF2 X2 R2 KW2 HS2 y0 y1
    generalize hW : (w2.drewN nq) = w2 at *
    clear hW
    go_upto_region 5 with fail
    obtain ⟨g, o, e, hg, hx⟩ := HC.out (by omega)
    subst e
    have hgp : g ≠ p := HF.out g rfl
    have HX := hidB (hx k hlt)
    have HG := hidB hg
    have HGP := hidB hgp
    clear hx hgp HC HF X3
    obtain ⟨hk1, hk2, hk3, hk4⟩ := HY.out L[k] (List.getElem_mem hlt)
    have TA := hidB (fun W (hw : Kept (fun q => q = p) w W) => twin_any L[k].1 L[k].2 W (hk1.kept hw hk3) hk2)
    have HLT := hidB hlt
    clear hk1 hk2 hk3 hk4 HY hg
    skip
    have hwr : IntKind.i64.wrap ((k : Nat) : Int) = (k : Int) := IntWalk.i64_in _ (by omega)
    refine wp_region_noPanic ?_
    refine wp_region_held_drew (S := fun W => Kept (fun q => q = p) w W ∧ Bk W p 218 (playC (.slice (some ⟨g, o, none⟩) L.length c) ((k : Int) + 1) wt)) (by kernel_rfl) ?_ (fun hHeld => ?_)
    · exact ⟨KW3.out.drew, PF3.out.drew⟩
    have hsz := hidB (show w2.heap.size ≤ w2.drew.heap.size from Nat.le_refl _)
    have hRd := hidB (show Bk w2.drew (w.heap.size + 1) 49 OI.zero.cs from R3.out.drew)
    generalize hWd : w2.drew = wd at *
    clear hWd
    first | (refine wpAnyH_take (i := 0) (v := undef) (by exact gE rfl) (by kernel_rfl) (by kernel_rfl) (by kernel_rfl) (fun _ _ _ h => h) (Or.inr ⟨?_, rfl⟩) (by assumption) ?_; (rfl); try simp only [Act.put, List.setIfInBounds_toArray, List.set_cons_zero, List.set_cons_succ]) | (refine wpAnyH_take (i := 0) (v := ?_) (by exact gE rfl) (by kernel_rfl) (by kernel_rfl) (by kernel_rfl) (fun _ _ _ h => h) (Or.inl ⟨?_, ?_⟩) (by assumption) ?_; rotate_left; (rfl); (focus (intro w hSw; (try dsimp only at hSw); go_simp; try with_reducible rfl)); try simp only [Act.put, List.setIfInBounds_toArray, List.set_cons_zero, List.set_cons_succ])
    first | (refine wpAnyH_take (i := 1) (v := undef) (by exact gE rfl) (by kernel_rfl) (by kernel_rfl) (by kernel_rfl) (fun _ _ _ h => h) (Or.inr ⟨?_, rfl⟩) (by assumption) ?_; (rfl); try simp only [Act.put, List.setIfInBounds_toArray, List.set_cons_zero, List.set_cons_succ]) | (refine wpAnyH_take (i := 1) (v := ?_) (by exact gE rfl) (by kernel_rfl) (by kernel_rfl) (by kernel_rfl) (fun _ _ _ h => h) (Or.inl ⟨?_, ?_⟩) (by assumption) ?_; rotate_left; (rfl); (focus (intro w hSw; (try dsimp only at hSw); go_simp; try with_reducible rfl)); try simp only [Act.put, List.setIfInBounds_toArray, List.set_cons_zero, List.set_cons_succ])
    first | (refine wpAnyH_take (i := 2) (v := undef) (by exact gE rfl) (by kernel_rfl) (by kernel_rfl) (by kernel_rfl) (fun _ _ _ h => h) (Or.inr ⟨?_, rfl⟩) (by assumption) ?_; (rfl); try simp only [Act.put, List.setIfInBounds_toArray, List.set_cons_zero, List.set_cons_succ]) | (refine wpAnyH_take (i := 2) (v := ?_) (by exact gE rfl) (by kernel_rfl) (by kernel_rfl) (by kernel_rfl) (fun _ _ _ h => h) (Or.inl ⟨?_, ?_⟩) (by assumption) ?_; rotate_left; (rfl); (focus (intro w hSw; (try dsimp only at hSw); go_simp; try with_reducible rfl)); try simp only [Act.put, List.setIfInBounds_toArray, List.set_cons_zero, List.set_cons_succ])
    first | (refine wpAnyH_take (i := 3) (v := undef) (by exact gE rfl) (by kernel_rfl) (by kernel_rfl) (by kernel_rfl) (fun _ _ _ h => h) (Or.inr ⟨?_, rfl⟩) (by assumption) ?_; (rfl); try simp only [Act.put, List.setIfInBounds_toArray, List.set_cons_zero, List.set_cons_succ]) | (refine wpAnyH_take (i := 3) (v := ?_) (by exact gE rfl) (by kernel_rfl) (by kernel_rfl) (by kernel_rfl) (fun _ _ _ h => h) (Or.inl ⟨?_, ?_⟩) (by assumption) ?_; rotate_left; (rfl); (focus (intro W hSw; have hc0 := (show W.cell? ⟨p, 0, none⟩ = some (.slice (some ⟨g, o, none⟩) L.length c) from hSw.2.cell 0); clear hSw; go_simp; try with_reducible rfl)); try simp only [Act.put, List.setIfInBounds_toArray, List.set_cons_zero, List.set_cons_succ])
    first | (refine wpAnyH_take (i := 4) (v := undef) (by exact gE rfl) (by kernel_rfl) (by kernel_rfl) (by kernel_rfl) (fun _ _ _ h => h) (Or.inr ⟨?_, rfl⟩) (by assumption) ?_; (rfl); try simp only [Act.put, List.setIfInBounds_toArray, List.set_cons_zero, List.set_cons_succ]) | (refine wpAnyH_take (i := 4) (v := ?_) (by exact gE rfl) (by kernel_rfl) (by kernel_rfl) (by kernel_rfl) (fun _ _ _ h => h) (Or.inl ⟨?_, ?_⟩) (by assumption) ?_; rotate_left; (rfl); (focus (intro w hSw; (try dsimp only at hSw); go_simp; try with_reducible rfl)); try simp only [Act.put, List.setIfInBounds_toArray, List.set_cons_zero, List.set_cons_succ])
    first | (refine wpAnyH_take (i := 5) (v := undef) (by exact gE rfl) (by kernel_rfl) (by kernel_rfl) (by kernel_rfl) (fun _ _ _ h => h) (Or.inr ⟨?_, rfl⟩) (by assumption) ?_; (rfl); try simp only [Act.put, List.setIfInBounds_toArray, List.set_cons_zero, List.set_cons_succ]) | (refine wpAnyH_take (i := 5) (v := ?_) (by exact gE rfl) (by kernel_rfl) (by kernel_rfl) (by kernel_rfl) (fun _ _ _ h => h) (Or.inl ⟨?_, ?_⟩) (by assumption) ?_; rotate_left; (rfl); (focus (intro w hSw; (try dsimp only at hSw); go_simp; try with_reducible rfl)); try simp only [Act.put, List.setIfInBounds_toArray, List.set_cons_zero, List.set_cons_succ])
    first | (refine wpAnyH_take (i := 6) (v := undef) (by exact gE rfl) (by kernel_rfl) (by kernel_rfl) (by kernel_rfl) (fun _ _ _ h => h) (Or.inr ⟨?_, rfl⟩) (by assumption) ?_; (rfl); try simp only [Act.put, List.setIfInBounds_toArray, List.set_cons_zero, List.set_cons_succ]) | (refine wpAnyH_take (i := 6) (v := ?_) (by exact gE rfl) (by kernel_rfl) (by kernel_rfl) (by kernel_rfl) (fun _ _ _ h => h) (Or.inl ⟨?_, ?_⟩) (by assumption) ?_; rotate_left; (rfl); (focus (intro w hSw; (try dsimp only at hSw); go_simp; try with_reducible rfl)); try simp only [Act.put, List.setIfInBounds_toArray, List.set_cons_zero, List.set_cons_succ])
    first | (refine wpAnyH_take (i := 7) (v := undef) (by exact gE rfl) (by kernel_rfl) (by kernel_rfl) (by kernel_rfl) (fun _ _ _ h => h) (Or.inr ⟨?_, rfl⟩) (by assumption) ?_; (rfl); try simp only [Act.put, List.setIfInBounds_toArray, List.set_cons_zero, List.set_cons_succ]) | (refine wpAnyH_take (i := 7) (v := ?_) (by exact gE rfl) (by kernel_rfl) (by kernel_rfl) (by kernel_rfl) (fun _ _ _ h => h) (Or.inl ⟨?_, ?_⟩) (by assumption) ?_; rotate_left; (rfl); (focus (intro W hSw; have hc0 := (show W.cell? ⟨p, 1, none⟩ = some (.int .i64 ((k : Int) + 1)) from hSw.2.cell 1); clear hSw; go_simp; try with_reducible rfl)); try simp only [Act.put, List.setIfInBounds_toArray, List.set_cons_zero, List.set_cons_succ])
    first | (refine wpAnyH_take (i := 8) (v := undef) (by exact gE rfl) (by kernel_rfl) (by kernel_rfl) (by kernel_rfl) (fun _ _ _ h => h) (Or.inr ⟨?_, rfl⟩) (by assumption) ?_; (rfl); try simp only [Act.put, List.setIfInBounds_toArray, List.set_cons_zero, List.set_cons_succ]) | (refine wpAnyH_take (i := 8) (v := ?_) (by exact gE rfl) (by kernel_rfl) (by kernel_rfl) (by kernel_rfl) (fun _ _ _ h => h) (Or.inl ⟨?_, ?_⟩) (by assumption) ?_; rotate_left; (rfl); (focus (intro w hSw; (try dsimp only at hSw); go_simp; try with_reducible rfl)); try simp only [Act.put, List.setIfInBounds_toArray, List.set_cons_zero, List.set_cons_succ])
    first | (refine wpAnyH_take (i := 9) (v := undef) (by exact gE rfl) (by kernel_rfl) (by kernel_rfl) (by kernel_rfl) (fun _ _ _ h => h) (Or.inr ⟨?_, rfl⟩) (by assumption) ?_; (rfl); try simp only [Act.put, List.setIfInBounds_toArray, List.set_cons_zero, List.set_cons_succ]) | (refine wpAnyH_take (i := 9) (v := ?_) (by exact gE rfl) (by kernel_rfl) (by kernel_rfl) (by kernel_rfl) (fun _ _ _ h => h) (Or.inl ⟨?_, ?_⟩) (by assumption) ?_; rotate_left; (rfl); (focus (intro w hSw; (try dsimp only at hSw); go_simp; try with_reducible rfl)); try simp only [Act.put, List.setIfInBounds_toArray, List.set_cons_zero, List.set_cons_succ])
    (refine wpAnyH_take (i := 10) (v := L[k].1.a) (by exact gE rfl) (by kernel_rfl) (by kernel_rfl) (by kernel_rfl) (fun _ _ _ h => h) (yieldsIf_load_mid (by rfl) 49 (.tmp 36) (by rfl) (g) (o + k * 26) (by rfl) (L[k].1.cs.toList) _ (fun W hS => rangeKept hS.1 HG.out HGP.out HX.out) Tryz.underlying49 (by rfl) (by kernel_rfl)) (by assumption) ?_; try simp only [Act.put, List.setIfInBounds_toArray, List.set_cons_zero, List.set_cons_succ])
    refine wpAnyH_ready (rs := [11]) (by kernel_rfl) (by simp) ?_
    refine AllReadyH.cons rfl (fun K hK => ?_) AllReadyH.nil
    go_simp
    refine (TA.out _ hHeld.1).mono ?_; rintro e w3 ⟨kv, rfl, hown, hb⟩
    have HO := hidB hown
    have R5 := hidB ((show Bk wd (w.heap.size + 1) 49 OI.zero.cs from hRd.out).on hb)
    have HKV := hidB (own_one hown)
    have HS5 := hidB (Nat.le_trans HS3.out (by exact hsz.out))
    replace hHeld := And.intro (hHeld.1.trans (Kept.below hb)) (hHeld.2.on hb)
    clear hown hb
    refine hK.out _ _ hHeld (fun _ => ?_)
    clear hK K
    try simp only [Act.put, List.setIfInBounds_toArray, List.set_cons_zero, List.set_cons_succ]
    refine wpAnyH_ready (rs := [12]) (by kernel_rfl) (by simp) ?_
    refine AllReadyH.cons rfl (fun K hK => ?_) AllReadyH.nil
    rw [if_pos (by kernel_rfl)]
    refine wp_store_row 49 (.tmp 4) (.tmp 38) (by rfl) (w.heap.size + 1) ((L[k].1.put kv).cs) (by rfl) (by rfl) 49 (OI.zero.cs) (by exact R5.out) (by kernel_rfl) (by rfl) (by exact OI.one _ HKV.out) ?_
    have hres : WantRes t p (.slice (some ⟨g, o, none⟩) L.length c) k wt L w.heap.size (L[k].1.put kv) (w3.setRow (w.heap.size + 1) (L[k].1.put kv).cs) := .inl ⟨HLT.out, kv, rfl, own_base (own_setRow HO.out (Nat.lt_of_lt_of_le (Nat.lt_succ_self _) HS5.out) _) (fun q hq => Nat.le_trans (Nat.le_trans (Nat.le_add_right _ _) HS5.out) (HO.out.lt q hq).1), hHeld.2.setRow_far (Nat.ne_of_gt (Nat.lt_succ_of_lt HPL.out)) _⟩
    have HRES := hidB hres
    have HR4 := hidB (R5.out.setRow (L[k].1.put kv).cs)
    replace hHeld := And.intro (hHeld.1.setRow (g := w.heap.size + 1) (.inr (Nat.le_succ _)) (L[k].1.put kv).cs) (hHeld.2.setRow_far (g2 := w.heap.size + 1) (Nat.ne_of_gt (Nat.lt_succ_of_lt HPL.out)) (L[k].1.put kv).cs)
    clear hres
    refine put_none_K (by first | rfl | kernel_rfl) ?_
    refine hK.out _ _ hHeld (fun _ => ?_)
    clear hK K
    refine wpAnyH_done (by kernel_rfl) ?_ _
    refine NoPanic.normal ?_
    go_wp2_with fail
    exact bodyPost_ret (v := .agg ((L[k].1.put kv).cs)) (results_cell_row Tryz.results118 _ _ (w.heap.size + 1) 49 ((L[k].1.put kv).cs) (0, 0) _ rfl (HR4.out) Tryz.underlying49 rfl (by kernel_rfl)) rfl (⟨_, rfl, hHeld.1, HRES.out⟩)
  · have hi : (L.length : Int) < (k : Int) + 1 := by omega
    go_quiet (fail)
    have PF3 := hidB (show Bk (w2.drewN nq) p 218 (playC (.slice pa L.length c) ((k : Int) + 1) wt) from PF2.out.drewN nq)
    have X3 := hidB (show Bk (w2.drewN nq) (w.heap.size) 51 t.cs from X2.out.drewN nq)
    have R3 := hidB (show Bk (w2.drewN nq) (w.heap.size + 1) 49 OI.zero.cs from R2.out.drewN nq)
    have KW3 := hidB (show Kept (fun q => q = p) w (w2.drewN nq) from ⟨KW2.out.os, KW2.out.tape, KW2.out.output, KW2.out.size, KW2.out.block⟩)
    have HS3 := hidB (show w.heap.size + 2 ≤ (w2.drewN nq).heap.size from HS2.out)
    clear PF2 X2 R2 KW2 HS2 y0 y1
    generalize hW : (w2.drewN nq) = w2 at *
    clear hW
    have PF4 := hidB (show Bk (w2.setCells p 2 t.cs.toList) p 218 (playC (.slice pa L.length c) ((k : Int) + 1) t) from PF3.out.setCells2 t.cs.toList 2 (Nat.le_refl _) rfl)
    have R4 := hidB (show Bk (w2.setCells p 2 t.cs.toList) (w.heap.size + 1) 49 OI.zero.cs from Bk.setCells_far (Nat.ne_of_gt (Nat.lt_succ_of_lt HPL.out)) _ _ R3.out)
    have KW4 := hidB (show Kept (fun q => q = p) w (w2.setCells p 2 t.cs.toList) from Kept.setCells (S := fun q => q = p) (.inl rfl) _ _ KW3.out)
    go_wp2_with (first | ((with_reducible refine ldId 51 (.tmp 3) ?_); refine wpList_load_row (by rfl) 51 (.tmp 3) (by rfl) (w.heap.size) (by rfl) 51 (t.cs) (0, 0) _ (by exact X3.out) Tryz.underlying51 (by rfl) (by kernel_rfl) ?_) | ((with_reducible refine stId 51 (.tmp 25) (.tmp 23) ?_); refine wpList_store_mid (by rfl) 51 (.tmp 25) (.tmp 23) (by rfl) p 2 t.cs (by rfl) (by rfl) (by exact PF3.out.there 2 87 (Nat.le_refl _)) (by kernel_rfl) (by exact HT.out) ?_) | ((with_reducible refine wpId ?_); refine wpList_build_to (by rfl) 49 _ (by rfl) (OI.zero.cs) (by kernel_rfl) ?_) | ((with_reducible refine stId 49 (.tmp 4) (.tmp 26) ?_); refine wpList_store_row (by rfl) 49 (.tmp 4) (.tmp 26) (by rfl) (w.heap.size + 1) (OI.zero.cs) (by rfl) (by rfl) 49 (OI.zero.cs) (by exact R4.out) (by kernel_rfl) (by rfl) (by exact OI.one _ rfl) ?_))
    exact bodyPost_ret (v := .agg (OI.zero.cs)) (results_cell_row Tryz.results118 _ _ (w.heap.size + 1) 49 (OI.zero.cs) (0, 0) _ rfl (R4.out.setRow _) Tryz.underlying49 rfl (by kernel_rfl)) rfl (show ∃ O : OI, Ending.returned (OI.zero.a) = .returned O.a ∧ _ ∧ _ from ⟨OI.zero, rfl, KW4.out.setRow (g := w.heap.size + 1) (.inr (Nat.le_succ _)) OI.zero.cs, .inr ⟨by omega, rfl, PF4.out.setRow_far (g2 := w.heap.size + 1) (Nat.ne_of_gt (Nat.lt_succ_of_lt HPL.out)) OI.zero.cs⟩⟩)

/-- What is wanted by the shorthands. -/
def methW (a : AI) : WI := { WI.zero with kd := 1, ask := a }
def getA (v : VI) (k : KI) : AI := { AI.zero with m := 8, ob := v.r, k := k, r := v }
set_option maxHeartbeats 8000000 in
set_option maxRecDepth 100000 in
theorem method_any (a : AI) (ha : a.args.oneCell' = true) (p : Nat) (ans : Value) (k : Nat) (wt : WI) (L : List (OI × List KI)) (w : World) (hk : k < 1000) (hP : Bk w p 218 (playC ans k wt)) (hA : AnsR p L ans w) : Calls Tryz.prog 79 #[.pointer (some ⟨p, 0, none⟩), a.a] w fun e w' => ∃ O : OI, e = .returned O.a ∧ Kept (fun q => q = p) w w' ∧ WantRes (methW a) p ans k wt L w.heap.size O w' := by
  have HPL := hidB hP.lt
  have X := hidB (show Bk ((w.alloc (.cells (a.cs) 34)).alloc (.cells (#[.int .u8 0, .int .u8 0, .float .f64 0, .string ⟨#[]⟩, .int .i64 0, .bool false, .bool false, .int .u8 0, .int .u8 0, .float .f64 0, .string ⟨#[]⟩, .int .i64 0, .int .u8 0, .float .f64 0, .string ⟨#[]⟩, .int .i64 0, .int .u8 0, .float .f64 0, .string ⟨#[]⟩, .int .i64 0, .bool false, .bool false, .bool false, .slice none 0 0, .int .u8 0, .string ⟨#[]⟩]) 49)) (w.heap.size) 34 (a.cs) from (Bk.new w _ _).alloc _)
  have R := hidB (show Bk ((w.alloc (.cells (a.cs) 34)).alloc (.cells (#[.int .u8 0, .int .u8 0, .float .f64 0, .string ⟨#[]⟩, .int .i64 0, .bool false, .bool false, .int .u8 0, .int .u8 0, .float .f64 0, .string ⟨#[]⟩, .int .i64 0, .int .u8 0, .float .f64 0, .string ⟨#[]⟩, .int .i64 0, .int .u8 0, .float .f64 0, .string ⟨#[]⟩, .int .i64 0, .bool false, .bool false, .bool false, .slice none 0 0, .int .u8 0, .string ⟨#[]⟩]) 49)) (w.heap.size + 1) 49 (OI.zero.cs) from Bk.new2 w _ _ _)
  have B := hidB (show Below w.heap.size w ((w.alloc (.cells (a.cs) 34)).alloc (.cells (#[.int .u8 0, .int .u8 0, .float .f64 0, .string ⟨#[]⟩, .int .i64 0, .bool false, .bool false, .int .u8 0, .int .u8 0, .float .f64 0, .string ⟨#[]⟩, .int .i64 0, .int .u8 0, .float .f64 0, .string ⟨#[]⟩, .int .i64 0, .int .u8 0, .float .f64 0, .string ⟨#[]⟩, .int .i64 0, .bool false, .bool false, .bool false, .slice none 0 0, .int .u8 0, .string ⟨#[]⟩]) 49)) from (box_one w _).alloc (by simp) _)
  have PF := hidB (show Bk ((w.alloc (.cells (a.cs) 34)).alloc (.cells (#[.int .u8 0, .int .u8 0, .float .f64 0, .string ⟨#[]⟩, .int .i64 0, .bool false, .bool false, .int .u8 0, .int .u8 0, .float .f64 0, .string ⟨#[]⟩, .int .i64 0, .int .u8 0, .float .f64 0, .string ⟨#[]⟩, .int .i64 0, .int .u8 0, .float .f64 0, .string ⟨#[]⟩, .int .i64 0, .bool false, .bool false, .bool false, .slice none 0 0, .int .u8 0, .string ⟨#[]⟩]) 49)) p 218 (playC ans k wt) from (hP.alloc _).alloc _)
  have KW := hidB (show Kept (fun q => q = p) w ((w.alloc (.cells (a.cs) 34)).alloc (.cells (#[.int .u8 0, .int .u8 0, .float .f64 0, .string ⟨#[]⟩, .int .i64 0, .bool false, .bool false, .int .u8 0, .int .u8 0, .float .f64 0, .string ⟨#[]⟩, .int .i64 0, .int .u8 0, .float .f64 0, .string ⟨#[]⟩, .int .i64 0, .int .u8 0, .float .f64 0, .string ⟨#[]⟩, .int .i64 0, .bool false, .bool false, .bool false, .slice none 0 0, .int .u8 0, .string ⟨#[]⟩]) 49)) from ((Kept.refl _ w).alloc _).alloc _)
  have AF := hidB (fun W (h : Kept (fun q => q = p) w W) => hA.kept h)
  clear hP hA
  go_enter Tryz.func79, Tryz.ntmps79
  go_upto_region 1 with fail
  generalize hW : ((w.alloc (.cells (a.cs) 34)).alloc (.cells (#[.int .u8 0, .int .u8 0, .float .f64 0, .string ⟨#[]⟩, .int .i64 0, .bool false, .bool false, .int .u8 0, .int .u8 0, .float .f64 0, .string ⟨#[]⟩, .int .i64 0, .int .u8 0, .float .f64 0, .string ⟨#[]⟩, .int .i64 0, .int .u8 0, .float .f64 0, .string ⟨#[]⟩, .int .i64 0, .bool false, .bool false, .bool false, .slice none 0 0, .int .u8 0, .string ⟨#[]⟩]) 49)) = w1 at *
  clear hW
  have HA1 := hidB ha
  clear ha
  go_wp2_with (first | ((with_reducible refine ldId 34 (.tmp 3) ?_); refine wpList_load_row (by rfl) 34 (.tmp 3) (by rfl) (w.heap.size) (by rfl) 34 (a.cs) (0, 0) _ (by exact X.out) Tryz.underlying34 (by rfl) (by kernel_rfl) ?_) | ((with_reducible refine wpId ?_); refine wpList_build_to (by rfl) 51 _ (by rfl) ((methW a).cs) (by kernel_rfl) ?_))
  refine (want_any (methW a) (WI.one _ HA1.out rfl rfl rfl) p ans k wt L w1 hk PF.out (AF.out _ KW.out)).mono ?_; rintro e w2 ⟨O, rfl, hkp, hres⟩
  have HO := hidB hres.one
  have HRES := hidB hres
  have HLT := hidB R.out.lt
  replace R := hidB (R.out.kept hkp (by have := HPL.out; omega))
  replace KW := hidB (KW.out.trans hkp)
  have HSZ := hidB B.out.size
  clear hres hkp
  go_wp2_with (first | ((with_reducible refine stId 49 (.tmp 4) (.tmp 8) ?_); refine wpList_store_row (by rfl) 49 (.tmp 4) (.tmp 8) (by rfl) (w.heap.size + 1) (O.cs) (by rfl) (by rfl) 49 (OI.zero.cs) (by exact R.out) (by kernel_rfl) (by rfl) (by exact HO.out) ?_))
  exact bodyPost_ret (v := .agg (O.cs)) (results_cell_row Tryz.results79 _ _ (w.heap.size + 1) 49 (O.cs) (0, 0) _ rfl (R.out.setRow _) Tryz.underlying49 rfl (by kernel_rfl)) rfl (show ∃ O' : OI, Ending.returned O.a = .returned O'.a ∧ _ ∧ _ from ⟨O, rfl, KW.out.setRow (g := w.heap.size + 1) (.inr (by omega)) O.cs, (HRES.out.setRow HLT.out (by have := HPL.out; omega) O.cs).lower HSZ.out⟩)
set_option maxHeartbeats 8000000 in
set_option maxRecDepth 100000 in
theorem get_any (v : VI) (q : KI) (p : Nat) (ans : Value) (k : Nat) (wt : WI) (L : List (OI × List KI)) (w : World) (hk : k < 1000) (hP : Bk w p 218 (playC ans k wt)) (hA : AnsR p L ans w) : Calls Tryz.prog 110 #[.pointer (some ⟨p, 0, none⟩), v.a, q.a] w fun e w' => ∃ O : OI, e = .returned O.a ∧ Kept (fun q => q = p) w w' ∧ WantRes (methW (getA v q)) p ans k wt L w.heap.size O w' := by
  have HPL := hidB hP.lt
  have X := hidB (show Bk (((w.alloc (.cells (v.cells.toArray) 29)).alloc (.cells (q.cells.toArray) 26)).alloc (.cells (#[.int .u8 0, .int .u8 0, .float .f64 0, .string ⟨#[]⟩, .int .i64 0, .bool false, .bool false, .int .u8 0, .int .u8 0, .float .f64 0, .string ⟨#[]⟩, .int .i64 0, .int .u8 0, .float .f64 0, .string ⟨#[]⟩, .int .i64 0, .int .u8 0, .float .f64 0, .string ⟨#[]⟩, .int .i64 0, .bool false, .bool false, .bool false, .slice none 0 0, .int .u8 0, .string ⟨#[]⟩]) 49)) (w.heap.size) 29 (v.cells.toArray) from ((Bk.new w _ _).alloc _).alloc _)
  have Y := hidB (show Bk (((w.alloc (.cells (v.cells.toArray) 29)).alloc (.cells (q.cells.toArray) 26)).alloc (.cells (#[.int .u8 0, .int .u8 0, .float .f64 0, .string ⟨#[]⟩, .int .i64 0, .bool false, .bool false, .int .u8 0, .int .u8 0, .float .f64 0, .string ⟨#[]⟩, .int .i64 0, .int .u8 0, .float .f64 0, .string ⟨#[]⟩, .int .i64 0, .int .u8 0, .float .f64 0, .string ⟨#[]⟩, .int .i64 0, .bool false, .bool false, .bool false, .slice none 0 0, .int .u8 0, .string ⟨#[]⟩]) 49)) (w.heap.size + 1) 26 (q.cells.toArray) from (Bk.new2 w _ _ _).alloc _)
  have R := hidB (show Bk (((w.alloc (.cells (v.cells.toArray) 29)).alloc (.cells (q.cells.toArray) 26)).alloc (.cells (#[.int .u8 0, .int .u8 0, .float .f64 0, .string ⟨#[]⟩, .int .i64 0, .bool false, .bool false, .int .u8 0, .int .u8 0, .float .f64 0, .string ⟨#[]⟩, .int .i64 0, .int .u8 0, .float .f64 0, .string ⟨#[]⟩, .int .i64 0, .int .u8 0, .float .f64 0, .string ⟨#[]⟩, .int .i64 0, .bool false, .bool false, .bool false, .slice none 0 0, .int .u8 0, .string ⟨#[]⟩]) 49)) (w.heap.size + 1 + 1) 49 (OI.zero.cs) from Bk.new3 w _ _ _ _)
  have B := hidB (show Below w.heap.size w (((w.alloc (.cells (v.cells.toArray) 29)).alloc (.cells (q.cells.toArray) 26)).alloc (.cells (#[.int .u8 0, .int .u8 0, .float .f64 0, .string ⟨#[]⟩, .int .i64 0, .bool false, .bool false, .int .u8 0, .int .u8 0, .float .f64 0, .string ⟨#[]⟩, .int .i64 0, .int .u8 0, .float .f64 0, .string ⟨#[]⟩, .int .i64 0, .int .u8 0, .float .f64 0, .string ⟨#[]⟩, .int .i64 0, .bool false, .bool false, .bool false, .slice none 0 0, .int .u8 0, .string ⟨#[]⟩]) 49)) from ((box_one w _).alloc (by simp) _).alloc (by simp <;> omega) _)
  have PF := hidB (show Bk (((w.alloc (.cells (v.cells.toArray) 29)).alloc (.cells (q.cells.toArray) 26)).alloc (.cells (#[.int .u8 0, .int .u8 0, .float .f64 0, .string ⟨#[]⟩, .int .i64 0, .bool false, .bool false, .int .u8 0, .int .u8 0, .float .f64 0, .string ⟨#[]⟩, .int .i64 0, .int .u8 0, .float .f64 0, .string ⟨#[]⟩, .int .i64 0, .int .u8 0, .float .f64 0, .string ⟨#[]⟩, .int .i64 0, .bool false, .bool false, .bool false, .slice none 0 0, .int .u8 0, .string ⟨#[]⟩]) 49)) p 218 (playC ans k wt) from ((hP.alloc _).alloc _).alloc _)
  have KW := hidB (show Kept (fun q => q = p) w (((w.alloc (.cells (v.cells.toArray) 29)).alloc (.cells (q.cells.toArray) 26)).alloc (.cells (#[.int .u8 0, .int .u8 0, .float .f64 0, .string ⟨#[]⟩, .int .i64 0, .bool false, .bool false, .int .u8 0, .int .u8 0, .float .f64 0, .string ⟨#[]⟩, .int .i64 0, .int .u8 0, .float .f64 0, .string ⟨#[]⟩, .int .i64 0, .int .u8 0, .float .f64 0, .string ⟨#[]⟩, .int .i64 0, .bool false, .bool false, .bool false, .slice none 0 0, .int .u8 0, .string ⟨#[]⟩]) 49)) from (((Kept.refl _ w).alloc _).alloc _).alloc _)
  have AF := hidB (fun W (h : Kept (fun q => q = p) w W) => hA.kept h)
  clear hP hA
  go_enter Tryz.func110, Tryz.ntmps110
  go_upto_region 1 with fail
  generalize hW : (((w.alloc (.cells (v.cells.toArray) 29)).alloc (.cells (q.cells.toArray) 26)).alloc (.cells (#[.int .u8 0, .int .u8 0, .float .f64 0, .string ⟨#[]⟩, .int .i64 0, .bool false, .bool false, .int .u8 0, .int .u8 0, .float .f64 0, .string ⟨#[]⟩, .int .i64 0, .int .u8 0, .float .f64 0, .string ⟨#[]⟩, .int .i64 0, .int .u8 0, .float .f64 0, .string ⟨#[]⟩, .int .i64 0, .bool false, .bool false, .bool false, .slice none 0 0, .int .u8 0, .string ⟨#[]⟩]) 49)) = w1 at *
  clear hW
  have x3 : w1.cell? ⟨w.heap.size, 3, none⟩ = some (.int .i64 v.r) := X.out.cell 3
  go_wp2_with (first | ((with_reducible refine ldId 26 (.tmp 5) ?_); refine wpList_load_row (by rfl) 26 (.tmp 5) (by rfl) (w.heap.size + 1) (by rfl) 26 (q.cells.toArray) (0, 0) _ (by exact Y.out) Tryz.underlying26 (by rfl) (by kernel_rfl) ?_) | ((with_reducible refine ldId 29 (.tmp 4) ?_); refine wpList_load_row (by rfl) 29 (.tmp 4) (by rfl) (w.heap.size) (by rfl) 29 (v.cells.toArray) (0, 0) _ (by exact X.out) Tryz.underlying29 (by rfl) (by kernel_rfl) ?_) | ((with_reducible refine wpId ?_); refine wpList_build_to (by rfl) 34 _ (by rfl) ((getA v q).cs) (by kernel_rfl) ?_))
  refine (method_any (getA v q) rfl p ans k wt L w1 hk PF.out (AF.out _ KW.out)).mono ?_; rintro e w2 ⟨O, rfl, hkp, hres⟩
  have HO := hidB hres.one
  have HRES := hidB hres
  have HLT := hidB R.out.lt
  replace R := hidB (R.out.kept hkp (by have := HPL.out; omega))
  replace KW := hidB (KW.out.trans hkp)
  have HSZ := hidB B.out.size
  clear hres hkp
  go_wp2_with (first | ((with_reducible refine stId 49 (.tmp 6) (.tmp 13) ?_); refine wpList_store_row (by rfl) 49 (.tmp 6) (.tmp 13) (by rfl) (w.heap.size + 1 + 1) (O.cs) (by rfl) (by rfl) 49 (OI.zero.cs) (by exact R.out) (by kernel_rfl) (by rfl) (by exact HO.out) ?_))
  exact bodyPost_ret (v := .agg (O.cs)) (results_cell_row Tryz.results110 _ _ (w.heap.size + 1 + 1) 49 (O.cs) (0, 0) _ rfl (R.out.setRow _) Tryz.underlying49 rfl (by kernel_rfl)) rfl (show ∃ O' : OI, Ending.returned O.a = .returned O'.a ∧ _ ∧ _ from ⟨O, rfl, KW.out.setRow (g := w.heap.size + 1 + 1) (.inr (by omega)) O.cs, (HRES.out.setRow HLT.out (by have := HPL.out; omega) O.cs).lower HSZ.out⟩)
end Go.Proofs.YtbmaodlghglopaaGreatDoor
