/-
  The reference's player: what is wanted, answer by answer.
-/
import Derived.Test.YtbkjbpefbdoenaaCLike
namespace Go.Proofs.Ytbkjbpefbdoenaa
open Go.RowKit

theorem info_want : (Try.prog.info? 45).map (fun i => (i.zero, i.size, i.bytes)) = some (some (.agg WI.zero.cs), 87, 856) := by kernel_rfl
theorem bk_cellsC {w : World} {g : Nat} {t : TypeId} {cs : Array Value} (h : Bk w g t cs) : ∀ j u, cs.toList[j]? = some u → w.cell? ((⟨g, 0, none⟩ : Addr).add j) = some u := by
  intro j u hu
  rw [Addr.add_mid, Nat.zero_add, h.cell]
  simpa using hu
abbrev wF (t : WI) : List Value := t.cs.toList
/-- The answer with a number. -/
def nthO (L : List (OI × List KI)) (k : Nat) : OI := match L[k]? with | some e => e.1 | none => OI.zero
/-- A player: its answers, what it has wanted. -/
structure RP (w0 : World) (p : Nat) (ans : Value) (wl : List WI) (w : World) : Prop where
  b : Below w0.heap.size w0 w
  hp : w0.heap.size ≤ p
  bk : ∃ wv, Bk w p 95 #[ans, wv] ∧ w.ownsRow w0.heap.size 45 87 wv wl.length (wl.flatMap wF)
/-- What a player's method leaves as it was. -/
structure FrP (p : Nat) (w w' : World) : Prop where
  size : w.heap.size ≤ w'.heap.size
  keep : ∀ b t cs, Bk w b t cs → t ≠ 45 → b ≠ p → Bk w' b t cs
theorem FrP.refl (p : Nat) (w : World) : FrP p w w := ⟨Nat.le_refl _, fun _ _ _ h _ _ => h⟩
theorem FrP.trans {p : Nat} {a b c : World} (h : FrP p a b) (k : FrP p b c) : FrP p a c := ⟨Nat.le_trans h.size k.size, fun x t cs hb ht hp => k.keep x t cs (h.keep x t cs hb ht hp) ht hp⟩
theorem FrP.below {p : Nat} {w w' : World} (h : Below w.heap.size w w') : FrP p w w' := ⟨h.size, fun _ _ _ hb _ _ => hb.on h⟩
theorem FrP.grown {p : Nat} {a w w1 : World} (h : FrP p a w) {base sz n : Nat} {v : Value} {xs : List Value} (ho : w.ownsRow base 45 sz v n xs) (hg : w.grownBy w1 v.ownBlock) : FrP p a w1 :=
  ⟨Nat.le_trans h.size hg.size, fun x t cs hb ht hp => (h.keep x t cs hb ht hp).grown hg (fun e => own_neB ho (h.keep x t cs hb ht hp) (fun e => ht e.symm) e rfl)⟩
theorem FrP.setCell {p : Nat} {a w : World} (h : FrP p a w) (i : Nat) (v : Value) : FrP p a (w.setCell ⟨p, i, none⟩ v) :=
  ⟨by simpa [World.setCell] using h.size, fun x t cs hb ht hp => (h.keep x t cs hb ht hp).far hp v⟩
theorem FrP.setRow {p : Nat} {a w : World} (h : FrP p a w) {g : Nat} (hg : a.heap.size ≤ g) (ds : Array Value) : FrP p a (w.setRow g ds) :=
  ⟨by simpa [World.setRow] using h.size, fun x t cs hb ht hp => (h.keep x t cs hb ht hp).setRow_far (by have := hb.lt; omega) ds⟩
theorem RP.on {w0 : World} {p : Nat} {ans : Value} {wl : List WI} {w w' : World} (h : RP w0 p ans wl w) (hb : Below w.heap.size w w') : RP w0 p ans wl w' := by
  obtain ⟨h1, h2, wv, h3, h4⟩ := h
  exact ⟨h1.trans (hb.mono h1.size), h2, wv, h3.on hb, own_on h4 hb⟩
theorem RP.setRow {w0 : World} {p : Nat} {ans : Value} {wl : List WI} {w : World} (h : RP w0 p ans wl w) {g : Nat} {t : TypeId} {cs : Array Value} (hg : w0.heap.size ≤ g) (hb : Bk w g t cs) (ht : t ≠ 45) (ht2 : t ≠ 95) (ds : Array Value) : RP w0 p ans wl (w.setRow g ds) := by
  obtain ⟨h1, h2, wv, h3, h4⟩ := h
  have hgp : g ≠ p := by
    rintro rfl
    unfold Bk at hb h3
    rw [hb] at h3
    cases h3
    exact ht2 rfl
  exact ⟨below_setRow h1 hg ds, h2, wv, h3.setRow_far hgp ds, own_eq h4 fun k hk => heap_setRow w (own_neB h4 hb (fun e => ht e.symm) hk) ds⟩
abbrev RdO (L : List (OI × List KI)) (v : Value) (w : World) : Prop := RdL (fun e : OI × List KI => e.1.cs.toList) 26 L v w
set_option maxHeartbeats 8000000 in
set_option maxRecDepth 100000 in
theorem rwant_any (w0 : World) (p : Nat) (ans : Value) (wl : List WI) (L : List (OI × List KI)) (t : WI) (hA : RdO L ans w0) (hK : ∀ e ∈ L, e.1.keys.oneCell' = true) (ht : t.cs.all (·.oneCell') = true) (hwl : wl.length ≤ 1000) (w : World) (h : RP w0 p ans wl w) : Calls Try.prog 95 #[.pointer (some ⟨p, 0, none⟩), t.a] w fun e w' => e = .returned (nthO L wl.length).a ∧ RP w0 p ans (wl ++ [t]) w' ∧ FrP p w w' := by
  have HB00 := hidB h.b
  have HAO := hidB hA
  obtain ⟨pa, c, rfl, h1, h2, h3⟩ := hA
  unfold maxLen at h2
  have hlm : L.length ≤ 9223372036854775807 := by omega
  have HC := hidB h3
  have HKO := hidB hK
  have HT := hidB ht
  have HWL := hidB hwl
  obtain ⟨hb0, hp0, wv, hpk, hown⟩ := h
  obtain ⟨qw, cw, rfl⟩ := own_slice hown
  have HP0 := hidB hp0
  have HOLT := hidB (fun k hk => (hown.lt k hk).2)
  have HPLT := hidB hpk.lt
  obtain ⟨i0, hi, hz0, hz1, hz2⟩ := info_parts info_want
  have hwl2 : wl.length ≤ 9223372036854775806 := by omega
  have HB0 := hidB (show w0.heap.size ≤ w.heap.size + 1 by have := HB00.out.size; omega)
  clear hK ht h3 h1
  have X := hidB (show Bk ((w.alloc (.cells (t.cs) 45)).alloc (.cells (#[.int .u8 0, .int .u8 0, .float .f64 0, .string ⟨#[]⟩, .int .i64 0, .bool false, .bool false, .int .u8 0, .int .u8 0, .float .f64 0, .string ⟨#[]⟩, .int .i64 0, .int .u8 0, .float .f64 0, .string ⟨#[]⟩, .int .i64 0, .int .u8 0, .float .f64 0, .string ⟨#[]⟩, .int .i64 0, .bool false, .bool false, .bool false, .slice none 0 0, .int .u8 0, .string ⟨#[]⟩]) 36)) (w.heap.size) 45 (t.cs) from (Bk.new w _ _).alloc _)
  have R := hidB (show Bk ((w.alloc (.cells (t.cs) 45)).alloc (.cells (#[.int .u8 0, .int .u8 0, .float .f64 0, .string ⟨#[]⟩, .int .i64 0, .bool false, .bool false, .int .u8 0, .int .u8 0, .float .f64 0, .string ⟨#[]⟩, .int .i64 0, .int .u8 0, .float .f64 0, .string ⟨#[]⟩, .int .i64 0, .int .u8 0, .float .f64 0, .string ⟨#[]⟩, .int .i64 0, .bool false, .bool false, .bool false, .slice none 0 0, .int .u8 0, .string ⟨#[]⟩]) 36)) (w.heap.size + 1) 36 (#[.int .u8 0, .int .u8 0, .float .f64 0, .string ⟨#[]⟩, .int .i64 0, .bool false, .bool false, .int .u8 0, .int .u8 0, .float .f64 0, .string ⟨#[]⟩, .int .i64 0, .int .u8 0, .float .f64 0, .string ⟨#[]⟩, .int .i64 0, .int .u8 0, .float .f64 0, .string ⟨#[]⟩, .int .i64 0, .bool false, .bool false, .bool false, .slice none 0 0, .int .u8 0, .string ⟨#[]⟩]) from Bk.new2 w _ _ _)
  go_enter Try.func95, Try.ntmps95
  go_upto_region 1 with fail
  have B := hidB (show Below w0.heap.size w0 ((w.alloc (.cells (t.cs) 45)).alloc (.cells (#[.int .u8 0, .int .u8 0, .float .f64 0, .string ⟨#[]⟩, .int .i64 0, .bool false, .bool false, .int .u8 0, .int .u8 0, .float .f64 0, .string ⟨#[]⟩, .int .i64 0, .int .u8 0, .float .f64 0, .string ⟨#[]⟩, .int .i64 0, .int .u8 0, .float .f64 0, .string ⟨#[]⟩, .int .i64 0, .bool false, .bool false, .bool false, .slice none 0 0, .int .u8 0, .string ⟨#[]⟩]) 36)) from (HB00.out.alloc HB00.out.size _).alloc (Nat.le_trans HB00.out.size (by simp)) _)
  have HG := hidB (show Bk ((w.alloc (.cells (t.cs) 45)).alloc (.cells (#[.int .u8 0, .int .u8 0, .float .f64 0, .string ⟨#[]⟩, .int .i64 0, .bool false, .bool false, .int .u8 0, .int .u8 0, .float .f64 0, .string ⟨#[]⟩, .int .i64 0, .int .u8 0, .float .f64 0, .string ⟨#[]⟩, .int .i64 0, .int .u8 0, .float .f64 0, .string ⟨#[]⟩, .int .i64 0, .bool false, .bool false, .bool false, .slice none 0 0, .int .u8 0, .string ⟨#[]⟩]) 36)) p 95 #[(.slice pa L.length c), (.slice qw wl.length cw)] from (hpk.alloc _).alloc _)
  have HO := hidB (show ((w.alloc (.cells (t.cs) 45)).alloc (.cells (#[.int .u8 0, .int .u8 0, .float .f64 0, .string ⟨#[]⟩, .int .i64 0, .bool false, .bool false, .int .u8 0, .int .u8 0, .float .f64 0, .string ⟨#[]⟩, .int .i64 0, .int .u8 0, .float .f64 0, .string ⟨#[]⟩, .int .i64 0, .int .u8 0, .float .f64 0, .string ⟨#[]⟩, .int .i64 0, .bool false, .bool false, .bool false, .slice none 0 0, .int .u8 0, .string ⟨#[]⟩]) 36)).ownsRow w0.heap.size 45 87 (.slice qw wl.length cw) wl.length (wl.flatMap wF) from own_on (own_on hown (box_one _ _)) (box_one _ _))
  have FR := hidB (show FrP p w ((w.alloc (.cells (t.cs) 45)).alloc (.cells (#[.int .u8 0, .int .u8 0, .float .f64 0, .string ⟨#[]⟩, .int .i64 0, .bool false, .bool false, .int .u8 0, .int .u8 0, .float .f64 0, .string ⟨#[]⟩, .int .i64 0, .int .u8 0, .float .f64 0, .string ⟨#[]⟩, .int .i64 0, .int .u8 0, .float .f64 0, .string ⟨#[]⟩, .int .i64 0, .bool false, .bool false, .bool false, .slice none 0 0, .int .u8 0, .string ⟨#[]⟩]) 36)) from (FrP.below (box_one _ _)).trans (FrP.below (box_one _ _)))
  clear hpk hown hb0 hp0 HB00
  generalize hW : ((w.alloc (.cells (t.cs) 45)).alloc (.cells (#[.int .u8 0, .int .u8 0, .float .f64 0, .string ⟨#[]⟩, .int .i64 0, .bool false, .bool false, .int .u8 0, .int .u8 0, .float .f64 0, .string ⟨#[]⟩, .int .i64 0, .int .u8 0, .float .f64 0, .string ⟨#[]⟩, .int .i64 0, .int .u8 0, .float .f64 0, .string ⟨#[]⟩, .int .i64 0, .bool false, .bool false, .bool false, .slice none 0 0, .int .u8 0, .string ⟨#[]⟩]) 36)) = w1 at *
  clear hW
  go_cut [] from 6 to 15 (fun wx => Below w0.heap.size w0 wx ∧ Bk wx w.heap.size 45 t.cs ∧ Bk wx (w.heap.size + 1) 36 #[.int .u8 0, .int .u8 0, .float .f64 0, .string ⟨#[]⟩, .int .i64 0, .bool false, .bool false, .int .u8 0, .int .u8 0, .float .f64 0, .string ⟨#[]⟩, .int .i64 0, .int .u8 0, .float .f64 0, .string ⟨#[]⟩, .int .i64 0, .int .u8 0, .float .f64 0, .string ⟨#[]⟩, .int .i64 0, .bool false, .bool false, .bool false, .slice none 0 0, .int .u8 0, .string ⟨#[]⟩] ∧ FrP p w wx ∧ ∃ v, Bk wx p 95 #[(.slice pa L.length c), v] ∧ wx.ownsRow w0.heap.size 45 87 v (wl.length + 1) ((wl ++ [t]).flatMap wF))
  case first =>
    refine wp_region_noPanic ?_
    refine wp_region_held_drew (S := fun W => Below w0.heap.size w0 W ∧ Bk W w.heap.size 45 t.cs ∧ ∃ u, Bk W p 95 #[(.slice pa L.length c), u]) (by kernel_rfl) ?_ (fun hHeld => ?_)
    · exact ⟨B.out.drew, X.out.drew, _, HG.out.drew⟩
    replace B := hidB (show Below w0.heap.size w0 w1.drew from B.out.drew)
    replace X := hidB (show Bk w1.drew w.heap.size 45 t.cs from X.out)
    replace R := hidB (show Bk w1.drew (w.heap.size + 1) 36 #[.int .u8 0, .int .u8 0, .float .f64 0, .string ⟨#[]⟩, .int .i64 0, .bool false, .bool false, .int .u8 0, .int .u8 0, .float .f64 0, .string ⟨#[]⟩, .int .i64 0, .int .u8 0, .float .f64 0, .string ⟨#[]⟩, .int .i64 0, .int .u8 0, .float .f64 0, .string ⟨#[]⟩, .int .i64 0, .bool false, .bool false, .bool false, .slice none 0 0, .int .u8 0, .string ⟨#[]⟩] from R.out)
    replace HG := hidB (show Bk w1.drew p 95 #[(.slice pa L.length c), (.slice qw wl.length cw)] from HG.out)
    replace HO := hidB (show w1.drew.ownsRow w0.heap.size 45 87 (.slice qw wl.length cw) wl.length (wl.flatMap wF) from own_on HO.out (Below.refl _ _).drew)
    replace FR := hidB (show FrP p w w1.drew from FR.out.trans (FrP.below (Below.refl _ _).drew))
    generalize hWd : w1.drew = wd at *
    clear hWd
    first | (refine wpAnyH_take (i := 0) (v := undef) (by simp only [List.getElem?_toArray, List.getElem?_cons_zero]; exact rfl) (by kernel_rfl) (by kernel_rfl) (by kernel_rfl) (fun _ _ _ h => h) (Or.inr ⟨?_, rfl⟩) (by assumption) ?_; (rfl); try simp only [Act.put, List.setIfInBounds_toArray, List.set_cons_zero, List.set_cons_succ]) | (refine wpAnyH_take (i := 0) (v := ?_) (by simp only [List.getElem?_toArray, List.getElem?_cons_zero]; exact rfl) (by kernel_rfl) (by kernel_rfl) (by kernel_rfl) (fun _ _ _ h => h) (Or.inl ⟨?_, ?_⟩) (by assumption) ?_; rotate_left; (rfl); (focus (intro w hSw; (try dsimp only at hSw); go_simp; try with_reducible rfl)); try simp only [Act.put, List.setIfInBounds_toArray, List.set_cons_zero, List.set_cons_succ])
    first | (refine wpAnyH_take (i := 1) (v := undef) (by simp only [List.getElem?_toArray, List.getElem?_cons_succ, List.getElem?_cons_zero]; exact rfl) (by kernel_rfl) (by kernel_rfl) (by kernel_rfl) (fun _ _ _ h => h) (Or.inr ⟨?_, rfl⟩) (by assumption) ?_; (rfl); try simp only [Act.put, List.setIfInBounds_toArray, List.set_cons_zero, List.set_cons_succ]) | (refine wpAnyH_take (i := 1) (v := ?_) (by simp only [List.getElem?_toArray, List.getElem?_cons_succ, List.getElem?_cons_zero]; exact rfl) (by kernel_rfl) (by kernel_rfl) (by kernel_rfl) (fun _ _ _ h => h) (Or.inl ⟨?_, ?_⟩) (by assumption) ?_; rotate_left; (rfl); (focus (intro w hSw; (try dsimp only at hSw); go_simp; try with_reducible rfl)); try simp only [Act.put, List.setIfInBounds_toArray, List.set_cons_zero, List.set_cons_succ])
    first | (refine wpAnyH_take (i := 2) (v := undef) (by simp only [List.getElem?_toArray, List.getElem?_cons_succ, List.getElem?_cons_zero]; exact rfl) (by kernel_rfl) (by kernel_rfl) (by kernel_rfl) (fun _ _ _ h => h) (Or.inr ⟨?_, rfl⟩) (by assumption) ?_; (rfl); try simp only [Act.put, List.setIfInBounds_toArray, List.set_cons_zero, List.set_cons_succ]) | (refine wpAnyH_take (i := 2) (v := ?_) (by simp only [List.getElem?_toArray, List.getElem?_cons_succ, List.getElem?_cons_zero]; exact rfl) (by kernel_rfl) (by kernel_rfl) (by kernel_rfl) (fun _ _ _ h => h) (Or.inl ⟨?_, ?_⟩) (by assumption) ?_; rotate_left; (rfl); (focus (intro w hSw; (try dsimp only at hSw); go_simp; try with_reducible rfl)); try simp only [Act.put, List.setIfInBounds_toArray, List.set_cons_zero, List.set_cons_succ])
    first | (refine wpAnyH_take (i := 3) (v := undef) (by simp only [List.getElem?_toArray, List.getElem?_cons_succ, List.getElem?_cons_zero]; exact rfl) (by kernel_rfl) (by kernel_rfl) (by kernel_rfl) (fun _ _ _ h => h) (Or.inr ⟨?_, rfl⟩) (by assumption) ?_; (rfl); try simp only [Act.put, List.setIfInBounds_toArray, List.set_cons_zero, List.set_cons_succ]) | (refine wpAnyH_take (i := 3) (v := ?_) (by simp only [List.getElem?_toArray, List.getElem?_cons_succ, List.getElem?_cons_zero]; exact rfl) (by kernel_rfl) (by kernel_rfl) (by kernel_rfl) (fun _ _ _ h => h) (Or.inl ⟨?_, ?_⟩) (by assumption) ?_; rotate_left; (rfl); (focus (intro w hSw; (try dsimp only at hSw); go_simp; try with_reducible rfl)); try simp only [Act.put, List.setIfInBounds_toArray, List.set_cons_zero, List.set_cons_succ])
    (refine wpAnyH_take (i := 5) (v := t.a) (by simp only [List.getElem?_toArray, List.getElem?_cons_succ, List.getElem?_cons_zero]; exact rfl) (by kernel_rfl) (by kernel_rfl) (by kernel_rfl) (fun _ _ _ h => h) (yieldsIf_load_mid (by rfl) 45 (.tmp 3) (by rfl) (w.heap.size) (0) (by rfl) (t.cs.toList) _ (fun W hS => Bk.mid hS.2.1 0 _ rfl) Try.underlying45 (by rfl) (by kernel_rfl)) (by assumption) ?_; try simp only [Act.put, List.setIfInBounds_toArray, List.set_cons_zero, List.set_cons_succ])
    refine wpAnyH_ready (rs := [4, 6]) (by kernel_rfl) (by simp) ?_
    refine AllReadyH.cons rfl (fun K hK => ?_) ?_
    · skip
      have y1 : wd.cell? ⟨p, 1, none⟩ = some (.slice qw wl.length cw) := HG.out.cell 1
      go_simp
      clear y1
      refine hK.out _ _ ⟨B.out, X.out, _, HG.out⟩ (fun _ => ?_)
      clear hK K
      try simp only [Act.put, List.setIfInBounds_toArray, List.set_cons_zero, List.set_cons_succ]
      refine wpAnyH_ready (rs := [6]) (by kernel_rfl) (by simp) ?_
      refine AllReadyH.cons rfl (fun K hK => ?_) AllReadyH.nil
      rw [if_pos (by kernel_rfl)]
      refine wp_buildSlice 72 45 1 87 _ (by rfl) [(0, t.a)] (by kernel_rfl) (.agg WI.zero.cs) t.cs Try.underlying72 (by kernel_rfl) (by decide) (by decide) (by kernel_rfl) ?_
      have HNB := hidB (Bk.new wd 45 t.cs)
      replace B := hidB (B.out.alloc B.out.size (.cells t.cs 45))
      replace X := hidB (X.out.alloc (.cells t.cs 45))
      replace R := hidB (R.out.alloc (.cells t.cs 45))
      replace HG := hidB (HG.out.alloc (.cells t.cs 45))
      replace HO := hidB (own_on HO.out (box_one wd (.cells t.cs 45)))
      replace FR := hidB (FR.out.trans (FrP.below (box_one wd (.cells t.cs 45))))
      refine hK.out _ _ ⟨B.out, X.out, _, HG.out⟩ (fun _ => ?_)
      clear hK K
      try simp only [Act.put, List.setIfInBounds_toArray, List.set_cons_zero, List.set_cons_succ]
      generalize hWn : (wd.alloc (.cells t.cs 45)) = v6 at *
      clear hWn
      generalize hGn : wd.heap.size = gN at *
      clear hGn
      refine wpAnyH_ready (rs := [7]) (by kernel_rfl) (by simp) ?_
      refine AllReadyH.cons rfl (fun K hK => ?_) AllReadyH.nil
      rw [if_pos (by kernel_rfl)]
      refine wp_append_own (P := Try.prog) _ (.tmp 10) (.tmp 12) 72 (by rfl) w0.heap.size 45 i0 (.agg WI.zero.cs) 87 856 Try.underlying72 hi hz0 hz1 hz2 (by rfl) (by decide) (.slice qw wl.length cw) wl.length (wl.flatMap wF) (by rfl) HO.out ⟨gN, 0, none⟩ 1 1 t.cs.toList (by rfl) (by rfl) (bk_cellsC HNB.out) (fun u hu => (Array.all_eq_true_iff_forall_mem.1 HT.out) u (Array.mem_toList_iff.1 hu)) (by unfold maxLen; have := HWL.out; omega) (by have := HWL.out; omega) B.out.size ?_
      intro v' v7 hown' hgrow _
      replace B := hidB (below_grown B.out (Nat.le_refl _) hgrow (fun k hk => (HO.out.lt k hk).1))
      replace X := hidB (X.out.grown hgrow (fun e => Nat.lt_irrefl _ (HOLT.out _ e)))
      replace R := hidB (R.out.grown hgrow (fun e => own_neB HO.out R.out (by decide) e rfl))
      replace HG := hidB (HG.out.grown hgrow (fun e => own_neB HO.out HG.out (by decide) e rfl))
      replace FR := hidB (FR.out.grown HO.out hgrow)
      have HO7 := hidB hown'
      have V3 := hidB (own_one hown')
      obtain ⟨q3, c3, hv3⟩ := own_slice hown'
      subst hv3
      clear hown' hgrow HO HNB
      refine hK.out _ _ ⟨B.out, X.out, _, HG.out⟩ (fun _ => ?_)
      clear hK K
      try simp only [Act.put, List.setIfInBounds_toArray, List.set_cons_zero, List.set_cons_succ]
      first | (refine wpAnyH_take (i := 8) (v := undef) (by simp only [List.getElem?_toArray, List.getElem?_cons_succ, List.getElem?_cons_zero]; exact rfl) (by kernel_rfl) (by kernel_rfl) (by kernel_rfl) (fun _ _ _ h => h) (Or.inr ⟨?_, rfl⟩) (by assumption) ?_; (rfl); try simp only [Act.put, List.setIfInBounds_toArray, List.set_cons_zero, List.set_cons_succ]) | (refine wpAnyH_take (i := 8) (v := ?_) (by simp only [List.getElem?_toArray, List.getElem?_cons_succ, List.getElem?_cons_zero]; exact rfl) (by kernel_rfl) (by kernel_rfl) (by kernel_rfl) (fun _ _ _ h => h) (Or.inl ⟨?_, ?_⟩) (by assumption) ?_; rotate_left; (rfl); (focus (intro w hSw; (try dsimp only at hSw); go_simp; try with_reducible rfl)); try simp only [Act.put, List.setIfInBounds_toArray, List.set_cons_zero, List.set_cons_succ])
      first | (refine wpAnyH_take (i := 9) (v := undef) (by simp only [List.getElem?_toArray, List.getElem?_cons_succ, List.getElem?_cons_zero]; exact rfl) (by kernel_rfl) (by kernel_rfl) (by kernel_rfl) (fun _ _ _ h => h) (Or.inr ⟨?_, rfl⟩) (by assumption) ?_; (rfl); try simp only [Act.put, List.setIfInBounds_toArray, List.set_cons_zero, List.set_cons_succ]) | (refine wpAnyH_take (i := 9) (v := ?_) (by simp only [List.getElem?_toArray, List.getElem?_cons_succ, List.getElem?_cons_zero]; exact rfl) (by kernel_rfl) (by kernel_rfl) (by kernel_rfl) (fun _ _ _ h => h) (Or.inl ⟨?_, ?_⟩) (by assumption) ?_; rotate_left; (rfl); (focus (intro w hSw; (try dsimp only at hSw); go_simp; try with_reducible rfl)); try simp only [Act.put, List.setIfInBounds_toArray, List.set_cons_zero, List.set_cons_succ])
      refine wpAnyH_ready (rs := [10]) (by kernel_rfl) (by simp) ?_
      refine AllReadyH.cons rfl (fun K hK => ?_) AllReadyH.nil
      have y1 : v7.cell? ⟨p, 1, none⟩ = some (.slice qw wl.length cw) := HG.out.cell 1
      have f1 : v7.frozen? ⟨p, 1, none⟩ = false := HG.out.free 1
      go_simp
      replace B := hidB (show Below w0.heap.size w0 (v7.setCell ⟨p, 1, none⟩ (.slice q3 (wl.length + 1) c3)) from B.out.setCell (p := ⟨p, 1, none⟩) HP0.out _)
      replace X := hidB (show Bk (v7.setCell ⟨p, 1, none⟩ (.slice q3 (wl.length + 1) c3)) w.heap.size 45 t.cs from X.out.far (p := ⟨p, 1, none⟩) (show w.heap.size ≠ p by have := HPLT.out; omega) _)
      replace R := hidB (show Bk (v7.setCell ⟨p, 1, none⟩ (.slice q3 (wl.length + 1) c3)) (w.heap.size + 1) 36 #[.int .u8 0, .int .u8 0, .float .f64 0, .string ⟨#[]⟩, .int .i64 0, .bool false, .bool false, .int .u8 0, .int .u8 0, .float .f64 0, .string ⟨#[]⟩, .int .i64 0, .int .u8 0, .float .f64 0, .string ⟨#[]⟩, .int .i64 0, .int .u8 0, .float .f64 0, .string ⟨#[]⟩, .int .i64 0, .bool false, .bool false, .bool false, .slice none 0 0, .int .u8 0, .string ⟨#[]⟩] from R.out.far (p := ⟨p, 1, none⟩) (show w.heap.size + 1 ≠ p by have := HPLT.out; omega) _)
      replace HO7 := hidB (show (v7.setCell ⟨p, 1, none⟩ (.slice q3 (wl.length + 1) c3)).ownsRow w0.heap.size 45 87 (.slice q3 (wl.length + 1) c3) (wl.length + 1) (wl.flatMap wF ++ t.cs.toList) from own_eq HO7.out fun k hk => Below.heap_setCell v7 _ _ k (own_neB HO7.out HG.out (by decide) hk))
      replace FR := hidB (show FrP p w (v7.setCell ⟨p, 1, none⟩ (.slice q3 (wl.length + 1) c3)) from FR.out.setCell 1 _)
      replace HG := hidB (show Bk (v7.setCell ⟨p, 1, none⟩ (.slice q3 (wl.length + 1) c3)) p 95 #[(.slice pa L.length c), (.slice q3 (wl.length + 1) c3)] from HG.out.set 1 _)
      clear y1 f1
      refine hK.out _ _ ⟨B.out, X.out, _, HG.out⟩ (fun _ => ?_)
      clear hK K
      try simp only [Act.put, List.setIfInBounds_toArray, List.set_cons_zero, List.set_cons_succ]
      refine wpAnyH_done (by kernel_rfl) ?_ _
      refine NoPanic.normal ?_
      have HOF := hidB (show _ = (wl ++ [t]).flatMap wF from (by rw [List.flatMap_append, List.flatMap_cons, List.flatMap_nil, List.append_nil] : (wl ++ [t]).flatMap wF = wl.flatMap wF ++ t.cs.toList).symm)
      go_wp2_with fail
      go_meet
      case rel => exact ⟨B.out, X.out, R.out, FR.out, _, HG.out, HOF.out ▸ HO7.out⟩
    refine AllReadyH.cons rfl (fun K hK => ?_) AllReadyH.nil
    rw [if_pos (by kernel_rfl)]
    refine wp_buildSlice 72 45 1 87 _ (by rfl) [(0, t.a)] (by kernel_rfl) (.agg WI.zero.cs) t.cs Try.underlying72 (by kernel_rfl) (by decide) (by decide) (by kernel_rfl) ?_
    have HNB := hidB (Bk.new wd 45 t.cs)
    replace B := hidB (B.out.alloc B.out.size (.cells t.cs 45))
    replace X := hidB (X.out.alloc (.cells t.cs 45))
    replace R := hidB (R.out.alloc (.cells t.cs 45))
    replace HG := hidB (HG.out.alloc (.cells t.cs 45))
    replace HO := hidB (own_on HO.out (box_one wd (.cells t.cs 45)))
    replace FR := hidB (FR.out.trans (FrP.below (box_one wd (.cells t.cs 45))))
    refine hK.out _ _ ⟨B.out, X.out, _, HG.out⟩ (fun _ => ?_)
    clear hK K
    try simp only [Act.put, List.setIfInBounds_toArray, List.set_cons_zero, List.set_cons_succ]
    generalize hWn : (wd.alloc (.cells t.cs 45)) = v6 at *
    clear hWn
    generalize hGn : wd.heap.size = gN at *
    clear hGn
    refine wpAnyH_ready (rs := [4]) (by kernel_rfl) (by simp) ?_
    refine AllReadyH.cons rfl (fun K hK => ?_) AllReadyH.nil
    have y1 : v6.cell? ⟨p, 1, none⟩ = some (.slice qw wl.length cw) := HG.out.cell 1
    go_simp
    clear y1
    refine hK.out _ _ ⟨B.out, X.out, _, HG.out⟩ (fun _ => ?_)
    clear hK K
    try simp only [Act.put, List.setIfInBounds_toArray, List.set_cons_zero, List.set_cons_succ]
    refine wpAnyH_ready (rs := [7]) (by kernel_rfl) (by simp) ?_
    refine AllReadyH.cons rfl (fun K hK => ?_) AllReadyH.nil
    rw [if_pos (by kernel_rfl)]
    refine wp_append_own (P := Try.prog) _ (.tmp 10) (.tmp 12) 72 (by rfl) w0.heap.size 45 i0 (.agg WI.zero.cs) 87 856 Try.underlying72 hi hz0 hz1 hz2 (by rfl) (by decide) (.slice qw wl.length cw) wl.length (wl.flatMap wF) (by rfl) HO.out ⟨gN, 0, none⟩ 1 1 t.cs.toList (by rfl) (by rfl) (bk_cellsC HNB.out) (fun u hu => (Array.all_eq_true_iff_forall_mem.1 HT.out) u (Array.mem_toList_iff.1 hu)) (by unfold maxLen; have := HWL.out; omega) (by have := HWL.out; omega) B.out.size ?_
    intro v' v7 hown' hgrow _
    replace B := hidB (below_grown B.out (Nat.le_refl _) hgrow (fun k hk => (HO.out.lt k hk).1))
    replace X := hidB (X.out.grown hgrow (fun e => Nat.lt_irrefl _ (HOLT.out _ e)))
    replace R := hidB (R.out.grown hgrow (fun e => own_neB HO.out R.out (by decide) e rfl))
    replace HG := hidB (HG.out.grown hgrow (fun e => own_neB HO.out HG.out (by decide) e rfl))
    replace FR := hidB (FR.out.grown HO.out hgrow)
    have HO7 := hidB hown'
    have V3 := hidB (own_one hown')
    obtain ⟨q3, c3, hv3⟩ := own_slice hown'
    subst hv3
    clear hown' hgrow HO HNB
    refine hK.out _ _ ⟨B.out, X.out, _, HG.out⟩ (fun _ => ?_)
    clear hK K
    try simp only [Act.put, List.setIfInBounds_toArray, List.set_cons_zero, List.set_cons_succ]
    first | (refine wpAnyH_take (i := 8) (v := undef) (by simp only [List.getElem?_toArray, List.getElem?_cons_succ, List.getElem?_cons_zero]; exact rfl) (by kernel_rfl) (by kernel_rfl) (by kernel_rfl) (fun _ _ _ h => h) (Or.inr ⟨?_, rfl⟩) (by assumption) ?_; (rfl); try simp only [Act.put, List.setIfInBounds_toArray, List.set_cons_zero, List.set_cons_succ]) | (refine wpAnyH_take (i := 8) (v := ?_) (by simp only [List.getElem?_toArray, List.getElem?_cons_succ, List.getElem?_cons_zero]; exact rfl) (by kernel_rfl) (by kernel_rfl) (by kernel_rfl) (fun _ _ _ h => h) (Or.inl ⟨?_, ?_⟩) (by assumption) ?_; rotate_left; (rfl); (focus (intro w hSw; (try dsimp only at hSw); go_simp; try with_reducible rfl)); try simp only [Act.put, List.setIfInBounds_toArray, List.set_cons_zero, List.set_cons_succ])
    first | (refine wpAnyH_take (i := 9) (v := undef) (by simp only [List.getElem?_toArray, List.getElem?_cons_succ, List.getElem?_cons_zero]; exact rfl) (by kernel_rfl) (by kernel_rfl) (by kernel_rfl) (fun _ _ _ h => h) (Or.inr ⟨?_, rfl⟩) (by assumption) ?_; (rfl); try simp only [Act.put, List.setIfInBounds_toArray, List.set_cons_zero, List.set_cons_succ]) | (refine wpAnyH_take (i := 9) (v := ?_) (by simp only [List.getElem?_toArray, List.getElem?_cons_succ, List.getElem?_cons_zero]; exact rfl) (by kernel_rfl) (by kernel_rfl) (by kernel_rfl) (fun _ _ _ h => h) (Or.inl ⟨?_, ?_⟩) (by assumption) ?_; rotate_left; (rfl); (focus (intro w hSw; (try dsimp only at hSw); go_simp; try with_reducible rfl)); try simp only [Act.put, List.setIfInBounds_toArray, List.set_cons_zero, List.set_cons_succ])
    refine wpAnyH_ready (rs := [10]) (by kernel_rfl) (by simp) ?_
    refine AllReadyH.cons rfl (fun K hK => ?_) AllReadyH.nil
    have y1 : v7.cell? ⟨p, 1, none⟩ = some (.slice qw wl.length cw) := HG.out.cell 1
    have f1 : v7.frozen? ⟨p, 1, none⟩ = false := HG.out.free 1
    go_simp
    replace B := hidB (show Below w0.heap.size w0 (v7.setCell ⟨p, 1, none⟩ (.slice q3 (wl.length + 1) c3)) from B.out.setCell (p := ⟨p, 1, none⟩) HP0.out _)
    replace X := hidB (show Bk (v7.setCell ⟨p, 1, none⟩ (.slice q3 (wl.length + 1) c3)) w.heap.size 45 t.cs from X.out.far (p := ⟨p, 1, none⟩) (show w.heap.size ≠ p by have := HPLT.out; omega) _)
    replace R := hidB (show Bk (v7.setCell ⟨p, 1, none⟩ (.slice q3 (wl.length + 1) c3)) (w.heap.size + 1) 36 #[.int .u8 0, .int .u8 0, .float .f64 0, .string ⟨#[]⟩, .int .i64 0, .bool false, .bool false, .int .u8 0, .int .u8 0, .float .f64 0, .string ⟨#[]⟩, .int .i64 0, .int .u8 0, .float .f64 0, .string ⟨#[]⟩, .int .i64 0, .int .u8 0, .float .f64 0, .string ⟨#[]⟩, .int .i64 0, .bool false, .bool false, .bool false, .slice none 0 0, .int .u8 0, .string ⟨#[]⟩] from R.out.far (p := ⟨p, 1, none⟩) (show w.heap.size + 1 ≠ p by have := HPLT.out; omega) _)
    replace HO7 := hidB (show (v7.setCell ⟨p, 1, none⟩ (.slice q3 (wl.length + 1) c3)).ownsRow w0.heap.size 45 87 (.slice q3 (wl.length + 1) c3) (wl.length + 1) (wl.flatMap wF ++ t.cs.toList) from own_eq HO7.out fun k hk => Below.heap_setCell v7 _ _ k (own_neB HO7.out HG.out (by decide) hk))
    replace FR := hidB (show FrP p w (v7.setCell ⟨p, 1, none⟩ (.slice q3 (wl.length + 1) c3)) from FR.out.setCell 1 _)
    replace HG := hidB (show Bk (v7.setCell ⟨p, 1, none⟩ (.slice q3 (wl.length + 1) c3)) p 95 #[(.slice pa L.length c), (.slice q3 (wl.length + 1) c3)] from HG.out.set 1 _)
    clear y1 f1
    refine hK.out _ _ ⟨B.out, X.out, _, HG.out⟩ (fun _ => ?_)
    clear hK K
    try simp only [Act.put, List.setIfInBounds_toArray, List.set_cons_zero, List.set_cons_succ]
    refine wpAnyH_done (by kernel_rfl) ?_ _
    refine NoPanic.normal ?_
    have HOF := hidB (show _ = (wl ++ [t]).flatMap wF from (by rw [List.flatMap_append, List.flatMap_cons, List.flatMap_nil, List.append_nil] : (wl ++ [t]).flatMap wF = wl.flatMap wF ++ t.cs.toList).symm)
    go_wp2_with fail
    go_meet
    case rel => exact ⟨B.out, X.out, R.out, FR.out, _, HG.out, HOF.out ▸ HO7.out⟩
  case rest =>
  clear B X R HG HO FR
  obtain ⟨hb, hX, hR, hF, v, hg, ho⟩ := hcut
  obtain ⟨q3, c3, rfl⟩ := own_slice ho
  have B := hidB hb
  have R := hidB hR
  have FR := hidB hF
  have HG := hidB hg
  have HO := hidB ho
  clear hb hX hR hF hg ho HOLT HPLT hi hz0 hz1 hz2
  have g1 : wc.cell? ⟨p, 1, none⟩ = some (.slice q3 (wl.length + 1) c3) := HG.out.cell 1
  have g0 : wc.cell? ⟨p, 0, none⟩ = some (.slice pa L.length c) := HG.out.cell 0
  have HRP := hidB (show RP w0 p (.slice pa L.length c) (wl ++ [t]) wc from ⟨B.out, HP0.out, _, HG.out, by rw [List.length_append]; exact HO.out⟩)
  by_cases hlt : L.length ≤ wl.length
  · have HN := hidB (show nthO L wl.length = OI.zero by unfold nthO; rw [List.getElem?_eq_none hlt])
    have hgt : (L.length : Int) < (wl.length : Int) + 1 := by omega
    go_wp2_with (first | ((with_reducible refine wpId ?_); refine wpList_build_to (by rfl) 36 _ (by rfl) (#[.int .u8 0, .int .u8 0, .float .f64 0, .string ⟨#[]⟩, .int .i64 0, .bool false, .bool false, .int .u8 0, .int .u8 0, .float .f64 0, .string ⟨#[]⟩, .int .i64 0, .int .u8 0, .float .f64 0, .string ⟨#[]⟩, .int .i64 0, .int .u8 0, .float .f64 0, .string ⟨#[]⟩, .int .i64 0, .bool false, .bool false, .bool false, .slice none 0 0, .int .u8 0, .string ⟨#[]⟩]) (by kernel_rfl) ?_) | ((with_reducible refine stId 36 (.tmp 4) (.tmp 28) ?_); refine wpList_store_row (by rfl) 36 (.tmp 4) (.tmp 28) (by rfl) (w.heap.size + 1) (#[.int .u8 0, .int .u8 0, .float .f64 0, .string ⟨#[]⟩, .int .i64 0, .bool false, .bool false, .int .u8 0, .int .u8 0, .float .f64 0, .string ⟨#[]⟩, .int .i64 0, .int .u8 0, .float .f64 0, .string ⟨#[]⟩, .int .i64 0, .int .u8 0, .float .f64 0, .string ⟨#[]⟩, .int .i64 0, .bool false, .bool false, .bool false, .slice none 0 0, .int .u8 0, .string ⟨#[]⟩]) (by rfl) (by rfl) 36 (#[.int .u8 0, .int .u8 0, .float .f64 0, .string ⟨#[]⟩, .int .i64 0, .bool false, .bool false, .int .u8 0, .int .u8 0, .float .f64 0, .string ⟨#[]⟩, .int .i64 0, .int .u8 0, .float .f64 0, .string ⟨#[]⟩, .int .i64 0, .int .u8 0, .float .f64 0, .string ⟨#[]⟩, .int .i64 0, .bool false, .bool false, .bool false, .slice none 0 0, .int .u8 0, .string ⟨#[]⟩]) (by exact R.out) (by kernel_rfl) (by rfl) (by exact OI.one OI.zero rfl) ?_))
    exact bodyPost_ret (v := .agg (#[.int .u8 0, .int .u8 0, .float .f64 0, .string ⟨#[]⟩, .int .i64 0, .bool false, .bool false, .int .u8 0, .int .u8 0, .float .f64 0, .string ⟨#[]⟩, .int .i64 0, .int .u8 0, .float .f64 0, .string ⟨#[]⟩, .int .i64 0, .int .u8 0, .float .f64 0, .string ⟨#[]⟩, .int .i64 0, .bool false, .bool false, .bool false, .slice none 0 0, .int .u8 0, .string ⟨#[]⟩])) (results_cell_row Try.results95 _ _ (w.heap.size + 1) 36 (#[.int .u8 0, .int .u8 0, .float .f64 0, .string ⟨#[]⟩, .int .i64 0, .bool false, .bool false, .int .u8 0, .int .u8 0, .float .f64 0, .string ⟨#[]⟩, .int .i64 0, .int .u8 0, .float .f64 0, .string ⟨#[]⟩, .int .i64 0, .int .u8 0, .float .f64 0, .string ⟨#[]⟩, .int .i64 0, .bool false, .bool false, .bool false, .slice none 0 0, .int .u8 0, .string ⟨#[]⟩]) (0, 0) _ rfl (R.out.setRow _) Try.underlying36 rfl (by kernel_rfl)) rfl (⟨by rw [HN.out]; rfl, HRP.out.setRow (by have := HB0.out; omega) R.out (by decide) (by decide) _, FR.out.setRow (Nat.le_succ _) _⟩)
  have hlt2 : wl.length < L.length := by omega
  have HN := hidB (show nthO L wl.length = (L[wl.length]'hlt2).1 by unfold nthO; rw [List.getElem?_eq_getElem hlt2])
  obtain ⟨g, o, rfl, hgl, hrow⟩ := HC.out (by omega)
  have HRW := hidB (rangeOn B.out hgl (hrow wl.length hlt2))
  have HKQ := hidB (HKO.out _ (List.getElem_mem hlt2))
  clear hgl hrow
  generalize (L[wl.length]'hlt2) = e0 at *
  have hgt : ¬ (L.length : Int) < (wl.length : Int) + 1 := by omega
  have hs1 : (wl.length : Int) + 1 - 1 = (wl.length : Int) := by omega
  have hx1 : (wl.length : Int) < (L.length : Int) := by omega
  have hx2 : (0 : Int) ≤ (wl.length : Int) := by omega
  go_wp2_with (first | ((with_reducible refine ldId 36 (.tmp 35) ?_); refine wpList_load_mid (by rfl) 36 (.tmp 35) (by rfl) g (o + wl.length * 26) (by rfl) e0.1.cs.toList _ (by exact HRW.out) Try.underlying36 (by rfl) (by kernel_rfl) ?_) | ((with_reducible refine stId 36 (.tmp 4) (.tmp 36) ?_); refine wpList_store_row (by rfl) 36 (.tmp 4) (.tmp 36) (by rfl) (w.heap.size + 1) (e0.1.cs) (by rfl) (by rfl) 36 (#[.int .u8 0, .int .u8 0, .float .f64 0, .string ⟨#[]⟩, .int .i64 0, .bool false, .bool false, .int .u8 0, .int .u8 0, .float .f64 0, .string ⟨#[]⟩, .int .i64 0, .int .u8 0, .float .f64 0, .string ⟨#[]⟩, .int .i64 0, .int .u8 0, .float .f64 0, .string ⟨#[]⟩, .int .i64 0, .bool false, .bool false, .bool false, .slice none 0 0, .int .u8 0, .string ⟨#[]⟩]) (by exact R.out) (by kernel_rfl) (by rfl) (by exact OI.one _ HKQ.out) ?_))
  exact bodyPost_ret (v := .agg (e0.1.cs)) (results_cell_row Try.results95 _ _ (w.heap.size + 1) 36 (e0.1.cs) (0, 0) _ rfl (R.out.setRow _) Try.underlying36 rfl (by kernel_rfl)) rfl (⟨by rw [HN.out], HRP.out.setRow (by have := HB0.out; omega) R.out (by decide) (by decide) _, FR.out.setRow (Nat.le_succ _) _⟩)

end Go.Proofs.Ytbkjbpefbdoenaa
