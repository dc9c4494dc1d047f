/-
  A heap with one more object: heap.New.
-/
import Derived.Test.YtnidamkgfgddfaaGreatHBare
namespace Go.Proofs.YtnidamkgfgddfaaGreat
open Go.RowKit

theorem put_none_KH {K : Act → World → Prop} {a : Act} {o : Option Tmp} {v : Value} {w : World} (h : o = none) (k : K a w) : K (a.put o v) w := by
  subst h; exact k
theorem bk_cellsH {w : World} {g : Nat} {t : TypeId} {cs : Array Value} (h : Bk w g t cs) : ∀ j u, cs.toList[j]? = some u → w.cell? ((⟨g, 0, none⟩ : Addr).add j) = some u := by
  intro j u hu
  rw [Addr.add_mid, Nat.zero_add, h.cell j, ← Array.getElem?_toList]
  exact hu
theorem Bk.neT {w : World} {g q : Nat} {t u : TypeId} {cs ds : Array Value} (h : Bk w g t cs) (k : Bk w q u ds) (ht : t ≠ u) : g ≠ q := by
  rintro rfl
  unfold Bk at h k
  rw [h] at k
  simp only [Option.some.injEq, Obj.cells.injEq] at k
  exact ht k.2.1
/-- What heap.New hands back. -/
def NewQ (h : HI) (x : OJ) (l : List PI) (w : World) (e : Ending) (w' : World) : Prop := Below w.heap.size w w' ∧
  ((chkH h ≠ 0 ∧ e = .returned (.tuple #[.agg #[.slice none 0 0], .int .i64 0, .int .i64 (chkH h)])) ∨
   (chkH h = 0 ∧ h.length = 4096 ∧ e = .returned (.tuple #[.agg #[.slice none 0 0], .int .i64 0, .int .i64 4])) ∨
   (chkH h = 0 ∧ h.length ≠ 4096 ∧ chkH (h ++ [(x, l)]) ≠ 0 ∧ e = .returned (.tuple #[.agg #[.slice none 0 0], .int .i64 0, .int .i64 (chkH (h ++ [(x, l)]))])) ∨
   (chkH h = 0 ∧ h.length ≠ 4096 ∧ chkH (h ++ [(x, l)]) = 0 ∧ ∃ h2 v2, e = .returned (.tuple #[.agg #[v2], .int .i64 h.length, .int .i64 0]) ∧ bareH h2 = bareH (h ++ [(x, l)]) ∧ FreshH w.heap.size h2 v2 w'))
/-- The boxes of a call of New. -/
def NewB (w : World) (hv : Value) (x : OJ) (W : World) : Prop := Below w.heap.size w W ∧ Bk W w.heap.size 24 #[hv] ∧ Bk W (w.heap.size + 1) 46 x.cs ∧ Bk W (w.heap.size + 1 + 1) 24 #[.slice none 0 0]
theorem NewB.on {w : World} {hv : Value} {x : OJ} {W W1 : World} (h : NewB w hv x W) (hb : Below W.heap.size W W1) : NewB w hv x W1 := ⟨h.1.trans (hb.mono h.1.size), h.2.1.on hb, h.2.2.1.on hb, h.2.2.2.on hb⟩
theorem NewB.far {w : World} {hv : Value} {x : OJ} {W W1 : World} (h : NewB w hv x W) {q : Nat} (hq : w.heap.size + 1 + 1 < q) (ho : W1.os = W.os) (ht : W1.tape = W.tape) (hp : W1.output = W.output) (hs : W.heap.size ≤ W1.heap.size) (hx : ∀ b, b < W.heap.size → b ≠ q → W1.heap[b]? = W.heap[b]?) : NewB w hv x W1 :=
  have hl := h.2.2.2.lt
  ⟨⟨ho.trans h.1.os, ht.trans h.1.tape, hp.trans h.1.output, Nat.le_trans h.1.size hs, fun k hk => (hx k (by omega) (by omega)).trans (h.1.block k hk)⟩, (hx _ (by omega) (by omega)).trans h.2.1, (hx _ (by omega) (by omega)).trans h.2.2.1, (hx _ (by omega) (by omega)).trans h.2.2.2⟩
theorem RdY.grown {B : Nat} {l : List PI} {v : Value} {w w1 : World} (h : RdY B l v w) {g : Nat} {t : TypeId} {cs : Array Value} (hg : Bk w g t cs) (ht : t ≠ 70) (hB : B ≤ g) (hgr : w.grownBy w1 (some g)) : RdY B l v w1 := by
  obtain ⟨⟨pa, c, rfl, h1, h2, h3⟩, hne⟩ := h
  have key : ∀ b, 0 < l.length → (Value.slice pa l.length c).ownBlock = some b → b ≠ g := by
    rintro b h0 e rfl
    rcases hne h0 b e with hl | ⟨cur, hc⟩
    · omega
    · exact hc.neT hg (fun e => ht e.symm) rfl
  refine ⟨⟨pa, c, rfl, h1, h2, fun h0 => ?_⟩, fun h0 b e => (hne h0 b e).imp id (fun ⟨cur, hc⟩ => ⟨cur, (hgr.block b hc.lt (fun e2 => key b h0 e (by simpa using e2))).trans hc⟩)⟩
  obtain ⟨b, o, rfl, hb, hr⟩ := h3 h0
  have hbg := key b h0 rfl
  exact ⟨b, o, rfl, Nat.lt_of_lt_of_le hb hgr.size, fun i hi j u hu => (World.cell?_of_block (hgr.block b hb (fun e => hbg (by simpa using e)))).trans (hr i hi j u hu)⟩

set_option maxHeartbeats 8000000 in
set_option maxRecDepth 100000 in
theorem new_heap (h : HI) (hok : HOk h) (hk : HKeys h) (x : OJ) (l : List PI) (hx : x.ok) (hlo : ∀ q ∈ l, q.d.ok) (hlk : ∀ q ∈ l, q.k.s.size ≤ maxLen) (hll : l.length ≤ 4096) (hv : Value) (w : World) (hr : RdH h hv w) (hp : RdP l x.props w) : Calls Tryz.prog 24 #[.agg #[hv], x.a] w (NewQ h x l w) := by
  have CHK := hidB (fun W hr => chk_any h hok hk hv W hr)
  have HRD := hidB (fun W (hb : Below w.heap.size w W) => hr.on hb)
  have HPD := hidB (fun W (hb : Below w.heap.size w W) => hp.on hb)
  have HOK2 := hidB (hok.push hx hlo)
  have HK2 := hidB (hk.push (x := x) hlk)
  have HLL := hidB hll
  have HR0 := hidB hr
  have V1 := hidB hp.one
  obtain ⟨⟨pa, c, rfl, h1, h2, _⟩, _⟩ := hr
  unfold maxLen at h2
  have hlm : h.length ≤ 9223372036854775807 := by omega
  clear hok hk hx hlo hlk hll hp h1 h2
  have Y := hidB (show Bk (((w.alloc (.cells (#[(.slice pa h.length c)]) 24)).alloc (.cells (x.cs) 46)).alloc (.cells (#[.slice none 0 0]) 24)) (w.heap.size) 24 (#[(.slice pa h.length c)]) from ((Bk.new w _ _).alloc _).alloc _)
  have X := hidB (show Bk (((w.alloc (.cells (#[(.slice pa h.length c)]) 24)).alloc (.cells (x.cs) 46)).alloc (.cells (#[.slice none 0 0]) 24)) (w.heap.size + 1) 46 (x.cs) from (Bk.new2 w _ _ _).alloc _)
  have R := hidB (show Bk (((w.alloc (.cells (#[(.slice pa h.length c)]) 24)).alloc (.cells (x.cs) 46)).alloc (.cells (#[.slice none 0 0]) 24)) (w.heap.size + 1 + 1) 24 (#[.slice none 0 0]) from Bk.new3 w _ _ _ _)
  have B := hidB (show Below w.heap.size w (((w.alloc (.cells (#[(.slice pa h.length c)]) 24)).alloc (.cells (x.cs) 46)).alloc (.cells (#[.slice none 0 0]) 24)) from ((box_one w _).alloc (by simp) _).alloc (by simp <;> omega) _)
  go_enter Tryz.func24, Tryz.ntmps24
  go_upto_region 1 with fail
  have N := hidB (show NewB w (.slice pa h.length c) x (((w.alloc (.cells (#[(.slice pa h.length c)]) 24)).alloc (.cells (x.cs) 46)).alloc (.cells (#[.slice none 0 0]) 24)) from ⟨B.out, Y.out, X.out, R.out⟩)
  clear Y X R B
  generalize hW : (((w.alloc (.cells (#[(.slice pa h.length c)]) 24)).alloc (.cells (x.cs) 46)).alloc (.cells (#[.slice none 0 0]) 24)) = w1 at *
  clear hW
  go_wp2_with (first | ((with_reducible refine ldId 24 (.tmp 2) ?_); refine wpList_load_row (by rfl) 24 (.tmp 2) (by rfl) (w.heap.size) (by rfl) 24 (#[(.slice pa h.length c)]) (0, 0) _ (by exact N.out.2.1) Tryz.underlying24 (by rfl) (by kernel_rfl) ?_))
  refine (CHK.out _ (HRD.out _ N.out.1)).mono ?_; rintro e w2 ⟨rfl, hb⟩
  replace N := hidB (N.out.on hb)
  clear hb
  obtain ⟨ck, hck⟩ : ∃ ck, chkH h = ck := ⟨_, rfl⟩
  have HCK := hidB hck
  rw [hck]
  clear hck CHK
  by_cases h0 : ck = 0
  rotate_left
  · have h0b : (ck == 0) = false := by rw [beq_eq_false_iff_ne]; exact h0
    have h0n : (ck != 0) = true := by rw [bne, h0b]; rfl
    have HN := hidB h0
    clear h0
    have r0 : w2.cell? ⟨w.heap.size + 1 + 1, 0, none⟩ = some (.slice none 0 0) := N.out.2.2.2.cell 0
    have f0 : w2.frozen? ⟨w.heap.size + 1 + 1, 0, none⟩ = false := N.out.2.2.2.free 0
    go_wp2_with fail
    exact bodyPost_ret (v := .tuple #[.agg (#[.slice none 0 0]), .int .i64 0, .int .i64 ck]) (results_row3 Tryz.results24 _ _ (w.heap.size + 1 + 1) 24 (#[.slice none 0 0]) (0, 0) _ rfl (N.out.2.2.2.set 0 _) Tryz.underlying24 rfl (by kernel_rfl)) rfl (⟨N.out.1.setCell (by show w.heap.size ≤ w.heap.size + 1 + 1; omega) _, Or.inl ⟨by rw [HCK.out]; exact HN.out, by rw [HCK.out]⟩⟩)
  subst h0
  have HC := hidB (chkH_ok HCK.out)
  have y0 : w2.cell? ⟨w.heap.size, 0, none⟩ = some (.slice pa h.length c) := N.out.2.1.cell 0
  by_cases h4 : h.length = 4096
  · have h4i : ((h.length : Int) == 4096) = true := by rw [h4]; rfl
    have H4 := hidB h4
    clear h4
    have r0 : w2.cell? ⟨w.heap.size + 1 + 1, 0, none⟩ = some (.slice none 0 0) := N.out.2.2.2.cell 0
    have f0 : w2.frozen? ⟨w.heap.size + 1 + 1, 0, none⟩ = false := N.out.2.2.2.free 0
    go_wp2_with fail
    exact bodyPost_ret (v := .tuple #[.agg (#[.slice none 0 0]), .int .i64 0, .int .i64 4]) (results_row3 Tryz.results24 _ _ (w.heap.size + 1 + 1) 24 (#[.slice none 0 0]) (0, 0) _ rfl (N.out.2.2.2.set 0 _) Tryz.underlying24 rfl (by kernel_rfl)) rfl (⟨N.out.1.setCell (by show w.heap.size ≤ w.heap.size + 1 + 1; omega) _, Or.inr (Or.inl ⟨HCK.out, H4.out, rfl⟩)⟩)
  have h4i : ((h.length : Int) == 4096) = false := by rw [beq_eq_false_iff_ne]; omega
  have H4 := hidB h4
  clear h4
  have TWN := hidB (fun W hr => twinH_any h (.slice pa h.length c) W hr (fun e he => Nat.le_trans (allO_len HC.out.2.1 e he) (by decide)) (by have := HC.out.1; omega))
  go_upto_region 7 with fail
  clear y0 h4i
  go_wp2_with (first | ((with_reducible refine ldId 24 (.tmp 2) ?_); refine wpList_load_row (by rfl) 24 (.tmp 2) (by rfl) (w.heap.size) (by rfl) 24 (#[(.slice pa h.length c)]) (0, 0) _ (by exact N.out.2.1) Tryz.underlying24 (by rfl) (by kernel_rfl) ?_))
  refine (TWN.out _ (HRD.out _ N.out.1)).mono ?_; rintro e w3 ⟨h', g, rfl, htw, hb⟩
  have HN2 := hidB (show w.heap.size + 1 + 1 < w2.heap.size from N.out.2.2.2.lt)
  replace N := hidB (N.out.on hb)
  clear hb
  have TW := hidB htw
  clear htw TWN
  have GT := hidB (show Bk (w3.alloc (.cells #[(.slice (some ⟨g, 0, none⟩) h.length h.length)] 24)) w3.heap.size 24 #[(.slice (some ⟨g, 0, none⟩) h.length h.length)] from Bk.new w3 _ _)
  have N4 := hidB (show NewB w (.slice pa h.length c) x (w3.alloc (.cells #[(.slice (some ⟨g, 0, none⟩) h.length h.length)] 24)) from N.out.on (box_one w3 _))
  have TW4 := hidB (show TwinH w2.heap.size h.length h h' g (w3.alloc (.cells #[(.slice (some ⟨g, 0, none⟩) h.length h.length)] 24)) from TW.out.on (box_one w3 _))
  have HT4 := hidB (show w.heap.size + 1 + 1 < w3.heap.size from N.out.2.2.2.lt)
  clear N TW
  go_upto_region 8 with (first | ((with_reducible refine wpId ?_); refine wpList_store_new (by rfl) 24 (.tmp 9) (.tmp 24) (by rfl) #[(.slice (some ⟨g, 0, none⟩) h.length h.length)] 24 _ (by rfl) (by rfl) (by kernel_rfl) (by rfl) (by rfl) ?_))
  generalize (w3.alloc (.cells #[(.slice (some ⟨g, 0, none⟩) h.length h.length)] 24)) = w4 at *
  generalize w3.heap.size = gt at *
  obtain ⟨i0, hi, hz0, hz1, hz2⟩ := info_parts info_objH
  go_cut [] from 11 to 39 (fun wx => ∃ (pv tv : Value), NewB w (.slice pa h.length c) x wx ∧ Bk wx gt 24 #[tv] ∧ wx.ownsRow w.heap.size 46 18 tv (h.length + 1) (flatH (h' ++ [({ x with props := pv }, l)])) ∧ RdY 0 l pv wx ∧ ∀ e ∈ h', RdY 0 e.2 e.1.props wx)
  case first =>
    refine wp_region_noPanic ?_
    refine wp_region_held_drew (S := fun W => NewB w (.slice pa h.length c) x W ∧ ∃ u, Bk W gt 24 #[u]) (by kernel_rfl) ?_ (fun hHeld => ?_)
    · exact ⟨N4.out.on (Below.refl _ _).drew, _, GT.out.drew⟩
    have HN := hidB (show NewB w (.slice pa h.length c) x w4.drew from N4.out.on (Below.refl _ _).drew)
    have HG := hidB (show Bk w4.drew gt 24 #[(.slice (some ⟨g, 0, none⟩) h.length h.length)] from GT.out)
    have HTW := hidB (show TwinH w2.heap.size h.length h h' g w4.drew from TW4.out.on (Below.refl _ _).drew)
    clear N4 GT TW4
    generalize hWd : w4.drew = wd at *
    clear hWd
    first | (refine wpAnyH_take (i := 0) (v := undef) (by simp only [List.getElem?_toArray, List.getElem?_cons_zero]; exact rfl) (by kernel_rfl) (by kernel_rfl) (by kernel_rfl) (fun _ _ _ h => h) (Or.inr ⟨?_, rfl⟩) (by assumption) ?_; (rfl); try simp only [Act.put, List.setIfInBounds_toArray, List.set_cons_zero, List.set_cons_succ]) | (refine wpAnyH_take (i := 0) (v := ?_) (by simp only [List.getElem?_toArray, List.getElem?_cons_zero]; exact rfl) (by kernel_rfl) (by kernel_rfl) (by kernel_rfl) (fun _ _ _ h => h) (Or.inl ⟨?_, ?_⟩) (by assumption) ?_; rotate_left; (rfl); (focus (intro w hSw; (try dsimp only at hSw); go_simp; try with_reducible rfl)); try simp only [Act.put, List.setIfInBounds_toArray, List.set_cons_zero, List.set_cons_succ])
    (refine wpAnyH_take (i := 2) (v := x.a) (by simp only [List.getElem?_toArray, List.getElem?_cons_succ, List.getElem?_cons_zero]; exact rfl) (by kernel_rfl) (by kernel_rfl) (by kernel_rfl) (fun _ _ _ h => h) (yieldsIf_load_mid (by rfl) 46 (.tmp 3) (by rfl) (w.heap.size + 1) (0) (by rfl) (x.cs.toList) _ (fun W hS => (Bk.mid hS.1.2.2.1 0 _ rfl)) Tryz.underlying46 (by rfl) (by kernel_rfl)) (by assumption) ?_; try simp only [Act.put, List.setIfInBounds_toArray, List.set_cons_zero, List.set_cons_succ])
    refine wpAnyH_ready (rs := [1, 3]) (by kernel_rfl) (by simp) ?_
    refine AllReadyH.cons rfl (fun K hK => ?_) ?_
    · skip
      have y1 : wd.cell? ⟨gt, 0, none⟩ = some (.slice (some ⟨g, 0, none⟩) h.length h.length) := HG.out.cell 0
      go_simp
      clear y1
      refine hK.out _ _ ⟨HN.out, _, HG.out⟩ (fun _ => ?_)
      clear hK K
      try simp only [Act.put, List.setIfInBounds_toArray, List.set_cons_zero, List.set_cons_succ]
      refine wpAnyH_ready (rs := [3]) (by kernel_rfl) (by simp) ?_
      refine AllReadyH.cons rfl (fun K hK => ?_) AllReadyH.nil
      go_simp
      refine (one_any x l _ (HPD.out _ HN.out.1) HLL.out).mono ?_; rintro e w5 ⟨pv, rfl, hown, hb⟩
      have HO := hidB hown
      have V2 := hidB (own_oneH hown)
      replace HN := hidB (HN.out.on hb)
      replace HG := hidB (HG.out.on hb)
      replace HTW := hidB (HTW.out.on hb)
      clear hown hb
      refine hK.out _ _ ⟨HN.out, _, HG.out⟩ (fun _ => ?_)
      clear hK K
      try simp only [Act.put, List.setIfInBounds_toArray, List.set_cons_zero, List.set_cons_succ]
      refine wpAnyH_ready (rs := [4]) (by kernel_rfl) (by simp) ?_
      refine AllReadyH.cons rfl (fun K hK => ?_) AllReadyH.nil
      rw [if_pos (by kernel_rfl)]
      refine wp_buildSliceH 22 46 1 18 _ (by rfl) [(0, ({ x with props := pv } : OJ).a)] (by kernel_rfl) (.agg zeroObjH) ({ x with props := pv } : OJ).cs Tryz.underlying22 (by kernel_rfl) (by decide) (by decide) (by kernel_rfl) ?_
      have HNB := hidB (Bk.new w5 46 ({ x with props := pv } : OJ).cs)
      replace HO := hidB (own_onH HO.out (box_one w5 (.cells ({ x with props := pv } : OJ).cs 46)))
      replace HN := hidB (HN.out.on (box_one w5 (.cells ({ x with props := pv } : OJ).cs 46)))
      replace HG := hidB (HG.out.on (box_one w5 (.cells ({ x with props := pv } : OJ).cs 46)))
      replace HTW := hidB (HTW.out.on (box_one w5 (.cells ({ x with props := pv } : OJ).cs 46)))
      refine hK.out _ _ ⟨HN.out, _, HG.out⟩ (fun _ => ?_)
      clear hK K
      try simp only [Act.put, List.setIfInBounds_toArray, List.set_cons_zero, List.set_cons_succ]
      generalize hWn : (w5.alloc (.cells ({ x with props := pv } : OJ).cs 46)) = w6 at *
      clear hWn
      generalize hGn : w5.heap.size = gN at *
      clear hGn
      refine wpAnyH_ready (rs := [5]) (by kernel_rfl) (by simp) ?_
      refine AllReadyH.cons rfl (fun K hK => ?_) AllReadyH.nil
      rw [if_pos (by kernel_rfl)]
      refine wp_append_own (P := Tryz.prog) _ (.tmp 26) (.tmp 29) 22 (by rfl) w.heap.size 46 i0 (.agg zeroObjH) 18 184 Tryz.underlying22 hi hz0 hz1 hz2 (by rfl) (by decide) (.slice (some ⟨g, 0, none⟩) h.length h.length) h.length (flatH h') (by rfl) (own_baseH (HTW.out.own (by have := HC.out.1; omega)) (by have := HN2.out; omega)) ⟨gN, 0, none⟩ 1 1 ({ x with props := pv } : OJ).cs.toList (by rfl) (by rfl) (bk_cellsH HNB.out) (fun u hu => (Array.all_eq_true_iff_forall_mem.1 (OJ.one ({ x with props := pv } : OJ) V2.out)) u (Array.mem_toList_iff.1 hu)) (by unfold maxLen; have := HC.out.1; omega) (by have := HC.out.1; omega) (HN.out.1.size) ?_
      intro v' w7 hown' hgrow _
      have hgt : gt ≠ g := HG.out.neT HTW.out.blk (by decide)
      replace HN := hidB (HN.out.far (q := g) (by have h1 := HTW.out.low; have h2 := HN2.out; omega) hgrow.os hgrow.tape hgrow.output hgrow.size (fun b hb hbg => hgrow.block b hb (fun e => hbg (by simpa [Value.ownBlock] using e))))
      have HPS := hidB (fun e (he : e ∈ h') => ((HTW.out.all e he).grown HTW.out.blk (by decide) (Nat.zero_le _) hgrow))
      have HPV := hidB ((RdY.own HO.out : RdY 0 l pv w6).grown HTW.out.blk (by decide) (Nat.zero_le _) hgrow)
      replace HG := hidB (show Bk w7 gt 24 #[(.slice (some ⟨g, 0, none⟩) h.length h.length)] from (hgrow.block gt HG.out.lt (fun e => hgt (by simpa [Value.ownBlock] using e))).trans HG.out)
      have HO7 := hidB hown'
      have V3 := hidB (own_oneH hown')
      obtain ⟨q3, c3, hv3⟩ := own_sliceH hown'
      subst hv3
      clear hown' hgrow hgt HO HTW HNB V2
      refine hK.out _ _ ⟨HN.out, _, HG.out⟩ (fun _ => ?_)
      clear hK K
      try simp only [Act.put, List.setIfInBounds_toArray, List.set_cons_zero, List.set_cons_succ]
      first | (refine wpAnyH_take (i := 6) (v := undef) (by simp only [List.getElem?_toArray, List.getElem?_cons_succ, List.getElem?_cons_zero]; exact rfl) (by kernel_rfl) (by kernel_rfl) (by kernel_rfl) (fun _ _ _ h => h) (Or.inr ⟨?_, rfl⟩) (by assumption) ?_; (rfl); try simp only [Act.put, List.setIfInBounds_toArray, List.set_cons_zero, List.set_cons_succ]) | (refine wpAnyH_take (i := 6) (v := ?_) (by simp only [List.getElem?_toArray, List.getElem?_cons_succ, List.getElem?_cons_zero]; exact rfl) (by kernel_rfl) (by kernel_rfl) (by kernel_rfl) (fun _ _ _ h => h) (Or.inl ⟨?_, ?_⟩) (by assumption) ?_; rotate_left; (rfl); (focus (intro w hSw; (try dsimp only at hSw); go_simp; try with_reducible rfl)); try simp only [Act.put, List.setIfInBounds_toArray, List.set_cons_zero, List.set_cons_succ])
      refine wpAnyH_ready (rs := [7]) (by kernel_rfl) (by simp) ?_
      refine AllReadyH.cons rfl (fun K hK => ?_) AllReadyH.nil
      have y1 : w7.cell? ⟨gt, 0, none⟩ = some (.slice (some ⟨g, 0, none⟩) h.length h.length) := HG.out.cell 0
      have f1 : w7.frozen? ⟨gt, 0, none⟩ = false := HG.out.free 0
      go_simp
      have far7 : ∀ b, b ≠ gt → (w7.setCell ⟨gt, 0, none⟩ (.slice q3 (h.length + 1) c3)).heap[b]? = w7.heap[b]? := fun b hb => Below.heap_setCell w7 _ _ b hb
      replace HN := hidB (HN.out.far (W1 := w7.setCell ⟨gt, 0, none⟩ (.slice q3 (h.length + 1) c3)) (q := gt) HT4.out rfl rfl rfl (by simp [World.setCell]) (fun b _ hb => far7 b hb))
      replace HO7 := hidB (HO7.out.kept (set_grownH w7 ⟨gt, 0, none⟩ (.slice q3 (h.length + 1) c3)) (Or.inr (own_ne_typeH HO7.out (by decide) HG.out)))
      replace HPS := hidB (fun e he => (HPS.out e he).far HG.out (by decide) (Nat.zero_le _) (Nat.le_of_eq (by simp [World.setCell])) far7)
      replace HPV := hidB (HPV.out.far HG.out (by decide) (Nat.zero_le _) (Nat.le_of_eq (by simp [World.setCell])) far7)
      replace HG := hidB (show Bk (w7.setCell ⟨gt, 0, none⟩ (.slice q3 (h.length + 1) c3)) gt 24 #[(.slice q3 (h.length + 1) c3)] from HG.out.set 0 _)
      clear y1 f1 far7
      refine hK.out _ _ ⟨HN.out, _, HG.out⟩ (fun _ => ?_)
      clear hK K
      try simp only [Act.put, List.setIfInBounds_toArray, List.set_cons_zero, List.set_cons_succ]
      refine wpAnyH_done (by kernel_rfl) ?_ _
      refine NoPanic.normal ?_
      go_wp2_with fail
      go_meet
      case rel => exact ⟨pv, (.slice q3 (h.length + 1) c3), HN.out, HG.out, by rw [flatH, List.flatMap_append, List.flatMap_cons, List.flatMap_nil, List.append_nil]; exact HO7.out, HPV.out, HPS.out⟩
    refine AllReadyH.cons rfl (fun K hK => ?_) AllReadyH.nil
    go_simp
    refine (one_any x l _ (HPD.out _ HN.out.1) HLL.out).mono ?_; rintro e w5 ⟨pv, rfl, hown, hb⟩
    have HO := hidB hown
    have V2 := hidB (own_oneH hown)
    replace HN := hidB (HN.out.on hb)
    replace HG := hidB (HG.out.on hb)
    replace HTW := hidB (HTW.out.on hb)
    clear hown hb
    refine hK.out _ _ ⟨HN.out, _, HG.out⟩ (fun _ => ?_)
    clear hK K
    try simp only [Act.put, List.setIfInBounds_toArray, List.set_cons_zero, List.set_cons_succ]
    refine wpAnyH_ready (rs := [1, 4]) (by kernel_rfl) (by simp) ?_
    refine AllReadyH.cons rfl (fun K hK => ?_) ?_
    · skip
      have y1 : w5.cell? ⟨gt, 0, none⟩ = some (.slice (some ⟨g, 0, none⟩) h.length h.length) := HG.out.cell 0
      go_simp
      clear y1
      refine hK.out _ _ ⟨HN.out, _, HG.out⟩ (fun _ => ?_)
      clear hK K
      try simp only [Act.put, List.setIfInBounds_toArray, List.set_cons_zero, List.set_cons_succ]
      refine wpAnyH_ready (rs := [4]) (by kernel_rfl) (by simp) ?_
      refine AllReadyH.cons rfl (fun K hK => ?_) AllReadyH.nil
      rw [if_pos (by kernel_rfl)]
      refine wp_buildSliceH 22 46 1 18 _ (by rfl) [(0, ({ x with props := pv } : OJ).a)] (by kernel_rfl) (.agg zeroObjH) ({ x with props := pv } : OJ).cs Tryz.underlying22 (by kernel_rfl) (by decide) (by decide) (by kernel_rfl) ?_
      have HNB := hidB (Bk.new w5 46 ({ x with props := pv } : OJ).cs)
      replace HO := hidB (own_onH HO.out (box_one w5 (.cells ({ x with props := pv } : OJ).cs 46)))
      replace HN := hidB (HN.out.on (box_one w5 (.cells ({ x with props := pv } : OJ).cs 46)))
      replace HG := hidB (HG.out.on (box_one w5 (.cells ({ x with props := pv } : OJ).cs 46)))
      replace HTW := hidB (HTW.out.on (box_one w5 (.cells ({ x with props := pv } : OJ).cs 46)))
      refine hK.out _ _ ⟨HN.out, _, HG.out⟩ (fun _ => ?_)
      clear hK K
      try simp only [Act.put, List.setIfInBounds_toArray, List.set_cons_zero, List.set_cons_succ]
      generalize hWn : (w5.alloc (.cells ({ x with props := pv } : OJ).cs 46)) = w6 at *
      clear hWn
      generalize hGn : w5.heap.size = gN at *
      clear hGn
      refine wpAnyH_ready (rs := [5]) (by kernel_rfl) (by simp) ?_
      refine AllReadyH.cons rfl (fun K hK => ?_) AllReadyH.nil
      rw [if_pos (by kernel_rfl)]
      refine wp_append_own (P := Tryz.prog) _ (.tmp 26) (.tmp 29) 22 (by rfl) w.heap.size 46 i0 (.agg zeroObjH) 18 184 Tryz.underlying22 hi hz0 hz1 hz2 (by rfl) (by decide) (.slice (some ⟨g, 0, none⟩) h.length h.length) h.length (flatH h') (by rfl) (own_baseH (HTW.out.own (by have := HC.out.1; omega)) (by have := HN2.out; omega)) ⟨gN, 0, none⟩ 1 1 ({ x with props := pv } : OJ).cs.toList (by rfl) (by rfl) (bk_cellsH HNB.out) (fun u hu => (Array.all_eq_true_iff_forall_mem.1 (OJ.one ({ x with props := pv } : OJ) V2.out)) u (Array.mem_toList_iff.1 hu)) (by unfold maxLen; have := HC.out.1; omega) (by have := HC.out.1; omega) (HN.out.1.size) ?_
      intro v' w7 hown' hgrow _
      have hgt : gt ≠ g := HG.out.neT HTW.out.blk (by decide)
      replace HN := hidB (HN.out.far (q := g) (by have h1 := HTW.out.low; have h2 := HN2.out; omega) hgrow.os hgrow.tape hgrow.output hgrow.size (fun b hb hbg => hgrow.block b hb (fun e => hbg (by simpa [Value.ownBlock] using e))))
      have HPS := hidB (fun e (he : e ∈ h') => ((HTW.out.all e he).grown HTW.out.blk (by decide) (Nat.zero_le _) hgrow))
      have HPV := hidB ((RdY.own HO.out : RdY 0 l pv w6).grown HTW.out.blk (by decide) (Nat.zero_le _) hgrow)
      replace HG := hidB (show Bk w7 gt 24 #[(.slice (some ⟨g, 0, none⟩) h.length h.length)] from (hgrow.block gt HG.out.lt (fun e => hgt (by simpa [Value.ownBlock] using e))).trans HG.out)
      have HO7 := hidB hown'
      have V3 := hidB (own_oneH hown')
      obtain ⟨q3, c3, hv3⟩ := own_sliceH hown'
      subst hv3
      clear hown' hgrow hgt HO HTW HNB V2
      refine hK.out _ _ ⟨HN.out, _, HG.out⟩ (fun _ => ?_)
      clear hK K
      try simp only [Act.put, List.setIfInBounds_toArray, List.set_cons_zero, List.set_cons_succ]
      first | (refine wpAnyH_take (i := 6) (v := undef) (by simp only [List.getElem?_toArray, List.getElem?_cons_succ, List.getElem?_cons_zero]; exact rfl) (by kernel_rfl) (by kernel_rfl) (by kernel_rfl) (fun _ _ _ h => h) (Or.inr ⟨?_, rfl⟩) (by assumption) ?_; (rfl); try simp only [Act.put, List.setIfInBounds_toArray, List.set_cons_zero, List.set_cons_succ]) | (refine wpAnyH_take (i := 6) (v := ?_) (by simp only [List.getElem?_toArray, List.getElem?_cons_succ, List.getElem?_cons_zero]; exact rfl) (by kernel_rfl) (by kernel_rfl) (by kernel_rfl) (fun _ _ _ h => h) (Or.inl ⟨?_, ?_⟩) (by assumption) ?_; rotate_left; (rfl); (focus (intro w hSw; (try dsimp only at hSw); go_simp; try with_reducible rfl)); try simp only [Act.put, List.setIfInBounds_toArray, List.set_cons_zero, List.set_cons_succ])
      refine wpAnyH_ready (rs := [7]) (by kernel_rfl) (by simp) ?_
      refine AllReadyH.cons rfl (fun K hK => ?_) AllReadyH.nil
      have y1 : w7.cell? ⟨gt, 0, none⟩ = some (.slice (some ⟨g, 0, none⟩) h.length h.length) := HG.out.cell 0
      have f1 : w7.frozen? ⟨gt, 0, none⟩ = false := HG.out.free 0
      go_simp
      have far7 : ∀ b, b ≠ gt → (w7.setCell ⟨gt, 0, none⟩ (.slice q3 (h.length + 1) c3)).heap[b]? = w7.heap[b]? := fun b hb => Below.heap_setCell w7 _ _ b hb
      replace HN := hidB (HN.out.far (W1 := w7.setCell ⟨gt, 0, none⟩ (.slice q3 (h.length + 1) c3)) (q := gt) HT4.out rfl rfl rfl (by simp [World.setCell]) (fun b _ hb => far7 b hb))
      replace HO7 := hidB (HO7.out.kept (set_grownH w7 ⟨gt, 0, none⟩ (.slice q3 (h.length + 1) c3)) (Or.inr (own_ne_typeH HO7.out (by decide) HG.out)))
      replace HPS := hidB (fun e he => (HPS.out e he).far HG.out (by decide) (Nat.zero_le _) (Nat.le_of_eq (by simp [World.setCell])) far7)
      replace HPV := hidB (HPV.out.far HG.out (by decide) (Nat.zero_le _) (Nat.le_of_eq (by simp [World.setCell])) far7)
      replace HG := hidB (show Bk (w7.setCell ⟨gt, 0, none⟩ (.slice q3 (h.length + 1) c3)) gt 24 #[(.slice q3 (h.length + 1) c3)] from HG.out.set 0 _)
      clear y1 f1 far7
      refine hK.out _ _ ⟨HN.out, _, HG.out⟩ (fun _ => ?_)
      clear hK K
      try simp only [Act.put, List.setIfInBounds_toArray, List.set_cons_zero, List.set_cons_succ]
      refine wpAnyH_done (by kernel_rfl) ?_ _
      refine NoPanic.normal ?_
      go_wp2_with fail
      go_meet
      case rel => exact ⟨pv, (.slice q3 (h.length + 1) c3), HN.out, HG.out, by rw [flatH, List.flatMap_append, List.flatMap_cons, List.flatMap_nil, List.append_nil]; exact HO7.out, HPV.out, HPS.out⟩
    refine AllReadyH.cons rfl (fun K hK => ?_) AllReadyH.nil
    rw [if_pos (by kernel_rfl)]
    refine wp_buildSliceH 22 46 1 18 _ (by rfl) [(0, ({ x with props := pv } : OJ).a)] (by kernel_rfl) (.agg zeroObjH) ({ x with props := pv } : OJ).cs Tryz.underlying22 (by kernel_rfl) (by decide) (by decide) (by kernel_rfl) ?_
    have HNB := hidB (Bk.new w5 46 ({ x with props := pv } : OJ).cs)
    replace HO := hidB (own_onH HO.out (box_one w5 (.cells ({ x with props := pv } : OJ).cs 46)))
    replace HN := hidB (HN.out.on (box_one w5 (.cells ({ x with props := pv } : OJ).cs 46)))
    replace HG := hidB (HG.out.on (box_one w5 (.cells ({ x with props := pv } : OJ).cs 46)))
    replace HTW := hidB (HTW.out.on (box_one w5 (.cells ({ x with props := pv } : OJ).cs 46)))
    refine hK.out _ _ ⟨HN.out, _, HG.out⟩ (fun _ => ?_)
    clear hK K
    try simp only [Act.put, List.setIfInBounds_toArray, List.set_cons_zero, List.set_cons_succ]
    generalize hWn : (w5.alloc (.cells ({ x with props := pv } : OJ).cs 46)) = w6 at *
    clear hWn
    generalize hGn : w5.heap.size = gN at *
    clear hGn
    refine wpAnyH_ready (rs := [1]) (by kernel_rfl) (by simp) ?_
    refine AllReadyH.cons rfl (fun K hK => ?_) AllReadyH.nil
    have y1 : w6.cell? ⟨gt, 0, none⟩ = some (.slice (some ⟨g, 0, none⟩) h.length h.length) := HG.out.cell 0
    go_simp
    clear y1
    refine hK.out _ _ ⟨HN.out, _, HG.out⟩ (fun _ => ?_)
    clear hK K
    try simp only [Act.put, List.setIfInBounds_toArray, List.set_cons_zero, List.set_cons_succ]
    refine wpAnyH_ready (rs := [5]) (by kernel_rfl) (by simp) ?_
    refine AllReadyH.cons rfl (fun K hK => ?_) AllReadyH.nil
    rw [if_pos (by kernel_rfl)]
    refine wp_append_own (P := Tryz.prog) _ (.tmp 26) (.tmp 29) 22 (by rfl) w.heap.size 46 i0 (.agg zeroObjH) 18 184 Tryz.underlying22 hi hz0 hz1 hz2 (by rfl) (by decide) (.slice (some ⟨g, 0, none⟩) h.length h.length) h.length (flatH h') (by rfl) (own_baseH (HTW.out.own (by have := HC.out.1; omega)) (by have := HN2.out; omega)) ⟨gN, 0, none⟩ 1 1 ({ x with props := pv } : OJ).cs.toList (by rfl) (by rfl) (bk_cellsH HNB.out) (fun u hu => (Array.all_eq_true_iff_forall_mem.1 (OJ.one ({ x with props := pv } : OJ) V2.out)) u (Array.mem_toList_iff.1 hu)) (by unfold maxLen; have := HC.out.1; omega) (by have := HC.out.1; omega) (HN.out.1.size) ?_
    intro v' w7 hown' hgrow _
    have hgt : gt ≠ g := HG.out.neT HTW.out.blk (by decide)
    replace HN := hidB (HN.out.far (q := g) (by have h1 := HTW.out.low; have h2 := HN2.out; omega) hgrow.os hgrow.tape hgrow.output hgrow.size (fun b hb hbg => hgrow.block b hb (fun e => hbg (by simpa [Value.ownBlock] using e))))
    have HPS := hidB (fun e (he : e ∈ h') => ((HTW.out.all e he).grown HTW.out.blk (by decide) (Nat.zero_le _) hgrow))
    have HPV := hidB ((RdY.own HO.out : RdY 0 l pv w6).grown HTW.out.blk (by decide) (Nat.zero_le _) hgrow)
    replace HG := hidB (show Bk w7 gt 24 #[(.slice (some ⟨g, 0, none⟩) h.length h.length)] from (hgrow.block gt HG.out.lt (fun e => hgt (by simpa [Value.ownBlock] using e))).trans HG.out)
    have HO7 := hidB hown'
    have V3 := hidB (own_oneH hown')
    obtain ⟨q3, c3, hv3⟩ := own_sliceH hown'
    subst hv3
    clear hown' hgrow hgt HO HTW HNB V2
    refine hK.out _ _ ⟨HN.out, _, HG.out⟩ (fun _ => ?_)
    clear hK K
    try simp only [Act.put, List.setIfInBounds_toArray, List.set_cons_zero, List.set_cons_succ]
    first | (refine wpAnyH_take (i := 6) (v := undef) (by simp only [List.getElem?_toArray, List.getElem?_cons_succ, List.getElem?_cons_zero]; exact rfl) (by kernel_rfl) (by kernel_rfl) (by kernel_rfl) (fun _ _ _ h => h) (Or.inr ⟨?_, rfl⟩) (by assumption) ?_; (rfl); try simp only [Act.put, List.setIfInBounds_toArray, List.set_cons_zero, List.set_cons_succ]) | (refine wpAnyH_take (i := 6) (v := ?_) (by simp only [List.getElem?_toArray, List.getElem?_cons_succ, List.getElem?_cons_zero]; exact rfl) (by kernel_rfl) (by kernel_rfl) (by kernel_rfl) (fun _ _ _ h => h) (Or.inl ⟨?_, ?_⟩) (by assumption) ?_; rotate_left; (rfl); (focus (intro w hSw; (try dsimp only at hSw); go_simp; try with_reducible rfl)); try simp only [Act.put, List.setIfInBounds_toArray, List.set_cons_zero, List.set_cons_succ])
    refine wpAnyH_ready (rs := [7]) (by kernel_rfl) (by simp) ?_
    refine AllReadyH.cons rfl (fun K hK => ?_) AllReadyH.nil
    have y1 : w7.cell? ⟨gt, 0, none⟩ = some (.slice (some ⟨g, 0, none⟩) h.length h.length) := HG.out.cell 0
    have f1 : w7.frozen? ⟨gt, 0, none⟩ = false := HG.out.free 0
    go_simp
    have far7 : ∀ b, b ≠ gt → (w7.setCell ⟨gt, 0, none⟩ (.slice q3 (h.length + 1) c3)).heap[b]? = w7.heap[b]? := fun b hb => Below.heap_setCell w7 _ _ b hb
    replace HN := hidB (HN.out.far (W1 := w7.setCell ⟨gt, 0, none⟩ (.slice q3 (h.length + 1) c3)) (q := gt) HT4.out rfl rfl rfl (by simp [World.setCell]) (fun b _ hb => far7 b hb))
    replace HO7 := hidB (HO7.out.kept (set_grownH w7 ⟨gt, 0, none⟩ (.slice q3 (h.length + 1) c3)) (Or.inr (own_ne_typeH HO7.out (by decide) HG.out)))
    replace HPS := hidB (fun e he => (HPS.out e he).far HG.out (by decide) (Nat.zero_le _) (Nat.le_of_eq (by simp [World.setCell])) far7)
    replace HPV := hidB (HPV.out.far HG.out (by decide) (Nat.zero_le _) (Nat.le_of_eq (by simp [World.setCell])) far7)
    replace HG := hidB (show Bk (w7.setCell ⟨gt, 0, none⟩ (.slice q3 (h.length + 1) c3)) gt 24 #[(.slice q3 (h.length + 1) c3)] from HG.out.set 0 _)
    clear y1 f1 far7
    refine hK.out _ _ ⟨HN.out, _, HG.out⟩ (fun _ => ?_)
    clear hK K
    try simp only [Act.put, List.setIfInBounds_toArray, List.set_cons_zero, List.set_cons_succ]
    refine wpAnyH_done (by kernel_rfl) ?_ _
    refine NoPanic.normal ?_
    go_wp2_with fail
    go_meet
    case rel => exact ⟨pv, (.slice q3 (h.length + 1) c3), HN.out, HG.out, by rw [flatH, List.flatMap_append, List.flatMap_cons, List.flatMap_nil, List.append_nil]; exact HO7.out, HPV.out, HPS.out⟩
  case rest =>
  obtain ⟨pv, tv, hN, hG, hO, hpv, hps⟩ := hcut
  obtain ⟨q3, c3, rfl⟩ := own_sliceH hO
  have N := hidB hN
  have G := hidB hG
  have HB2 := hidB (show bareH (h' ++ [(({ x with props := pv } : OJ), l)]) = bareH (h ++ [(x, l)]) by rw [bareH_append, bareH_append, TW4.out.bare]; rfl)
  have FR := hidB (show FreshH w.heap.size (h' ++ [(({ x with props := pv } : OJ), l)]) (.slice q3 (h.length + 1) c3) wc from ⟨by rw [List.length_append, bareH_length TW4.out.bare]; exact hO, fun e he => (List.mem_append.1 he).elim (fun h1 => hps e h1) (fun h1 => (List.mem_singleton.1 h1) ▸ hpv)⟩)
  clear hN hG hO hpv hps N4 GT TW4 HPD V1 HRD
  generalize (h' ++ [(({ x with props := pv } : OJ), l)]) = h2 at *
  have CH2 := hidB (chk_any h2 (HOK2.out.same HB2.out) (HK2.out.same HB2.out) (.slice q3 (h.length + 1) c3) wc FR.out.rd)
  rw [chkH_same HB2.out] at CH2
  obtain ⟨ck, hck⟩ : ∃ ck, chkH (h ++ [(x, l)]) = ck := ⟨_, rfl⟩
  have HC2 := hidB hck
  rw [hck] at CH2
  clear hck HOK2 HK2
  go_wp2_with (first | ((with_reducible refine ldId 24 (.tmp 9) ?_); refine wpList_load_row (by rfl) 24 (.tmp 9) (by rfl) (gt) (by rfl) 24 (#[(.slice q3 (h.length + 1) c3)]) (0, 0) _ (by exact G.out) Tryz.underlying24 (by rfl) (by kernel_rfl) ?_))
  refine CH2.out.mono ?_; rintro e w8 ⟨rfl, hb⟩
  replace G := hidB (G.out.on hb)
  replace FR := hidB (FR.out.on hb)
  replace N := hidB (N.out.on hb)
  clear hb
  clear CH2
  by_cases h0 : ck = 0
  rotate_left
  · have h0b : (ck == 0) = false := by rw [beq_eq_false_iff_ne]; exact h0
    have h0n : (ck != 0) = true := by rw [bne, h0b]; rfl
    have HN := hidB h0
    clear h0
    have r0 : w8.cell? ⟨w.heap.size + 1 + 1, 0, none⟩ = some (.slice none 0 0) := N.out.2.2.2.cell 0
    have f0 : w8.frozen? ⟨w.heap.size + 1 + 1, 0, none⟩ = false := N.out.2.2.2.free 0
    go_wp2_with fail
    exact bodyPost_ret (v := .tuple #[.agg (#[.slice none 0 0]), .int .i64 0, .int .i64 ck]) (results_row3 Tryz.results24 _ _ (w.heap.size + 1 + 1) 24 (#[.slice none 0 0]) (0, 0) _ rfl (N.out.2.2.2.set 0 _) Tryz.underlying24 rfl (by kernel_rfl)) rfl (⟨N.out.1.setCell (by show w.heap.size ≤ w.heap.size + 1 + 1; omega) _, Or.inr (Or.inr (Or.inl ⟨HCK.out, H4.out, by rw [HC2.out]; exact HN.out, by rw [HC2.out]⟩))⟩)
  subst h0
  have r0 : w8.cell? ⟨w.heap.size + 1 + 1, 0, none⟩ = some (.slice none 0 0) := N.out.2.2.2.cell 0
  have f0 : w8.frozen? ⟨w.heap.size + 1 + 1, 0, none⟩ = false := N.out.2.2.2.free 0
  go_wp2_with (first | ((with_reducible refine ldId 24 (.tmp 9) ?_); refine wpList_load_row (by rfl) 24 (.tmp 9) (by rfl) (gt) (by rfl) 24 (#[(.slice q3 (h.length + 1) c3)]) (0, 0) _ (by exact G.out) Tryz.underlying24 (by rfl) (by kernel_rfl) ?_))
  have FR9 := hidB (show FreshH w.heap.size h2 (.slice q3 (h.length + 1) c3) (w8.setCell ⟨w.heap.size + 1 + 1, 0, none⟩ (.slice q3 (h.length + 1) c3)) from ⟨FR.out.own.kept (set_grownH w8 _ _) (Or.inr (own_ne_typeH FR.out.own (by decide) N.out.2.2.2)), fun e he => (FR.out.props e he).far N.out.2.2.2 (by decide) (Nat.zero_le _) (Nat.le_of_eq (by simp [World.setCell])) (fun b hb => Below.heap_setCell w8 _ _ b hb)⟩)
  exact bodyPost_ret (v := .tuple #[.agg (#[(.slice q3 (h.length + 1) c3)]), .int .i64 h.length, .int .i64 0]) (results_row3 Tryz.results24 _ _ (w.heap.size + 1 + 1) 24 (#[(.slice q3 (h.length + 1) c3)]) (0, 0) _ rfl (N.out.2.2.2.set 0 _) Tryz.underlying24 rfl (by kernel_rfl)) rfl (⟨N.out.1.setCell (by show w.heap.size ≤ w.heap.size + 1 + 1; omega) _, Or.inr (Or.inr (Or.inr ⟨HCK.out, H4.out, HC2.out, h2, _, rfl, HB2.out, FR9.out⟩))⟩)

end Go.Proofs.YtnidamkgfgddfaaGreat
