/-
  A machine goes on: the walk of inner.Machine.Next.
-/
import Derived.Test.YtbmaodlghglopaaGreatDoorMxA
import Derived.Test.YtbmaodlghglopaaGreatDoorMxX
namespace Go.Proofs.YtbmaodlghglopaaGreatDoor
open Go.RowKit

theorem info_outB : (Tryz.prog.info? 49).map (fun i => (i.zero, i.size, i.bytes)) = some (some (.agg OI.zero.cs), 26, 240) := by kernel_rfl
/-- The blocks while a machine goes on: what was given, what is wanted, the machine. -/
structure NX (Cap : World → Prop) (E A U : Nat → Prop) (x : OI) (B g : Nat) (mc : Array Value) (w wx : World) : Prop where
  X : Bk wx B 49 x.cs
  R : Bk wx (B + 1) 51 WI.zero.cs
  G : Bk wx g 172 mc
  C : Cap wx
  K : Kept U w wx
  hB : B = w.heap.size
  gA : A g
  eA : ∀ k, E k → A k
  lt : ∀ k, A k → k < B
section
variable {S : List (OI × List KI) → Res} {fn : Nat} {caps : Array Value} {E : Nat → Prop} {Cap : World → Prop} {A U : Nat → Prop} {x : OI} {B g : Nat} {mc : Array Value} {w wx wy : World}
theorem NX.on (h : NX Cap E A U x B g mc w wx) (hF : RunF S fn caps E Cap) (hb : Below wx.heap.size wx wy) : NX Cap E A U x B g mc w wy :=
  ⟨h.X.on hb, h.R.on hb, h.G.on hb, hF.keep _ _ h.C hb.size fun k hk => hb.block k (Nat.lt_trans (h.lt k (h.eA k hk)) h.X.lt), h.K.trans (Kept.below hb), h.hB, h.gA, h.eA, h.lt⟩
theorem NX.drew (h : NX Cap E A U x B g mc w wx) (hF : RunF S fn caps E Cap) : NX Cap E A U x B g mc w wx.drew :=
  ⟨h.X, h.R, h.G, hF.keep _ _ h.C (Nat.le_refl _) fun _ _ => rfl, h.K.drew, h.hB, h.gA, h.eA, h.lt⟩
theorem NX.setG (h : NX Cap E A U x B g mc w wx) (hF : RunF S fn caps E Cap) (hU : U g) (i : Nat) (v : Value) : NX Cap E A U x B g (mc.setIfInBounds i v) w (wx.setCell ⟨g, i, none⟩ v) := by
  have hg := h.lt g h.gA
  have he := cap_neG hF h.C h.G (.inl rfl)
  refine ⟨h.X.far (Nat.ne_of_gt hg) v, h.R.far (Nat.ne_of_gt (Nat.lt_succ_of_lt hg)) v, h.G.set i v, hF.keep _ _ h.C (by simp [World.setCell]) fun k hk => Below.heap_setCell wx _ v k (by rintro rfl; exact he hk), h.K.setCell (.inl hU) v, h.hB, h.gA, h.eA, h.lt⟩
theorem NX.grown (h : NX Cap E A U x B g mc w wx) (hF : RunF S fn caps E Cap) {row : Option Nat} (hg : wx.grownBy wy row) (hr : ∀ k, row = some k → k ≠ B ∧ k ≠ B + 1 ∧ k ≠ g ∧ ¬ E k ∧ (U k ∨ B ≤ k)) : NX Cap E A U x B g mc w wy :=
  ⟨h.X.grown hg (fun e => (hr _ e).1 rfl), h.R.grown hg (fun e => (hr _ e).2.1 rfl), h.G.grown hg (fun e => (hr _ e).2.2.1 rfl), hF.keep _ _ h.C hg.size fun k hk => hg.block k (Nat.lt_trans (h.lt k (h.eA k hk)) h.X.lt) (fun e => (hr k e.symm).2.2.2.1 hk), h.K.grown hg (fun k hk => h.hB ▸ (hr k hk).2.2.2.2), h.hB, h.gA, h.eA, h.lt⟩
theorem NX.wider {U' : Nat → Prop} (h : NX Cap E A U x B g mc w wx) (hu : ∀ k, U k → U' k) : NX Cap E A U' x B g mc w wx :=
  ⟨h.X, h.R, h.G, h.C, h.K.wider fun k _ hk => hu k hk, h.hB, h.gA, h.eA, h.lt⟩
/-- A row of the walk's own is set, past the three. -/
theorem NX.setRow (h : NX Cap E A U x B g mc w wx) (hF : RunF S fn caps E Cap) {g2 : Nat} (h2 : B + 1 < g2) (ds : Array Value) : NX Cap E A U x B g mc w (wx.setRow g2 ds) :=
  ⟨h.X.setRow_far (by omega) ds, h.R.setRow_far (by omega) ds, h.G.setRow_far (by have := h.lt g h.gA; omega) ds, hF.keep _ _ h.C (by simp [World.setRow]) fun k hk => heap_setRow wx (by have := h.lt k (h.eA k hk); omega) ds, h.K.setRow (.inr (by have := h.hB; omega)) ds, h.hB, h.gA, h.eA, h.lt⟩
theorem NX.kept {p : Nat} (h : NX Cap E A U x B g mc w wx) (hF : RunF S fn caps E Cap) (hp : B + 1 < p) (hk : Kept (fun q => q = p) wx wy) : NX Cap E A U x B g mc w wy :=
  ⟨h.X.kept hk (by omega), h.R.kept hk (by omega), h.G.kept hk (by have := h.lt g h.gA; omega), hF.keep _ _ h.C hk.size fun k he => hk.block k (by have := h.lt k (h.eA k he); have := h.X.lt; omega) (by have := h.lt k (h.eA k he); omega), ⟨hk.os.trans h.K.os, hk.tape.trans h.K.tape, hk.output.trans h.K.output, Nat.le_trans h.K.size hk.size, fun k hlt hn => (hk.block k (Nat.lt_of_lt_of_le hlt h.K.size) (by have := h.hB; omega)).trans (h.K.block k hlt hn)⟩, h.hB, h.gA, h.eA, h.lt⟩
/-- What is handed back is laid down. -/
theorem NX.fin (h : NX Cap E A A x B g mc w wx) (hF : RunF S fn caps E Cap) (ds : Array Value) : Bk (wx.setRow (B + 1) ds) g 172 mc ∧ Cap (wx.setRow (B + 1) ds) ∧ Kept A w (wx.setRow (B + 1) ds) :=
  ⟨h.G.setRow_far (by have := h.lt g h.gA; omega) ds, hF.keep _ _ h.C (by simp [World.setRow]) fun k hk => heap_setRow wx (by have := h.lt k (h.eA k hk); omega) ds, h.K.setRow (.inr (by have := h.hB; omega)) ds⟩
end
theorem AnsM.setG {L : List (OI × List KI)} {ans : Value} {A : Nat → Prop} {w : World} {g : Nat} {cs : Array Value} (h : AnsM L ans A w) (hg : Bk w g 172 cs) (i : Nat) (v : Value) : AnsM L ans A (w.setCell ⟨g, i, none⟩ v) := by
  obtain ⟨L', h1, h2, h3, h4⟩ := h
  exact ⟨L', h1, own_eq h2 fun k hk => Below.heap_setCell w _ v k (own_neB h2 hg (by decide) hk), h3, fun e he => ⟨own_eq (h4 e he).1 fun k hk => Below.heap_setCell w _ v k (own_neB (h4 e he).1 hg (by decide) hk), (h4 e he).2⟩⟩
theorem AnsM.keptP {L : List (OI × List KI)} {ans : Value} {A : Nat → Prop} {w w' : World} {p : Nat} {cs : Array Value} (h : AnsM L ans A w) (hp : Bk w p 218 cs) (hk : Kept (fun q => q = p) w w') : AnsM L ans A w' := by
  obtain ⟨L', h1, h2, h3, h4⟩ := h
  exact ⟨L', h1, own_kept h2 hk fun k hk => own_neB h2 hp (by decide) hk, h3, fun e he => ⟨own_kept (h4 e he).1 hk fun k hk => own_neB (h4 e he).1 hp (by decide) hk, (h4 e he).2⟩⟩
theorem AnsM.setRow {L : List (OI × List KI)} {ans : Value} {A : Nat → Prop} {w : World} {g : Nat} (h : AnsM L ans A w) (hA : ¬ A g) (cs : Array Value) : AnsM L ans A (w.setRow g cs) :=
  h.keep (fun _ h => h) fun k hk => heap_setRow w (by rintro rfl; exact hA hk) cs
theorem AnsM.setRowW {L : List (OI × List KI)} {ans : Value} {A : Nat → Prop} {w : World} {g : Nat} {cs : Array Value} (h : AnsM L ans A w) (hg : Bk w g 51 cs) (ds : Array Value) : AnsM L ans A (w.setRow g ds) := by
  obtain ⟨L', h1, h2, h3, h4⟩ := h
  exact ⟨L', h1, own_eq h2 fun k hk => heap_setRow w (own_neB h2 hg (by decide) hk) ds, h3, fun e he => ⟨own_eq (h4 e he).1 fun k hk => heap_setRow w (own_neB (h4 e he).1 hg (by decide) hk) ds, (h4 e he).2⟩⟩
theorem AnsM.nil (A : Nat → Prop) (w : World) : AnsM [] vNil A w := ⟨[], rfl, World.ownsRow_nil _ _ _ _, (fun k hk => by cases hk), (fun e he => by cases he)⟩
theorem AnsM.slice {L : List (OI × List KI)} {ans : Value} {A : Nat → Prop} {w : World} (h : AnsM L ans A w) : ∃ q n c, ans = .slice q n c := by
  obtain ⟨L', _, h2, _⟩ := h
  obtain ⟨q, c, e⟩ := own_slice h2
  exact ⟨q, _, c, e⟩
theorem AnsM.on {L : List (OI × List KI)} {ans : Value} {A : Nat → Prop} {w w' : World} (h : AnsM L ans A w) (hb : Below w.heap.size w w') : AnsM L ans A w' := by
  obtain ⟨L', h1, h2, h3, h4⟩ := h
  exact ⟨L', h1, own_on h2 hb, h3, fun e he => ⟨own_on (h4 e he).1 hb, (h4 e he).2⟩⟩
theorem AnsM.wider {L : List (OI × List KI)} {ans : Value} {A A' : Nat → Prop} {w : World} (h : AnsM L ans A w) (hA : ∀ k, A k → A' k) : AnsM L ans A' w := h.keep hA fun _ _ => rfl
/-- One answer more. -/
theorem AnsM.push {L : List (OI × List KI)} {L' : List (OI × List KI)} {ans v' kv : Value} {A A' : Nat → Prop} {w w1 : World} {x : OI} {ks : List KI} {base : Nat} (h1 : L'.map stripE = L) (h2 : w.ownsRow 0 49 26 ans L'.length (L'.flatMap (fun e => e.1.cs.toList))) (h3 : ∀ k, ans.ownBlock = some k → A k) (h4 : ∀ e ∈ L', w.ownsRow 0 26 2 e.1.keys e.2.length (e.2.flatMap KI.cells) ∧ e.2.length ≤ 1024 ∧ (e.1.kd = 1 ∨ e.1.kd = 2) ∧ ∀ k, e.1.keys.ownBlock = some k → A k)
    (hk : w.ownsRow base 26 2 kv ks.length (ks.flatMap KI.cells)) (hx : (x.kd = 1 ∨ x.kd = 2) ∧ ks.length ≤ 1024) (hv : w1.ownsRow 0 49 26 v' (L'.length + 1) (L'.flatMap (fun e => e.1.cs.toList) ++ (x.put kv).cs.toList)) (hg : w.grownBy w1 ans.ownBlock) (hb : ∀ k, v'.ownBlock = some k → ans.ownBlock = some k ∨ w.heap.size ≤ k) (hA : ∀ k, A k → A' k) (hn : ∀ k, base ≤ k → k < w1.heap.size → A' k) (hbase : base ≤ w.heap.size) : AnsM (L ++ [(x.put vNil, ks)]) v' A' w1 := by
  refine ⟨L' ++ [(x.put kv, ks)], by rw [List.map_append, h1]; rfl, ?_, fun k hk => ?_, fun e he => ?_⟩
  · rw [List.length_append, List.flatMap_append, List.flatMap_cons, List.flatMap_nil, List.append_nil]
    exact hv
  · rcases hb k hk with h | h
    · exact hA k (h3 k h)
    · exact hn k (Nat.le_trans hbase h) (hv.lt k hk).2
  · rcases List.mem_append.1 he with h | h
    · have hh := h4 e h
      exact ⟨own_eq hh.1 fun k hk => hg.block k (hh.1.lt k hk).2 fun e => own_neO hh.1 h2 (by decide) hk e.symm, hh.2.1, hh.2.2.1, fun k hk => hA k (hh.2.2.2 k hk)⟩
    · obtain rfl := List.mem_singleton.1 h
      exact ⟨own_base (own_eq hk fun k hk' => hg.block k (hk.lt k hk').2 fun e => own_neO hk h2 (by decide) hk' e.symm) (fun k _ => Nat.zero_le k), hx.2, hx.1, fun k hk' => hn k (hk.lt k hk').1 (Nat.lt_of_lt_of_le (hk.lt k hk').2 hg.size)⟩
theorem len_of {L L' : List (OI × List KI)} {e : OI × List KI} (h : L'.map stripE = L) (hl : (L ++ [e]).length < 900) : L'.length < 900 := by
  subst h
  simp only [List.length_append, List.length_map, List.length_cons, List.length_nil] at hl
  omega
theorem fits_two {kd mt : Int} {x : OI} {ks : List KI} (h : fitsB kd mt x ks = true) : (x.kd = 1 ∨ x.kd = 2) ∧ ks.length ≤ 1024 := by
  unfold fitsB bad1 at h
  simp only [Bool.and_eq_true, Bool.not_eq_true', Bool.or_eq_false_iff, Bool.not_eq_false', decide_eq_false_iff_not, Nat.not_lt, Bool.or_eq_true, beq_iff_eq] at h
  exact ⟨h.1.1, h.1.2.2.2.2⟩


set_option maxHeartbeats 8000000 in
set_option maxRecDepth 100000 in
theorem next_no {S : List (OI × List KI) → Res} {fn : Nat} {caps : Array Value} {E : Nat → Prop} {Cap : World → Prop} (hF : RunF S fn caps E Cap) (g : Nat) (A : Nat → Prop) (x : OI) (ks : List KI) (w : World) (hx : x.d.ok) (h0 : 0 ≤ x.v.k) (hr : RdL KI.cells 2 ks x.keys w) (ans : Value) (kd mt : Int) (b o : Bool) (hG : Bk w g 172 (machC fn caps ans kd mt b o)) (hC : Cap w) (hgA : A g) (heA : ∀ k, E k → A k) (hlt : ∀ k, A k → k < w.heap.size) (hno : o = true ∨ (b = true ∧ fitsB kd mt x ks = false)) : Calls Tryz.prog 220 #[.pointer (some ⟨g, 0, none⟩), x.a] w fun e w' => e = .returned (.tuple #[WI.zero.a, .int .i64 160]) ∧ Below w.heap.size w w' := by
  have X := hidB (show Bk ((w.alloc (.cells (x.cs) 49)).alloc (.cells (Tryz.zeroCells51) 51)) (w.heap.size) 49 (x.cs) from (Bk.new w _ _).alloc _)
  have R := hidB (show Bk ((w.alloc (.cells (x.cs) 49)).alloc (.cells (Tryz.zeroCells51) 51)) (w.heap.size + 1) 51 (WI.zero.cs) from Bk.new2 w _ _ _)
  have B := hidB (show Below w.heap.size w ((w.alloc (.cells (x.cs) 49)).alloc (.cells (Tryz.zeroCells51) 51)) from (box_one w _).alloc (by simp) _)
  have HF := hidB hF
  have HX0 := hidB hx
  have HK0 := hidB h0
  have HR := hidB hr
  clear hF hx h0 hr
  have N1 := hidB (show NX Cap E A (fun _ => False) x w.heap.size g (machC fn caps ans kd mt b o) w ((w.alloc (.cells (x.cs) 49)).alloc (.cells (Tryz.zeroCells51) 51)) from ⟨X.out, R.out, (hG.alloc _).alloc _, HF.out.keep _ _ hC (Nat.le_trans (Nat.le_succ _) (by simp)) (fun k hk => (by exact ((Below.refl _ _).alloc (Nat.le_refl _) _ |>.alloc (by simp) _).block k (hlt k (heA k hk)))), ((Kept.refl _ w).alloc _).alloc _, rfl, hgA, heA, hlt⟩)
  clear hG hC hgA heA hlt X R B
  go_enter Tryz.func220, Tryz.ntmps220
  go_upto_region 3 with fail
  generalize hW : ((w.alloc (.cells (x.cs) 49)).alloc (.cells (Tryz.zeroCells51) 51)) = w1 at *
  clear hW
  go_cut [33] from 11 to 33 (fun s33 wx => s33 = .bool true ∧ NX Cap E A (fun _ => False) x w.heap.size g (machC fn caps ans kd mt b o) w wx)
  case first =>
    cases o with
    | true =>
      refine wp_region_noPanic ?_
      refine wp_region_held_drew (S := fun W => NX Cap E A (fun _ => False) x w.heap.size g (machC fn caps ans kd mt b true) w W) (by kernel_rfl) ?_ (fun hHeld => ?_)
      · exact N1.out.drew HF.out
      generalize hWd : w1.drew = wd at *
      clear hWd
      first | (refine wpAnyH_take (i := 0) (v := undef) (by exact gE rfl) (by kernel_rfl) (by kernel_rfl) (by kernel_rfl) (fun _ _ _ h => h) (Or.inr ⟨?_, rfl⟩) (by assumption) ?_; (rfl); try simp only [Act.put, List.setIfInBounds_toArray, List.set_cons_zero, List.set_cons_succ]) | (refine wpAnyH_take (i := 0) (v := ?_) (by exact gE rfl) (by kernel_rfl) (by kernel_rfl) (by kernel_rfl) (fun _ _ _ h => h) (Or.inl ⟨?_, ?_⟩) (by assumption) ?_; rotate_left; (rfl); (focus (intro w hSw; (try dsimp only at hSw); go_simp; try with_reducible rfl)); try simp only [Act.put, List.setIfInBounds_toArray, List.set_cons_zero, List.set_cons_succ])
      first | (refine wpAnyH_take (i := 1) (v := undef) (by exact gE rfl) (by kernel_rfl) (by kernel_rfl) (by kernel_rfl) (fun _ _ _ h => h) (Or.inr ⟨?_, rfl⟩) (by assumption) ?_; (rfl); try simp only [Act.put, List.setIfInBounds_toArray, List.set_cons_zero, List.set_cons_succ]) | (refine wpAnyH_take (i := 1) (v := ?_) (by exact gE rfl) (by kernel_rfl) (by kernel_rfl) (by kernel_rfl) (fun _ _ _ h => h) (Or.inl ⟨?_, ?_⟩) (by assumption) ?_; rotate_left; (rfl); (focus (intro w hSw; (try dsimp only at hSw); go_simp; try with_reducible rfl)); try simp only [Act.put, List.setIfInBounds_toArray, List.set_cons_zero, List.set_cons_succ])
      first | (refine wpAnyH_take (i := 2) (v := undef) (by exact gE rfl) (by kernel_rfl) (by kernel_rfl) (by kernel_rfl) (fun _ _ _ h => h) (Or.inr ⟨?_, rfl⟩) (by assumption) ?_; (rfl); try simp only [Act.put, List.setIfInBounds_toArray, List.set_cons_zero, List.set_cons_succ]) | (refine wpAnyH_take (i := 2) (v := ?_) (by exact gE rfl) (by kernel_rfl) (by kernel_rfl) (by kernel_rfl) (fun _ _ _ h => h) (Or.inl ⟨?_, ?_⟩) (by assumption) ?_; rotate_left; (rfl); (focus (intro w hSw; (try dsimp only at hSw); go_simp; try with_reducible rfl)); try simp only [Act.put, List.setIfInBounds_toArray, List.set_cons_zero, List.set_cons_succ])
      first | (refine wpAnyH_take (i := 3) (v := undef) (by exact gE rfl) (by kernel_rfl) (by kernel_rfl) (by kernel_rfl) (fun _ _ _ h => h) (Or.inr ⟨?_, rfl⟩) (by assumption) ?_; (rfl); try simp only [Act.put, List.setIfInBounds_toArray, List.set_cons_zero, List.set_cons_succ]) | (refine wpAnyH_take (i := 3) (v := ?_) (by exact gE rfl) (by kernel_rfl) (by kernel_rfl) (by kernel_rfl) (fun _ _ _ h => h) (Or.inl ⟨?_, ?_⟩) (by assumption) ?_; rotate_left; (rfl); (focus (intro W hSw; have hc0 := (show W.cell? ⟨g, 5, none⟩ = some (.bool true) from hSw.G.cell 5); clear hSw; go_simp; try with_reducible rfl)); try simp only [Act.put, List.setIfInBounds_toArray, List.set_cons_zero, List.set_cons_succ])
      first | (refine wpAnyH_take (i := 4) (v := undef) (by exact gE rfl) (by kernel_rfl) (by kernel_rfl) (by kernel_rfl) (fun _ _ _ h => h) (Or.inr ⟨?_, rfl⟩) (by assumption) ?_; (rfl); try simp only [Act.put, List.setIfInBounds_toArray, List.set_cons_zero, List.set_cons_succ]) | (refine wpAnyH_take (i := 4) (v := ?_) (by exact gE rfl) (by kernel_rfl) (by kernel_rfl) (by kernel_rfl) (fun _ _ _ h => h) (Or.inl ⟨?_, ?_⟩) (by assumption) ?_; rotate_left; (rfl); (focus (intro w hSw; (try dsimp only at hSw); go_simp; try with_reducible rfl)); try simp only [Act.put, List.setIfInBounds_toArray, List.set_cons_zero, List.set_cons_succ])
      (refine wpAnyH_take (i := 5) (v := undef) (by exact gE rfl) (by kernel_rfl) (by kernel_rfl) (by kernel_rfl) (fun _ _ _ h => h) (Or.inr ⟨?_, rfl⟩) (by assumption) ?_; (rfl); try simp only [Act.put, List.setIfInBounds_toArray, List.set_cons_zero, List.set_cons_succ])
      (refine wpAnyH_take (i := 6) (v := undef) (by exact gE rfl) (by kernel_rfl) (by kernel_rfl) (by kernel_rfl) (fun _ _ _ h => h) (Or.inr ⟨?_, rfl⟩) (by assumption) ?_; (rfl); try simp only [Act.put, List.setIfInBounds_toArray, List.set_cons_zero, List.set_cons_succ])
      (refine wpAnyH_take (i := 7) (v := undef) (by exact gE rfl) (by kernel_rfl) (by kernel_rfl) (by kernel_rfl) (fun _ _ _ h => h) (Or.inr ⟨?_, rfl⟩) (by assumption) ?_; (rfl); try simp only [Act.put, List.setIfInBounds_toArray, List.set_cons_zero, List.set_cons_succ])
      (refine wpAnyH_take (i := 8) (v := undef) (by exact gE rfl) (by kernel_rfl) (by kernel_rfl) (by kernel_rfl) (fun _ _ _ h => h) (Or.inr ⟨?_, rfl⟩) (by assumption) ?_; (rfl); try simp only [Act.put, List.setIfInBounds_toArray, List.set_cons_zero, List.set_cons_succ])
      (refine wpAnyH_take (i := 9) (v := undef) (by exact gE rfl) (by kernel_rfl) (by kernel_rfl) (by kernel_rfl) (fun _ _ _ h => h) (Or.inr ⟨?_, rfl⟩) (by assumption) ?_; (rfl); try simp only [Act.put, List.setIfInBounds_toArray, List.set_cons_zero, List.set_cons_succ])
      (refine wpAnyH_take (i := 10) (v := undef) (by exact gE rfl) (by kernel_rfl) (by kernel_rfl) (by kernel_rfl) (fun _ _ _ h => h) (Or.inr ⟨?_, rfl⟩) (by assumption) ?_; (rfl); try simp only [Act.put, List.setIfInBounds_toArray, List.set_cons_zero, List.set_cons_succ])
      (refine wpAnyH_take (i := 11) (v := undef) (by exact gE rfl) (by kernel_rfl) (by kernel_rfl) (by kernel_rfl) (fun _ _ _ h => h) (Or.inr ⟨?_, rfl⟩) (by assumption) ?_; (rfl); try simp only [Act.put, List.setIfInBounds_toArray, List.set_cons_zero, List.set_cons_succ])
      (refine wpAnyH_take (i := 12) (v := undef) (by exact gE rfl) (by kernel_rfl) (by kernel_rfl) (by kernel_rfl) (fun _ _ _ h => h) (Or.inr ⟨?_, rfl⟩) (by assumption) ?_; (rfl); try simp only [Act.put, List.setIfInBounds_toArray, List.set_cons_zero, List.set_cons_succ])
      (refine wpAnyH_take (i := 13) (v := undef) (by exact gE rfl) (by kernel_rfl) (by kernel_rfl) (by kernel_rfl) (fun _ _ _ h => h) (Or.inr ⟨?_, rfl⟩) (by assumption) ?_; (rfl); try simp only [Act.put, List.setIfInBounds_toArray, List.set_cons_zero, List.set_cons_succ])
      (refine wpAnyH_take (i := 14) (v := undef) (by exact gE rfl) (by kernel_rfl) (by kernel_rfl) (by kernel_rfl) (fun _ _ _ h => h) (Or.inr ⟨?_, rfl⟩) (by assumption) ?_; (rfl); try simp only [Act.put, List.setIfInBounds_toArray, List.set_cons_zero, List.set_cons_succ])
      (refine wpAnyH_take (i := 15) (v := undef) (by exact gE rfl) (by kernel_rfl) (by kernel_rfl) (by kernel_rfl) (fun _ _ _ h => h) (Or.inr ⟨?_, rfl⟩) (by assumption) ?_; (rfl); try simp only [Act.put, List.setIfInBounds_toArray, List.set_cons_zero, List.set_cons_succ])
      (refine wpAnyH_take (i := 16) (v := undef) (by exact gE rfl) (by kernel_rfl) (by kernel_rfl) (by kernel_rfl) (fun _ _ _ h => h) (Or.inr ⟨?_, rfl⟩) (by assumption) ?_; (rfl); try simp only [Act.put, List.setIfInBounds_toArray, List.set_cons_zero, List.set_cons_succ])
      (refine wpAnyH_take (i := 17) (v := undef) (by exact gE rfl) (by kernel_rfl) (by kernel_rfl) (by kernel_rfl) (fun _ _ _ h => h) (Or.inr ⟨?_, rfl⟩) (by assumption) ?_; (rfl); try simp only [Act.put, List.setIfInBounds_toArray, List.set_cons_zero, List.set_cons_succ])
      (refine wpAnyH_take (i := 18) (v := undef) (by exact gE rfl) (by kernel_rfl) (by kernel_rfl) (by kernel_rfl) (fun _ _ _ h => h) (Or.inr ⟨?_, rfl⟩) (by assumption) ?_; (rfl); try simp only [Act.put, List.setIfInBounds_toArray, List.set_cons_zero, List.set_cons_succ])
      (refine wpAnyH_take (i := 19) (v := undef) (by exact gE rfl) (by kernel_rfl) (by kernel_rfl) (by kernel_rfl) (fun _ _ _ h => h) (Or.inr ⟨?_, rfl⟩) (by assumption) ?_; (rfl); try simp only [Act.put, List.setIfInBounds_toArray, List.set_cons_zero, List.set_cons_succ])
      (refine wpAnyH_take (i := 20) (v := undef) (by exact gE rfl) (by kernel_rfl) (by kernel_rfl) (by kernel_rfl) (fun _ _ _ h => h) (Or.inr ⟨?_, rfl⟩) (by assumption) ?_; (rfl); try simp only [Act.put, List.setIfInBounds_toArray, List.set_cons_zero, List.set_cons_succ])
      (refine wpAnyH_take (i := 21) (v := undef) (by exact gE rfl) (by kernel_rfl) (by kernel_rfl) (by kernel_rfl) (fun _ _ _ h => h) (Or.inr ⟨?_, rfl⟩) (by assumption) ?_; (rfl); try simp only [Act.put, List.setIfInBounds_toArray, List.set_cons_zero, List.set_cons_succ])
      first | (refine wpAnyH_take (i := 22) (v := undef) (by exact gE rfl) (by kernel_rfl) (by kernel_rfl) (by kernel_rfl) (fun _ _ _ h => h) (Or.inr ⟨?_, rfl⟩) (by assumption) ?_; (rfl); try simp only [Act.put, List.setIfInBounds_toArray, List.set_cons_zero, List.set_cons_succ]) | (refine wpAnyH_take (i := 22) (v := ?_) (by exact gE rfl) (by kernel_rfl) (by kernel_rfl) (by kernel_rfl) (fun _ _ _ h => h) (Or.inl ⟨?_, ?_⟩) (by assumption) ?_; rotate_left; (rfl); (focus (intro w hSw; (try dsimp only at hSw); go_simp; try with_reducible rfl)); try simp only [Act.put, List.setIfInBounds_toArray, List.set_cons_zero, List.set_cons_succ])
      refine wpAnyH_done (by kernel_rfl) ?_ _
      refine NoPanic.normal ?_
      go_wp2_with fail
      go_meet
      case rel => exact ⟨rfl, hHeld⟩
    | false =>
      obtain ⟨hb, hfit⟩ : b = true ∧ fitsB kd mt x ks = false := by
        rcases hno with h | h
        · cases h
        · exact h
      subst hb
      have HFIT := hidB hfit
      clear hfit hno
      refine wp_region_noPanic ?_
      refine wp_region_held_drew (S := fun W => NX Cap E A (fun _ => False) x w.heap.size g (machC fn caps ans kd mt true false) w W) (by kernel_rfl) ?_ (fun hHeld => ?_)
      · exact N1.out.drew HF.out
      generalize hWd : w1.drew = wd at *
      clear hWd
      first | (refine wpAnyH_take (i := 0) (v := undef) (by exact gE rfl) (by kernel_rfl) (by kernel_rfl) (by kernel_rfl) (fun _ _ _ h => h) (Or.inr ⟨?_, rfl⟩) (by assumption) ?_; (rfl); try simp only [Act.put, List.setIfInBounds_toArray, List.set_cons_zero, List.set_cons_succ]) | (refine wpAnyH_take (i := 0) (v := ?_) (by exact gE rfl) (by kernel_rfl) (by kernel_rfl) (by kernel_rfl) (fun _ _ _ h => h) (Or.inl ⟨?_, ?_⟩) (by assumption) ?_; rotate_left; (rfl); (focus (intro w hSw; (try dsimp only at hSw); go_simp; try with_reducible rfl)); try simp only [Act.put, List.setIfInBounds_toArray, List.set_cons_zero, List.set_cons_succ])
      first | (refine wpAnyH_take (i := 1) (v := undef) (by exact gE rfl) (by kernel_rfl) (by kernel_rfl) (by kernel_rfl) (fun _ _ _ h => h) (Or.inr ⟨?_, rfl⟩) (by assumption) ?_; (rfl); try simp only [Act.put, List.setIfInBounds_toArray, List.set_cons_zero, List.set_cons_succ]) | (refine wpAnyH_take (i := 1) (v := ?_) (by exact gE rfl) (by kernel_rfl) (by kernel_rfl) (by kernel_rfl) (fun _ _ _ h => h) (Or.inl ⟨?_, ?_⟩) (by assumption) ?_; rotate_left; (rfl); (focus (intro w hSw; (try dsimp only at hSw); go_simp; try with_reducible rfl)); try simp only [Act.put, List.setIfInBounds_toArray, List.set_cons_zero, List.set_cons_succ])
      first | (refine wpAnyH_take (i := 2) (v := undef) (by exact gE rfl) (by kernel_rfl) (by kernel_rfl) (by kernel_rfl) (fun _ _ _ h => h) (Or.inr ⟨?_, rfl⟩) (by assumption) ?_; (rfl); try simp only [Act.put, List.setIfInBounds_toArray, List.set_cons_zero, List.set_cons_succ]) | (refine wpAnyH_take (i := 2) (v := ?_) (by exact gE rfl) (by kernel_rfl) (by kernel_rfl) (by kernel_rfl) (fun _ _ _ h => h) (Or.inl ⟨?_, ?_⟩) (by assumption) ?_; rotate_left; (rfl); (focus (intro w hSw; (try dsimp only at hSw); go_simp; try with_reducible rfl)); try simp only [Act.put, List.setIfInBounds_toArray, List.set_cons_zero, List.set_cons_succ])
      first | (refine wpAnyH_take (i := 3) (v := undef) (by exact gE rfl) (by kernel_rfl) (by kernel_rfl) (by kernel_rfl) (fun _ _ _ h => h) (Or.inr ⟨?_, rfl⟩) (by assumption) ?_; (rfl); try simp only [Act.put, List.setIfInBounds_toArray, List.set_cons_zero, List.set_cons_succ]) | (refine wpAnyH_take (i := 3) (v := ?_) (by exact gE rfl) (by kernel_rfl) (by kernel_rfl) (by kernel_rfl) (fun _ _ _ h => h) (Or.inl ⟨?_, ?_⟩) (by assumption) ?_; rotate_left; (rfl); (focus (intro W hSw; have hc0 := (show W.cell? ⟨g, 5, none⟩ = some (.bool false) from hSw.G.cell 5); clear hSw; go_simp; try with_reducible rfl)); try simp only [Act.put, List.setIfInBounds_toArray, List.set_cons_zero, List.set_cons_succ])
      first | (refine wpAnyH_take (i := 4) (v := undef) (by exact gE rfl) (by kernel_rfl) (by kernel_rfl) (by kernel_rfl) (fun _ _ _ h => h) (Or.inr ⟨?_, rfl⟩) (by assumption) ?_; (rfl); try simp only [Act.put, List.setIfInBounds_toArray, List.set_cons_zero, List.set_cons_succ]) | (refine wpAnyH_take (i := 4) (v := ?_) (by exact gE rfl) (by kernel_rfl) (by kernel_rfl) (by kernel_rfl) (fun _ _ _ h => h) (Or.inl ⟨?_, ?_⟩) (by assumption) ?_; rotate_left; (rfl); (focus (intro w hSw; (try dsimp only at hSw); go_simp; try with_reducible rfl)); try simp only [Act.put, List.setIfInBounds_toArray, List.set_cons_zero, List.set_cons_succ])
      first | (refine wpAnyH_take (i := 5) (v := undef) (by exact gE rfl) (by kernel_rfl) (by kernel_rfl) (by kernel_rfl) (fun _ _ _ h => h) (Or.inr ⟨?_, rfl⟩) (by assumption) ?_; (rfl); try simp only [Act.put, List.setIfInBounds_toArray, List.set_cons_zero, List.set_cons_succ]) | (refine wpAnyH_take (i := 5) (v := ?_) (by exact gE rfl) (by kernel_rfl) (by kernel_rfl) (by kernel_rfl) (fun _ _ _ h => h) (Or.inl ⟨?_, ?_⟩) (by assumption) ?_; rotate_left; (rfl); (focus (intro w hSw; (try dsimp only at hSw); go_simp; try with_reducible rfl)); try simp only [Act.put, List.setIfInBounds_toArray, List.set_cons_zero, List.set_cons_succ])
      first | (refine wpAnyH_take (i := 6) (v := undef) (by exact gE rfl) (by kernel_rfl) (by kernel_rfl) (by kernel_rfl) (fun _ _ _ h => h) (Or.inr ⟨?_, rfl⟩) (by assumption) ?_; (rfl); try simp only [Act.put, List.setIfInBounds_toArray, List.set_cons_zero, List.set_cons_succ]) | (refine wpAnyH_take (i := 6) (v := ?_) (by exact gE rfl) (by kernel_rfl) (by kernel_rfl) (by kernel_rfl) (fun _ _ _ h => h) (Or.inl ⟨?_, ?_⟩) (by assumption) ?_; rotate_left; (rfl); (focus (intro w hSw; (try dsimp only at hSw); go_simp; try with_reducible rfl)); try simp only [Act.put, List.setIfInBounds_toArray, List.set_cons_zero, List.set_cons_succ])
      first | (refine wpAnyH_take (i := 7) (v := undef) (by exact gE rfl) (by kernel_rfl) (by kernel_rfl) (by kernel_rfl) (fun _ _ _ h => h) (Or.inr ⟨?_, rfl⟩) (by assumption) ?_; (rfl); try simp only [Act.put, List.setIfInBounds_toArray, List.set_cons_zero, List.set_cons_succ]) | (refine wpAnyH_take (i := 7) (v := ?_) (by exact gE rfl) (by kernel_rfl) (by kernel_rfl) (by kernel_rfl) (fun _ _ _ h => h) (Or.inl ⟨?_, ?_⟩) (by assumption) ?_; rotate_left; (rfl); (focus (intro w hSw; (try dsimp only at hSw); go_simp; try with_reducible rfl)); try simp only [Act.put, List.setIfInBounds_toArray, List.set_cons_zero, List.set_cons_succ])
      first | (refine wpAnyH_take (i := 8) (v := undef) (by exact gE rfl) (by kernel_rfl) (by kernel_rfl) (by kernel_rfl) (fun _ _ _ h => h) (Or.inr ⟨?_, rfl⟩) (by assumption) ?_; (rfl); try simp only [Act.put, List.setIfInBounds_toArray, List.set_cons_zero, List.set_cons_succ]) | (refine wpAnyH_take (i := 8) (v := ?_) (by exact gE rfl) (by kernel_rfl) (by kernel_rfl) (by kernel_rfl) (fun _ _ _ h => h) (Or.inl ⟨?_, ?_⟩) (by assumption) ?_; rotate_left; (rfl); (focus (intro W hSw; have hc0 := (show W.cell? ⟨g, 4, none⟩ = some (.bool true) from hSw.G.cell 4); clear hSw; go_simp; try with_reducible rfl)); try simp only [Act.put, List.setIfInBounds_toArray, List.set_cons_zero, List.set_cons_succ])
      first | (refine wpAnyH_take (i := 9) (v := undef) (by exact gE rfl) (by kernel_rfl) (by kernel_rfl) (by kernel_rfl) (fun _ _ _ h => h) (Or.inr ⟨?_, rfl⟩) (by assumption) ?_; (rfl); try simp only [Act.put, List.setIfInBounds_toArray, List.set_cons_zero, List.set_cons_succ]) | (refine wpAnyH_take (i := 9) (v := ?_) (by exact gE rfl) (by kernel_rfl) (by kernel_rfl) (by kernel_rfl) (fun _ _ _ h => h) (Or.inl ⟨?_, ?_⟩) (by assumption) ?_; rotate_left; (rfl); (focus (intro w hSw; (try dsimp only at hSw); go_simp; try with_reducible rfl)); try simp only [Act.put, List.setIfInBounds_toArray, List.set_cons_zero, List.set_cons_succ])
      first | (refine wpAnyH_take (i := 10) (v := undef) (by exact gE rfl) (by kernel_rfl) (by kernel_rfl) (by kernel_rfl) (fun _ _ _ h => h) (Or.inr ⟨?_, rfl⟩) (by assumption) ?_; (rfl); try simp only [Act.put, List.setIfInBounds_toArray, List.set_cons_zero, List.set_cons_succ]) | (refine wpAnyH_take (i := 10) (v := ?_) (by exact gE rfl) (by kernel_rfl) (by kernel_rfl) (by kernel_rfl) (fun _ _ _ h => h) (Or.inl ⟨?_, ?_⟩) (by assumption) ?_; rotate_left; (rfl); (focus (intro w hSw; (try dsimp only at hSw); go_simp; try with_reducible rfl)); try simp only [Act.put, List.setIfInBounds_toArray, List.set_cons_zero, List.set_cons_succ])
      first | (refine wpAnyH_take (i := 11) (v := undef) (by exact gE rfl) (by kernel_rfl) (by kernel_rfl) (by kernel_rfl) (fun _ _ _ h => h) (Or.inr ⟨?_, rfl⟩) (by assumption) ?_; (rfl); try simp only [Act.put, List.setIfInBounds_toArray, List.set_cons_zero, List.set_cons_succ]) | (refine wpAnyH_take (i := 11) (v := ?_) (by exact gE rfl) (by kernel_rfl) (by kernel_rfl) (by kernel_rfl) (fun _ _ _ h => h) (Or.inl ⟨?_, ?_⟩) (by assumption) ?_; rotate_left; (rfl); (focus (intro w hSw; (try dsimp only at hSw); go_simp; try with_reducible rfl)); try simp only [Act.put, List.setIfInBounds_toArray, List.set_cons_zero, List.set_cons_succ])
      first | (refine wpAnyH_take (i := 12) (v := undef) (by exact gE rfl) (by kernel_rfl) (by kernel_rfl) (by kernel_rfl) (fun _ _ _ h => h) (Or.inr ⟨?_, rfl⟩) (by assumption) ?_; (rfl); try simp only [Act.put, List.setIfInBounds_toArray, List.set_cons_zero, List.set_cons_succ]) | (refine wpAnyH_take (i := 12) (v := ?_) (by exact gE rfl) (by kernel_rfl) (by kernel_rfl) (by kernel_rfl) (fun _ _ _ h => h) (Or.inl ⟨?_, ?_⟩) (by assumption) ?_; rotate_left; (rfl); (focus (intro w hSw; (try dsimp only at hSw); go_simp; try with_reducible rfl)); try simp only [Act.put, List.setIfInBounds_toArray, List.set_cons_zero, List.set_cons_succ])
      first | (refine wpAnyH_take (i := 13) (v := undef) (by exact gE rfl) (by kernel_rfl) (by kernel_rfl) (by kernel_rfl) (fun _ _ _ h => h) (Or.inr ⟨?_, rfl⟩) (by assumption) ?_; (rfl); try simp only [Act.put, List.setIfInBounds_toArray, List.set_cons_zero, List.set_cons_succ]) | (refine wpAnyH_take (i := 13) (v := ?_) (by exact gE rfl) (by kernel_rfl) (by kernel_rfl) (by kernel_rfl) (fun _ _ _ h => h) (Or.inl ⟨?_, ?_⟩) (by assumption) ?_; rotate_left; (rfl); (focus (intro W hSw; have hc0 := (show W.cell? ⟨g, 2, none⟩ = some (.int .u8 kd) from hSw.G.cell 2); clear hSw; go_simp; try with_reducible rfl)); try simp only [Act.put, List.setIfInBounds_toArray, List.set_cons_zero, List.set_cons_succ])
      first | (refine wpAnyH_take (i := 14) (v := undef) (by exact gE rfl) (by kernel_rfl) (by kernel_rfl) (by kernel_rfl) (fun _ _ _ h => h) (Or.inr ⟨?_, rfl⟩) (by assumption) ?_; (rfl); try simp only [Act.put, List.setIfInBounds_toArray, List.set_cons_zero, List.set_cons_succ]) | (refine wpAnyH_take (i := 14) (v := ?_) (by exact gE rfl) (by kernel_rfl) (by kernel_rfl) (by kernel_rfl) (fun _ _ _ h => h) (Or.inl ⟨?_, ?_⟩) (by assumption) ?_; rotate_left; (rfl); (focus (intro w hSw; (try dsimp only at hSw); go_simp; try with_reducible rfl)); try simp only [Act.put, List.setIfInBounds_toArray, List.set_cons_zero, List.set_cons_succ])
      first | (refine wpAnyH_take (i := 15) (v := undef) (by exact gE rfl) (by kernel_rfl) (by kernel_rfl) (by kernel_rfl) (fun _ _ _ h => h) (Or.inr ⟨?_, rfl⟩) (by assumption) ?_; (rfl); try simp only [Act.put, List.setIfInBounds_toArray, List.set_cons_zero, List.set_cons_succ]) | (refine wpAnyH_take (i := 15) (v := ?_) (by exact gE rfl) (by kernel_rfl) (by kernel_rfl) (by kernel_rfl) (fun _ _ _ h => h) (Or.inl ⟨?_, ?_⟩) (by assumption) ?_; rotate_left; (rfl); (focus (intro w hSw; (try dsimp only at hSw); go_simp; try with_reducible rfl)); try simp only [Act.put, List.setIfInBounds_toArray, List.set_cons_zero, List.set_cons_succ])
      first | (refine wpAnyH_take (i := 16) (v := undef) (by exact gE rfl) (by kernel_rfl) (by kernel_rfl) (by kernel_rfl) (fun _ _ _ h => h) (Or.inr ⟨?_, rfl⟩) (by assumption) ?_; (rfl); try simp only [Act.put, List.setIfInBounds_toArray, List.set_cons_zero, List.set_cons_succ]) | (refine wpAnyH_take (i := 16) (v := ?_) (by exact gE rfl) (by kernel_rfl) (by kernel_rfl) (by kernel_rfl) (fun _ _ _ h => h) (Or.inl ⟨?_, ?_⟩) (by assumption) ?_; rotate_left; (rfl); (focus (intro w hSw; (try dsimp only at hSw); go_simp; try with_reducible rfl)); try simp only [Act.put, List.setIfInBounds_toArray, List.set_cons_zero, List.set_cons_succ])
      first | (refine wpAnyH_take (i := 17) (v := undef) (by exact gE rfl) (by kernel_rfl) (by kernel_rfl) (by kernel_rfl) (fun _ _ _ h => h) (Or.inr ⟨?_, rfl⟩) (by assumption) ?_; (rfl); try simp only [Act.put, List.setIfInBounds_toArray, List.set_cons_zero, List.set_cons_succ]) | (refine wpAnyH_take (i := 17) (v := ?_) (by exact gE rfl) (by kernel_rfl) (by kernel_rfl) (by kernel_rfl) (fun _ _ _ h => h) (Or.inl ⟨?_, ?_⟩) (by assumption) ?_; rotate_left; (rfl); (focus (intro W hSw; have hc0 := (show W.cell? ⟨g, 3, none⟩ = some (.int .u8 mt) from hSw.G.cell 3); clear hSw; go_simp; try with_reducible rfl)); try simp only [Act.put, List.setIfInBounds_toArray, List.set_cons_zero, List.set_cons_succ])
      (refine wpAnyH_take (i := 18) (v := x.a) (by exact gE rfl) (by kernel_rfl) (by kernel_rfl) (by kernel_rfl) (fun _ _ _ h => h) (yieldsIf_load_mid (by rfl) 49 (.tmp 3) (by rfl) (w.heap.size) (0) (by rfl) (x.cs.toList) _ (fun W hS => Bk.mid hS.X 0 _ rfl) Tryz.underlying49 (by rfl) (by kernel_rfl)) (by assumption) ?_; try simp only [Act.put, List.setIfInBounds_toArray, List.set_cons_zero, List.set_cons_succ])
      refine wpAnyH_ready (rs := [19]) (by kernel_rfl) (by simp) ?_
      refine AllReadyH.cons rfl (fun K hK => ?_) AllReadyH.nil
      go_simp
      refine (fits_any kd mt x ks HX0.out HK0.out _ (HR.out.kept hHeld.K (fun _ _ h => h))).mono ?_; rintro e w3 ⟨rfl, hb⟩
      rw [HFIT.out]
      replace hHeld := hHeld.on HF.out hb
      clear hb
      refine hK.out _ _ hHeld (fun _ => ?_)
      clear hK K
      try simp only [Act.put, List.setIfInBounds_toArray, List.set_cons_zero, List.set_cons_succ]
      first | (refine wpAnyH_take (i := 20) (v := undef) (by exact gE rfl) (by kernel_rfl) (by kernel_rfl) (by kernel_rfl) (fun _ _ _ h => h) (Or.inr ⟨?_, rfl⟩) (by assumption) ?_; (rfl); try simp only [Act.put, List.setIfInBounds_toArray, List.set_cons_zero, List.set_cons_succ]) | (refine wpAnyH_take (i := 20) (v := ?_) (by exact gE rfl) (by kernel_rfl) (by kernel_rfl) (by kernel_rfl) (fun _ _ _ h => h) (Or.inl ⟨?_, ?_⟩) (by assumption) ?_; rotate_left; (rfl); (focus (intro w hSw; (try dsimp only at hSw); go_simp; try with_reducible rfl)); try simp only [Act.put, List.setIfInBounds_toArray, List.set_cons_zero, List.set_cons_succ])
      first | (refine wpAnyH_take (i := 21) (v := undef) (by exact gE rfl) (by kernel_rfl) (by kernel_rfl) (by kernel_rfl) (fun _ _ _ h => h) (Or.inr ⟨?_, rfl⟩) (by assumption) ?_; (rfl); try simp only [Act.put, List.setIfInBounds_toArray, List.set_cons_zero, List.set_cons_succ]) | (refine wpAnyH_take (i := 21) (v := ?_) (by exact gE rfl) (by kernel_rfl) (by kernel_rfl) (by kernel_rfl) (fun _ _ _ h => h) (Or.inl ⟨?_, ?_⟩) (by assumption) ?_; rotate_left; (rfl); (focus (intro w hSw; (try dsimp only at hSw); go_simp; try with_reducible rfl)); try simp only [Act.put, List.setIfInBounds_toArray, List.set_cons_zero, List.set_cons_succ])
      first | (refine wpAnyH_take (i := 22) (v := undef) (by exact gE rfl) (by kernel_rfl) (by kernel_rfl) (by kernel_rfl) (fun _ _ _ h => h) (Or.inr ⟨?_, rfl⟩) (by assumption) ?_; (rfl); try simp only [Act.put, List.setIfInBounds_toArray, List.set_cons_zero, List.set_cons_succ]) | (refine wpAnyH_take (i := 22) (v := ?_) (by exact gE rfl) (by kernel_rfl) (by kernel_rfl) (by kernel_rfl) (fun _ _ _ h => h) (Or.inl ⟨?_, ?_⟩) (by assumption) ?_; rotate_left; (rfl); (focus (intro w hSw; (try dsimp only at hSw); go_simp; try with_reducible rfl)); try simp only [Act.put, List.setIfInBounds_toArray, List.set_cons_zero, List.set_cons_succ])
      refine wpAnyH_done (by kernel_rfl) ?_ _
      refine NoPanic.normal ?_
      go_wp2_with fail
      go_meet
      case rel => exact ⟨rfl, hHeld⟩
  case rest =>
    obtain ⟨rfl, hN⟩ := hcut
    have N2 := hidB hN
    have R2 := hidB hN.R
    clear hN
    go_wp2_with (first | ((with_reducible refine wpId ?_); refine wpList_build_to (by rfl) 51 _ (by rfl) (WI.zero.cs) (by kernel_rfl) ?_) | ((with_reducible refine stId 51 (.tmp 4) (.tmp 34) ?_); refine wpList_store_row (by rfl) 51 (.tmp 4) (.tmp 34) (by rfl) (w.heap.size + 1) (WI.zero.cs) (by rfl) (by rfl) 51 (WI.zero.cs) (by exact R2.out) (by kernel_rfl) (by rfl) (by exact WI.one _ rfl rfl rfl rfl) ?_))
    exact bodyPost_ret (v := .tuple #[.agg (WI.zero.cs), .int .i64 160]) (results_row2 Tryz.results220 _ _ (w.heap.size + 1) 51 (WI.zero.cs) (0, 0) _ rfl (R2.out.setRow _) Tryz.underlying51 rfl (by kernel_rfl)) rfl (⟨rfl, below_setRow (N2.out.K.toBelow (Nat.le_refl _) (fun _ h => h.elim)) (Nat.le_succ _) _⟩)

/-- What going on comes to. -/
def NextR (S : List (OI × List KI) → Res) (fn : Nat) (caps : Array Value) (E : Nat → Prop) (Cap : World → Prop) (g : Nat) (A : Nat → Prop) (L : List (OI × List KI)) (w : World) (e : Ending) (w' : World) : Prop :=
  ∃ (wt : WI) (mid : Nat), e = .returned (.tuple #[wt.a, .int .i64 0]) ∧ w.heap.size ≤ mid ∧ WantR (S L) mid wt w' ∧ Kept A w w' ∧ MachW S fn caps E Cap g ((S L).q L) (fun k => A k ∨ (w.heap.size ≤ k ∧ k < mid)) w'
set_option maxHeartbeats 8000000 in
set_option maxRecDepth 100000 in
theorem next_go {S : List (OI × List KI) → Res} {fn : Nat} {caps : Array Value} {E : Nat → Prop} {Cap : World → Prop} (hF : RunF S fn caps E Cap) (g : Nat) (A : Nat → Prop) (x : OI) (ks : List KI) (w : World) (hx : x.d.ok) (h0 : 0 ≤ x.v.k) (hr : RdL KI.cells 2 ks x.keys w) (ans : Value) (kd mt : Int) (b : Bool) (L : List (OI × List KI)) (hG : Bk w g 172 (machC fn caps ans kd mt b false)) (hC : Cap w) (hgA : A g) (heA : ∀ k, E k → A k) (hlt : ∀ k, A k → k < w.heap.size) (hlen : L.length < 900) (hgd : (S L).good) (hq : (b = false ∧ L = [] ∧ ans = vNil) ∨ (b = true ∧ fitsB kd mt x ks = true ∧ ∃ L0, AnsM L0 ans A w ∧ L = L0 ++ [(x.put vNil, ks)])) : Calls Tryz.prog 220 #[.pointer (some ⟨g, 0, none⟩), x.a] w fun e w' => NextR S fn caps E Cap g A L w e w' := by
  have X := hidB (show Bk ((w.alloc (.cells (x.cs) 49)).alloc (.cells (Tryz.zeroCells51) 51)) (w.heap.size) 49 (x.cs) from (Bk.new w _ _).alloc _)
  have R := hidB (show Bk ((w.alloc (.cells (x.cs) 49)).alloc (.cells (Tryz.zeroCells51) 51)) (w.heap.size + 1) 51 (WI.zero.cs) from Bk.new2 w _ _ _)
  have B := hidB (show Below w.heap.size w ((w.alloc (.cells (x.cs) 49)).alloc (.cells (Tryz.zeroCells51) 51)) from (box_one w _).alloc (by simp) _)
  have HF := hidB hF
  have HGD := hidB hgd
  clear hgd
  have HX0 := hidB hx
  have HK0 := hidB h0
  have HR := hidB hr
  clear hF hx h0 hr
  have N1 := hidB (show NX Cap E A (fun _ => False) x w.heap.size g (machC fn caps ans kd mt b false) w ((w.alloc (.cells (x.cs) 49)).alloc (.cells (Tryz.zeroCells51) 51)) from ⟨X.out, R.out, (hG.alloc _).alloc _, HF.out.keep _ _ hC (Nat.le_trans (Nat.le_succ _) (by simp)) (fun k hk => (by exact ((Below.refl _ _).alloc (Nat.le_refl _) _ |>.alloc (by simp) _).block k (hlt k (heA k hk)))), ((Kept.refl _ w).alloc _).alloc _, rfl, hgA, heA, hlt⟩)
  clear hG hC hgA heA hlt X R B
  have HQ := hidB hq
  have HLEN := hidB hlen
  clear hq hlen
  go_enter Tryz.func220, Tryz.ntmps220
  go_upto_region 3 with fail
  generalize hW : ((w.alloc (.cells (x.cs) 49)).alloc (.cells (Tryz.zeroCells51) 51)) = w1 at *
  clear hW
  go_cut [33] from 11 to 33 (fun s33 wx => s33 = .bool false ∧ NX Cap E A (fun _ => False) x w.heap.size g (machC fn caps ans kd mt b false) w wx)
  case first =>
    rcases HQ.out with ⟨hb, hl, ha⟩ | ⟨hb, hfit, _⟩
    · subst hb
      clear HQ
      refine wp_region_noPanic ?_
      refine wp_region_held_drew (S := fun W => NX Cap E A (fun _ => False) x w.heap.size g (machC fn caps ans kd mt false false) w W) (by kernel_rfl) ?_ (fun hHeld => ?_)
      · exact N1.out.drew HF.out
      generalize hWd : w1.drew = wd at *
      clear hWd
      first | (refine wpAnyH_take (i := 0) (v := undef) (by exact gE rfl) (by kernel_rfl) (by kernel_rfl) (by kernel_rfl) (fun _ _ _ h => h) (Or.inr ⟨?_, rfl⟩) (by assumption) ?_; (rfl); try simp only [Act.put, List.setIfInBounds_toArray, List.set_cons_zero, List.set_cons_succ]) | (refine wpAnyH_take (i := 0) (v := ?_) (by exact gE rfl) (by kernel_rfl) (by kernel_rfl) (by kernel_rfl) (fun _ _ _ h => h) (Or.inl ⟨?_, ?_⟩) (by assumption) ?_; rotate_left; (rfl); (focus (intro w hSw; (try dsimp only at hSw); go_simp; try with_reducible rfl)); try simp only [Act.put, List.setIfInBounds_toArray, List.set_cons_zero, List.set_cons_succ])
      first | (refine wpAnyH_take (i := 1) (v := undef) (by exact gE rfl) (by kernel_rfl) (by kernel_rfl) (by kernel_rfl) (fun _ _ _ h => h) (Or.inr ⟨?_, rfl⟩) (by assumption) ?_; (rfl); try simp only [Act.put, List.setIfInBounds_toArray, List.set_cons_zero, List.set_cons_succ]) | (refine wpAnyH_take (i := 1) (v := ?_) (by exact gE rfl) (by kernel_rfl) (by kernel_rfl) (by kernel_rfl) (fun _ _ _ h => h) (Or.inl ⟨?_, ?_⟩) (by assumption) ?_; rotate_left; (rfl); (focus (intro w hSw; (try dsimp only at hSw); go_simp; try with_reducible rfl)); try simp only [Act.put, List.setIfInBounds_toArray, List.set_cons_zero, List.set_cons_succ])
      first | (refine wpAnyH_take (i := 2) (v := undef) (by exact gE rfl) (by kernel_rfl) (by kernel_rfl) (by kernel_rfl) (fun _ _ _ h => h) (Or.inr ⟨?_, rfl⟩) (by assumption) ?_; (rfl); try simp only [Act.put, List.setIfInBounds_toArray, List.set_cons_zero, List.set_cons_succ]) | (refine wpAnyH_take (i := 2) (v := ?_) (by exact gE rfl) (by kernel_rfl) (by kernel_rfl) (by kernel_rfl) (fun _ _ _ h => h) (Or.inl ⟨?_, ?_⟩) (by assumption) ?_; rotate_left; (rfl); (focus (intro w hSw; (try dsimp only at hSw); go_simp; try with_reducible rfl)); try simp only [Act.put, List.setIfInBounds_toArray, List.set_cons_zero, List.set_cons_succ])
      first | (refine wpAnyH_take (i := 3) (v := undef) (by exact gE rfl) (by kernel_rfl) (by kernel_rfl) (by kernel_rfl) (fun _ _ _ h => h) (Or.inr ⟨?_, rfl⟩) (by assumption) ?_; (rfl); try simp only [Act.put, List.setIfInBounds_toArray, List.set_cons_zero, List.set_cons_succ]) | (refine wpAnyH_take (i := 3) (v := ?_) (by exact gE rfl) (by kernel_rfl) (by kernel_rfl) (by kernel_rfl) (fun _ _ _ h => h) (Or.inl ⟨?_, ?_⟩) (by assumption) ?_; rotate_left; (rfl); (focus (intro W hSw; have hc0 := (show W.cell? ⟨g, 5, none⟩ = some (.bool false) from hSw.G.cell 5); clear hSw; go_simp; try with_reducible rfl)); try simp only [Act.put, List.setIfInBounds_toArray, List.set_cons_zero, List.set_cons_succ])
      first | (refine wpAnyH_take (i := 4) (v := undef) (by exact gE rfl) (by kernel_rfl) (by kernel_rfl) (by kernel_rfl) (fun _ _ _ h => h) (Or.inr ⟨?_, rfl⟩) (by assumption) ?_; (rfl); try simp only [Act.put, List.setIfInBounds_toArray, List.set_cons_zero, List.set_cons_succ]) | (refine wpAnyH_take (i := 4) (v := ?_) (by exact gE rfl) (by kernel_rfl) (by kernel_rfl) (by kernel_rfl) (fun _ _ _ h => h) (Or.inl ⟨?_, ?_⟩) (by assumption) ?_; rotate_left; (rfl); (focus (intro w hSw; (try dsimp only at hSw); go_simp; try with_reducible rfl)); try simp only [Act.put, List.setIfInBounds_toArray, List.set_cons_zero, List.set_cons_succ])
      first | (refine wpAnyH_take (i := 5) (v := undef) (by exact gE rfl) (by kernel_rfl) (by kernel_rfl) (by kernel_rfl) (fun _ _ _ h => h) (Or.inr ⟨?_, rfl⟩) (by assumption) ?_; (rfl); try simp only [Act.put, List.setIfInBounds_toArray, List.set_cons_zero, List.set_cons_succ]) | (refine wpAnyH_take (i := 5) (v := ?_) (by exact gE rfl) (by kernel_rfl) (by kernel_rfl) (by kernel_rfl) (fun _ _ _ h => h) (Or.inl ⟨?_, ?_⟩) (by assumption) ?_; rotate_left; (rfl); (focus (intro w hSw; (try dsimp only at hSw); go_simp; try with_reducible rfl)); try simp only [Act.put, List.setIfInBounds_toArray, List.set_cons_zero, List.set_cons_succ])
      first | (refine wpAnyH_take (i := 6) (v := undef) (by exact gE rfl) (by kernel_rfl) (by kernel_rfl) (by kernel_rfl) (fun _ _ _ h => h) (Or.inr ⟨?_, rfl⟩) (by assumption) ?_; (rfl); try simp only [Act.put, List.setIfInBounds_toArray, List.set_cons_zero, List.set_cons_succ]) | (refine wpAnyH_take (i := 6) (v := ?_) (by exact gE rfl) (by kernel_rfl) (by kernel_rfl) (by kernel_rfl) (fun _ _ _ h => h) (Or.inl ⟨?_, ?_⟩) (by assumption) ?_; rotate_left; (rfl); (focus (intro w hSw; (try dsimp only at hSw); go_simp; try with_reducible rfl)); try simp only [Act.put, List.setIfInBounds_toArray, List.set_cons_zero, List.set_cons_succ])
      first | (refine wpAnyH_take (i := 7) (v := undef) (by exact gE rfl) (by kernel_rfl) (by kernel_rfl) (by kernel_rfl) (fun _ _ _ h => h) (Or.inr ⟨?_, rfl⟩) (by assumption) ?_; (rfl); try simp only [Act.put, List.setIfInBounds_toArray, List.set_cons_zero, List.set_cons_succ]) | (refine wpAnyH_take (i := 7) (v := ?_) (by exact gE rfl) (by kernel_rfl) (by kernel_rfl) (by kernel_rfl) (fun _ _ _ h => h) (Or.inl ⟨?_, ?_⟩) (by assumption) ?_; rotate_left; (rfl); (focus (intro w hSw; (try dsimp only at hSw); go_simp; try with_reducible rfl)); try simp only [Act.put, List.setIfInBounds_toArray, List.set_cons_zero, List.set_cons_succ])
      first | (refine wpAnyH_take (i := 8) (v := undef) (by exact gE rfl) (by kernel_rfl) (by kernel_rfl) (by kernel_rfl) (fun _ _ _ h => h) (Or.inr ⟨?_, rfl⟩) (by assumption) ?_; (rfl); try simp only [Act.put, List.setIfInBounds_toArray, List.set_cons_zero, List.set_cons_succ]) | (refine wpAnyH_take (i := 8) (v := ?_) (by exact gE rfl) (by kernel_rfl) (by kernel_rfl) (by kernel_rfl) (fun _ _ _ h => h) (Or.inl ⟨?_, ?_⟩) (by assumption) ?_; rotate_left; (rfl); (focus (intro W hSw; have hc0 := (show W.cell? ⟨g, 4, none⟩ = some (.bool false) from hSw.G.cell 4); clear hSw; go_simp; try with_reducible rfl)); try simp only [Act.put, List.setIfInBounds_toArray, List.set_cons_zero, List.set_cons_succ])
      first | (refine wpAnyH_take (i := 9) (v := undef) (by exact gE rfl) (by kernel_rfl) (by kernel_rfl) (by kernel_rfl) (fun _ _ _ h => h) (Or.inr ⟨?_, rfl⟩) (by assumption) ?_; (rfl); try simp only [Act.put, List.setIfInBounds_toArray, List.set_cons_zero, List.set_cons_succ]) | (refine wpAnyH_take (i := 9) (v := ?_) (by exact gE rfl) (by kernel_rfl) (by kernel_rfl) (by kernel_rfl) (fun _ _ _ h => h) (Or.inl ⟨?_, ?_⟩) (by assumption) ?_; rotate_left; (rfl); (focus (intro w hSw; (try dsimp only at hSw); go_simp; try with_reducible rfl)); try simp only [Act.put, List.setIfInBounds_toArray, List.set_cons_zero, List.set_cons_succ])
      (refine wpAnyH_take (i := 10) (v := undef) (by exact gE rfl) (by kernel_rfl) (by kernel_rfl) (by kernel_rfl) (fun _ _ _ h => h) (Or.inr ⟨?_, rfl⟩) (by assumption) ?_; (rfl); try simp only [Act.put, List.setIfInBounds_toArray, List.set_cons_zero, List.set_cons_succ])
      (refine wpAnyH_take (i := 11) (v := undef) (by exact gE rfl) (by kernel_rfl) (by kernel_rfl) (by kernel_rfl) (fun _ _ _ h => h) (Or.inr ⟨?_, rfl⟩) (by assumption) ?_; (rfl); try simp only [Act.put, List.setIfInBounds_toArray, List.set_cons_zero, List.set_cons_succ])
      (refine wpAnyH_take (i := 12) (v := undef) (by exact gE rfl) (by kernel_rfl) (by kernel_rfl) (by kernel_rfl) (fun _ _ _ h => h) (Or.inr ⟨?_, rfl⟩) (by assumption) ?_; (rfl); try simp only [Act.put, List.setIfInBounds_toArray, List.set_cons_zero, List.set_cons_succ])
      (refine wpAnyH_take (i := 13) (v := undef) (by exact gE rfl) (by kernel_rfl) (by kernel_rfl) (by kernel_rfl) (fun _ _ _ h => h) (Or.inr ⟨?_, rfl⟩) (by assumption) ?_; (rfl); try simp only [Act.put, List.setIfInBounds_toArray, List.set_cons_zero, List.set_cons_succ])
      (refine wpAnyH_take (i := 14) (v := undef) (by exact gE rfl) (by kernel_rfl) (by kernel_rfl) (by kernel_rfl) (fun _ _ _ h => h) (Or.inr ⟨?_, rfl⟩) (by assumption) ?_; (rfl); try simp only [Act.put, List.setIfInBounds_toArray, List.set_cons_zero, List.set_cons_succ])
      (refine wpAnyH_take (i := 15) (v := undef) (by exact gE rfl) (by kernel_rfl) (by kernel_rfl) (by kernel_rfl) (fun _ _ _ h => h) (Or.inr ⟨?_, rfl⟩) (by assumption) ?_; (rfl); try simp only [Act.put, List.setIfInBounds_toArray, List.set_cons_zero, List.set_cons_succ])
      (refine wpAnyH_take (i := 16) (v := undef) (by exact gE rfl) (by kernel_rfl) (by kernel_rfl) (by kernel_rfl) (fun _ _ _ h => h) (Or.inr ⟨?_, rfl⟩) (by assumption) ?_; (rfl); try simp only [Act.put, List.setIfInBounds_toArray, List.set_cons_zero, List.set_cons_succ])
      (refine wpAnyH_take (i := 17) (v := undef) (by exact gE rfl) (by kernel_rfl) (by kernel_rfl) (by kernel_rfl) (fun _ _ _ h => h) (Or.inr ⟨?_, rfl⟩) (by assumption) ?_; (rfl); try simp only [Act.put, List.setIfInBounds_toArray, List.set_cons_zero, List.set_cons_succ])
      (refine wpAnyH_take (i := 18) (v := undef) (by exact gE rfl) (by kernel_rfl) (by kernel_rfl) (by kernel_rfl) (fun _ _ _ h => h) (Or.inr ⟨?_, rfl⟩) (by assumption) ?_; (rfl); try simp only [Act.put, List.setIfInBounds_toArray, List.set_cons_zero, List.set_cons_succ])
      (refine wpAnyH_take (i := 19) (v := undef) (by exact gE rfl) (by kernel_rfl) (by kernel_rfl) (by kernel_rfl) (fun _ _ _ h => h) (Or.inr ⟨?_, rfl⟩) (by assumption) ?_; (rfl); try simp only [Act.put, List.setIfInBounds_toArray, List.set_cons_zero, List.set_cons_succ])
      (refine wpAnyH_take (i := 20) (v := undef) (by exact gE rfl) (by kernel_rfl) (by kernel_rfl) (by kernel_rfl) (fun _ _ _ h => h) (Or.inr ⟨?_, rfl⟩) (by assumption) ?_; (rfl); try simp only [Act.put, List.setIfInBounds_toArray, List.set_cons_zero, List.set_cons_succ])
      first | (refine wpAnyH_take (i := 21) (v := undef) (by exact gE rfl) (by kernel_rfl) (by kernel_rfl) (by kernel_rfl) (fun _ _ _ h => h) (Or.inr ⟨?_, rfl⟩) (by assumption) ?_; (rfl); try simp only [Act.put, List.setIfInBounds_toArray, List.set_cons_zero, List.set_cons_succ]) | (refine wpAnyH_take (i := 21) (v := ?_) (by exact gE rfl) (by kernel_rfl) (by kernel_rfl) (by kernel_rfl) (fun _ _ _ h => h) (Or.inl ⟨?_, ?_⟩) (by assumption) ?_; rotate_left; (rfl); (focus (intro w hSw; (try dsimp only at hSw); go_simp; try with_reducible rfl)); try simp only [Act.put, List.setIfInBounds_toArray, List.set_cons_zero, List.set_cons_succ])
      first | (refine wpAnyH_take (i := 22) (v := undef) (by exact gE rfl) (by kernel_rfl) (by kernel_rfl) (by kernel_rfl) (fun _ _ _ h => h) (Or.inr ⟨?_, rfl⟩) (by assumption) ?_; (rfl); try simp only [Act.put, List.setIfInBounds_toArray, List.set_cons_zero, List.set_cons_succ]) | (refine wpAnyH_take (i := 22) (v := ?_) (by exact gE rfl) (by kernel_rfl) (by kernel_rfl) (by kernel_rfl) (fun _ _ _ h => h) (Or.inl ⟨?_, ?_⟩) (by assumption) ?_; rotate_left; (rfl); (focus (intro w hSw; (try dsimp only at hSw); go_simp; try with_reducible rfl)); try simp only [Act.put, List.setIfInBounds_toArray, List.set_cons_zero, List.set_cons_succ])
      refine wpAnyH_done (by kernel_rfl) ?_ _
      refine NoPanic.normal ?_
      go_wp2_with fail
      go_meet
      case rel => exact ⟨rfl, hHeld⟩
    · subst hb
      have HFIT := hidB hfit
      clear hfit HQ
      refine wp_region_noPanic ?_
      refine wp_region_held_drew (S := fun W => NX Cap E A (fun _ => False) x w.heap.size g (machC fn caps ans kd mt true false) w W) (by kernel_rfl) ?_ (fun hHeld => ?_)
      · exact N1.out.drew HF.out
      generalize hWd : w1.drew = wd at *
      clear hWd
      first | (refine wpAnyH_take (i := 0) (v := undef) (by exact gE rfl) (by kernel_rfl) (by kernel_rfl) (by kernel_rfl) (fun _ _ _ h => h) (Or.inr ⟨?_, rfl⟩) (by assumption) ?_; (rfl); try simp only [Act.put, List.setIfInBounds_toArray, List.set_cons_zero, List.set_cons_succ]) | (refine wpAnyH_take (i := 0) (v := ?_) (by exact gE rfl) (by kernel_rfl) (by kernel_rfl) (by kernel_rfl) (fun _ _ _ h => h) (Or.inl ⟨?_, ?_⟩) (by assumption) ?_; rotate_left; (rfl); (focus (intro w hSw; (try dsimp only at hSw); go_simp; try with_reducible rfl)); try simp only [Act.put, List.setIfInBounds_toArray, List.set_cons_zero, List.set_cons_succ])
      first | (refine wpAnyH_take (i := 1) (v := undef) (by exact gE rfl) (by kernel_rfl) (by kernel_rfl) (by kernel_rfl) (fun _ _ _ h => h) (Or.inr ⟨?_, rfl⟩) (by assumption) ?_; (rfl); try simp only [Act.put, List.setIfInBounds_toArray, List.set_cons_zero, List.set_cons_succ]) | (refine wpAnyH_take (i := 1) (v := ?_) (by exact gE rfl) (by kernel_rfl) (by kernel_rfl) (by kernel_rfl) (fun _ _ _ h => h) (Or.inl ⟨?_, ?_⟩) (by assumption) ?_; rotate_left; (rfl); (focus (intro w hSw; (try dsimp only at hSw); go_simp; try with_reducible rfl)); try simp only [Act.put, List.setIfInBounds_toArray, List.set_cons_zero, List.set_cons_succ])
      first | (refine wpAnyH_take (i := 2) (v := undef) (by exact gE rfl) (by kernel_rfl) (by kernel_rfl) (by kernel_rfl) (fun _ _ _ h => h) (Or.inr ⟨?_, rfl⟩) (by assumption) ?_; (rfl); try simp only [Act.put, List.setIfInBounds_toArray, List.set_cons_zero, List.set_cons_succ]) | (refine wpAnyH_take (i := 2) (v := ?_) (by exact gE rfl) (by kernel_rfl) (by kernel_rfl) (by kernel_rfl) (fun _ _ _ h => h) (Or.inl ⟨?_, ?_⟩) (by assumption) ?_; rotate_left; (rfl); (focus (intro w hSw; (try dsimp only at hSw); go_simp; try with_reducible rfl)); try simp only [Act.put, List.setIfInBounds_toArray, List.set_cons_zero, List.set_cons_succ])
      first | (refine wpAnyH_take (i := 3) (v := undef) (by exact gE rfl) (by kernel_rfl) (by kernel_rfl) (by kernel_rfl) (fun _ _ _ h => h) (Or.inr ⟨?_, rfl⟩) (by assumption) ?_; (rfl); try simp only [Act.put, List.setIfInBounds_toArray, List.set_cons_zero, List.set_cons_succ]) | (refine wpAnyH_take (i := 3) (v := ?_) (by exact gE rfl) (by kernel_rfl) (by kernel_rfl) (by kernel_rfl) (fun _ _ _ h => h) (Or.inl ⟨?_, ?_⟩) (by assumption) ?_; rotate_left; (rfl); (focus (intro W hSw; have hc0 := (show W.cell? ⟨g, 5, none⟩ = some (.bool false) from hSw.G.cell 5); clear hSw; go_simp; try with_reducible rfl)); try simp only [Act.put, List.setIfInBounds_toArray, List.set_cons_zero, List.set_cons_succ])
      first | (refine wpAnyH_take (i := 4) (v := undef) (by exact gE rfl) (by kernel_rfl) (by kernel_rfl) (by kernel_rfl) (fun _ _ _ h => h) (Or.inr ⟨?_, rfl⟩) (by assumption) ?_; (rfl); try simp only [Act.put, List.setIfInBounds_toArray, List.set_cons_zero, List.set_cons_succ]) | (refine wpAnyH_take (i := 4) (v := ?_) (by exact gE rfl) (by kernel_rfl) (by kernel_rfl) (by kernel_rfl) (fun _ _ _ h => h) (Or.inl ⟨?_, ?_⟩) (by assumption) ?_; rotate_left; (rfl); (focus (intro w hSw; (try dsimp only at hSw); go_simp; try with_reducible rfl)); try simp only [Act.put, List.setIfInBounds_toArray, List.set_cons_zero, List.set_cons_succ])
      first | (refine wpAnyH_take (i := 5) (v := undef) (by exact gE rfl) (by kernel_rfl) (by kernel_rfl) (by kernel_rfl) (fun _ _ _ h => h) (Or.inr ⟨?_, rfl⟩) (by assumption) ?_; (rfl); try simp only [Act.put, List.setIfInBounds_toArray, List.set_cons_zero, List.set_cons_succ]) | (refine wpAnyH_take (i := 5) (v := ?_) (by exact gE rfl) (by kernel_rfl) (by kernel_rfl) (by kernel_rfl) (fun _ _ _ h => h) (Or.inl ⟨?_, ?_⟩) (by assumption) ?_; rotate_left; (rfl); (focus (intro w hSw; (try dsimp only at hSw); go_simp; try with_reducible rfl)); try simp only [Act.put, List.setIfInBounds_toArray, List.set_cons_zero, List.set_cons_succ])
      first | (refine wpAnyH_take (i := 6) (v := undef) (by exact gE rfl) (by kernel_rfl) (by kernel_rfl) (by kernel_rfl) (fun _ _ _ h => h) (Or.inr ⟨?_, rfl⟩) (by assumption) ?_; (rfl); try simp only [Act.put, List.setIfInBounds_toArray, List.set_cons_zero, List.set_cons_succ]) | (refine wpAnyH_take (i := 6) (v := ?_) (by exact gE rfl) (by kernel_rfl) (by kernel_rfl) (by kernel_rfl) (fun _ _ _ h => h) (Or.inl ⟨?_, ?_⟩) (by assumption) ?_; rotate_left; (rfl); (focus (intro w hSw; (try dsimp only at hSw); go_simp; try with_reducible rfl)); try simp only [Act.put, List.setIfInBounds_toArray, List.set_cons_zero, List.set_cons_succ])
      first | (refine wpAnyH_take (i := 7) (v := undef) (by exact gE rfl) (by kernel_rfl) (by kernel_rfl) (by kernel_rfl) (fun _ _ _ h => h) (Or.inr ⟨?_, rfl⟩) (by assumption) ?_; (rfl); try simp only [Act.put, List.setIfInBounds_toArray, List.set_cons_zero, List.set_cons_succ]) | (refine wpAnyH_take (i := 7) (v := ?_) (by exact gE rfl) (by kernel_rfl) (by kernel_rfl) (by kernel_rfl) (fun _ _ _ h => h) (Or.inl ⟨?_, ?_⟩) (by assumption) ?_; rotate_left; (rfl); (focus (intro w hSw; (try dsimp only at hSw); go_simp; try with_reducible rfl)); try simp only [Act.put, List.setIfInBounds_toArray, List.set_cons_zero, List.set_cons_succ])
      first | (refine wpAnyH_take (i := 8) (v := undef) (by exact gE rfl) (by kernel_rfl) (by kernel_rfl) (by kernel_rfl) (fun _ _ _ h => h) (Or.inr ⟨?_, rfl⟩) (by assumption) ?_; (rfl); try simp only [Act.put, List.setIfInBounds_toArray, List.set_cons_zero, List.set_cons_succ]) | (refine wpAnyH_take (i := 8) (v := ?_) (by exact gE rfl) (by kernel_rfl) (by kernel_rfl) (by kernel_rfl) (fun _ _ _ h => h) (Or.inl ⟨?_, ?_⟩) (by assumption) ?_; rotate_left; (rfl); (focus (intro W hSw; have hc0 := (show W.cell? ⟨g, 4, none⟩ = some (.bool true) from hSw.G.cell 4); clear hSw; go_simp; try with_reducible rfl)); try simp only [Act.put, List.setIfInBounds_toArray, List.set_cons_zero, List.set_cons_succ])
      first | (refine wpAnyH_take (i := 9) (v := undef) (by exact gE rfl) (by kernel_rfl) (by kernel_rfl) (by kernel_rfl) (fun _ _ _ h => h) (Or.inr ⟨?_, rfl⟩) (by assumption) ?_; (rfl); try simp only [Act.put, List.setIfInBounds_toArray, List.set_cons_zero, List.set_cons_succ]) | (refine wpAnyH_take (i := 9) (v := ?_) (by exact gE rfl) (by kernel_rfl) (by kernel_rfl) (by kernel_rfl) (fun _ _ _ h => h) (Or.inl ⟨?_, ?_⟩) (by assumption) ?_; rotate_left; (rfl); (focus (intro w hSw; (try dsimp only at hSw); go_simp; try with_reducible rfl)); try simp only [Act.put, List.setIfInBounds_toArray, List.set_cons_zero, List.set_cons_succ])
      first | (refine wpAnyH_take (i := 10) (v := undef) (by exact gE rfl) (by kernel_rfl) (by kernel_rfl) (by kernel_rfl) (fun _ _ _ h => h) (Or.inr ⟨?_, rfl⟩) (by assumption) ?_; (rfl); try simp only [Act.put, List.setIfInBounds_toArray, List.set_cons_zero, List.set_cons_succ]) | (refine wpAnyH_take (i := 10) (v := ?_) (by exact gE rfl) (by kernel_rfl) (by kernel_rfl) (by kernel_rfl) (fun _ _ _ h => h) (Or.inl ⟨?_, ?_⟩) (by assumption) ?_; rotate_left; (rfl); (focus (intro w hSw; (try dsimp only at hSw); go_simp; try with_reducible rfl)); try simp only [Act.put, List.setIfInBounds_toArray, List.set_cons_zero, List.set_cons_succ])
      first | (refine wpAnyH_take (i := 11) (v := undef) (by exact gE rfl) (by kernel_rfl) (by kernel_rfl) (by kernel_rfl) (fun _ _ _ h => h) (Or.inr ⟨?_, rfl⟩) (by assumption) ?_; (rfl); try simp only [Act.put, List.setIfInBounds_toArray, List.set_cons_zero, List.set_cons_succ]) | (refine wpAnyH_take (i := 11) (v := ?_) (by exact gE rfl) (by kernel_rfl) (by kernel_rfl) (by kernel_rfl) (fun _ _ _ h => h) (Or.inl ⟨?_, ?_⟩) (by assumption) ?_; rotate_left; (rfl); (focus (intro w hSw; (try dsimp only at hSw); go_simp; try with_reducible rfl)); try simp only [Act.put, List.setIfInBounds_toArray, List.set_cons_zero, List.set_cons_succ])
      first | (refine wpAnyH_take (i := 12) (v := undef) (by exact gE rfl) (by kernel_rfl) (by kernel_rfl) (by kernel_rfl) (fun _ _ _ h => h) (Or.inr ⟨?_, rfl⟩) (by assumption) ?_; (rfl); try simp only [Act.put, List.setIfInBounds_toArray, List.set_cons_zero, List.set_cons_succ]) | (refine wpAnyH_take (i := 12) (v := ?_) (by exact gE rfl) (by kernel_rfl) (by kernel_rfl) (by kernel_rfl) (fun _ _ _ h => h) (Or.inl ⟨?_, ?_⟩) (by assumption) ?_; rotate_left; (rfl); (focus (intro w hSw; (try dsimp only at hSw); go_simp; try with_reducible rfl)); try simp only [Act.put, List.setIfInBounds_toArray, List.set_cons_zero, List.set_cons_succ])
      first | (refine wpAnyH_take (i := 13) (v := undef) (by exact gE rfl) (by kernel_rfl) (by kernel_rfl) (by kernel_rfl) (fun _ _ _ h => h) (Or.inr ⟨?_, rfl⟩) (by assumption) ?_; (rfl); try simp only [Act.put, List.setIfInBounds_toArray, List.set_cons_zero, List.set_cons_succ]) | (refine wpAnyH_take (i := 13) (v := ?_) (by exact gE rfl) (by kernel_rfl) (by kernel_rfl) (by kernel_rfl) (fun _ _ _ h => h) (Or.inl ⟨?_, ?_⟩) (by assumption) ?_; rotate_left; (rfl); (focus (intro W hSw; have hc0 := (show W.cell? ⟨g, 2, none⟩ = some (.int .u8 kd) from hSw.G.cell 2); clear hSw; go_simp; try with_reducible rfl)); try simp only [Act.put, List.setIfInBounds_toArray, List.set_cons_zero, List.set_cons_succ])
      first | (refine wpAnyH_take (i := 14) (v := undef) (by exact gE rfl) (by kernel_rfl) (by kernel_rfl) (by kernel_rfl) (fun _ _ _ h => h) (Or.inr ⟨?_, rfl⟩) (by assumption) ?_; (rfl); try simp only [Act.put, List.setIfInBounds_toArray, List.set_cons_zero, List.set_cons_succ]) | (refine wpAnyH_take (i := 14) (v := ?_) (by exact gE rfl) (by kernel_rfl) (by kernel_rfl) (by kernel_rfl) (fun _ _ _ h => h) (Or.inl ⟨?_, ?_⟩) (by assumption) ?_; rotate_left; (rfl); (focus (intro w hSw; (try dsimp only at hSw); go_simp; try with_reducible rfl)); try simp only [Act.put, List.setIfInBounds_toArray, List.set_cons_zero, List.set_cons_succ])
      first | (refine wpAnyH_take (i := 15) (v := undef) (by exact gE rfl) (by kernel_rfl) (by kernel_rfl) (by kernel_rfl) (fun _ _ _ h => h) (Or.inr ⟨?_, rfl⟩) (by assumption) ?_; (rfl); try simp only [Act.put, List.setIfInBounds_toArray, List.set_cons_zero, List.set_cons_succ]) | (refine wpAnyH_take (i := 15) (v := ?_) (by exact gE rfl) (by kernel_rfl) (by kernel_rfl) (by kernel_rfl) (fun _ _ _ h => h) (Or.inl ⟨?_, ?_⟩) (by assumption) ?_; rotate_left; (rfl); (focus (intro w hSw; (try dsimp only at hSw); go_simp; try with_reducible rfl)); try simp only [Act.put, List.setIfInBounds_toArray, List.set_cons_zero, List.set_cons_succ])
      first | (refine wpAnyH_take (i := 16) (v := undef) (by exact gE rfl) (by kernel_rfl) (by kernel_rfl) (by kernel_rfl) (fun _ _ _ h => h) (Or.inr ⟨?_, rfl⟩) (by assumption) ?_; (rfl); try simp only [Act.put, List.setIfInBounds_toArray, List.set_cons_zero, List.set_cons_succ]) | (refine wpAnyH_take (i := 16) (v := ?_) (by exact gE rfl) (by kernel_rfl) (by kernel_rfl) (by kernel_rfl) (fun _ _ _ h => h) (Or.inl ⟨?_, ?_⟩) (by assumption) ?_; rotate_left; (rfl); (focus (intro w hSw; (try dsimp only at hSw); go_simp; try with_reducible rfl)); try simp only [Act.put, List.setIfInBounds_toArray, List.set_cons_zero, List.set_cons_succ])
      first | (refine wpAnyH_take (i := 17) (v := undef) (by exact gE rfl) (by kernel_rfl) (by kernel_rfl) (by kernel_rfl) (fun _ _ _ h => h) (Or.inr ⟨?_, rfl⟩) (by assumption) ?_; (rfl); try simp only [Act.put, List.setIfInBounds_toArray, List.set_cons_zero, List.set_cons_succ]) | (refine wpAnyH_take (i := 17) (v := ?_) (by exact gE rfl) (by kernel_rfl) (by kernel_rfl) (by kernel_rfl) (fun _ _ _ h => h) (Or.inl ⟨?_, ?_⟩) (by assumption) ?_; rotate_left; (rfl); (focus (intro W hSw; have hc0 := (show W.cell? ⟨g, 3, none⟩ = some (.int .u8 mt) from hSw.G.cell 3); clear hSw; go_simp; try with_reducible rfl)); try simp only [Act.put, List.setIfInBounds_toArray, List.set_cons_zero, List.set_cons_succ])
      (refine wpAnyH_take (i := 18) (v := x.a) (by exact gE rfl) (by kernel_rfl) (by kernel_rfl) (by kernel_rfl) (fun _ _ _ h => h) (yieldsIf_load_mid (by rfl) 49 (.tmp 3) (by rfl) (w.heap.size) (0) (by rfl) (x.cs.toList) _ (fun W hS => Bk.mid hS.X 0 _ rfl) Tryz.underlying49 (by rfl) (by kernel_rfl)) (by assumption) ?_; try simp only [Act.put, List.setIfInBounds_toArray, List.set_cons_zero, List.set_cons_succ])
      refine wpAnyH_ready (rs := [19]) (by kernel_rfl) (by simp) ?_
      refine AllReadyH.cons rfl (fun K hK => ?_) AllReadyH.nil
      go_simp
      refine (fits_any kd mt x ks HX0.out HK0.out _ (HR.out.kept hHeld.K (fun _ _ h => h))).mono ?_; rintro e w3 ⟨rfl, hb⟩
      rw [HFIT.out]
      replace hHeld := hHeld.on HF.out hb
      clear hb
      refine hK.out _ _ hHeld (fun _ => ?_)
      clear hK K
      try simp only [Act.put, List.setIfInBounds_toArray, List.set_cons_zero, List.set_cons_succ]
      first | (refine wpAnyH_take (i := 20) (v := undef) (by exact gE rfl) (by kernel_rfl) (by kernel_rfl) (by kernel_rfl) (fun _ _ _ h => h) (Or.inr ⟨?_, rfl⟩) (by assumption) ?_; (rfl); try simp only [Act.put, List.setIfInBounds_toArray, List.set_cons_zero, List.set_cons_succ]) | (refine wpAnyH_take (i := 20) (v := ?_) (by exact gE rfl) (by kernel_rfl) (by kernel_rfl) (by kernel_rfl) (fun _ _ _ h => h) (Or.inl ⟨?_, ?_⟩) (by assumption) ?_; rotate_left; (rfl); (focus (intro w hSw; (try dsimp only at hSw); go_simp; try with_reducible rfl)); try simp only [Act.put, List.setIfInBounds_toArray, List.set_cons_zero, List.set_cons_succ])
      first | (refine wpAnyH_take (i := 21) (v := undef) (by exact gE rfl) (by kernel_rfl) (by kernel_rfl) (by kernel_rfl) (fun _ _ _ h => h) (Or.inr ⟨?_, rfl⟩) (by assumption) ?_; (rfl); try simp only [Act.put, List.setIfInBounds_toArray, List.set_cons_zero, List.set_cons_succ]) | (refine wpAnyH_take (i := 21) (v := ?_) (by exact gE rfl) (by kernel_rfl) (by kernel_rfl) (by kernel_rfl) (fun _ _ _ h => h) (Or.inl ⟨?_, ?_⟩) (by assumption) ?_; rotate_left; (rfl); (focus (intro w hSw; (try dsimp only at hSw); go_simp; try with_reducible rfl)); try simp only [Act.put, List.setIfInBounds_toArray, List.set_cons_zero, List.set_cons_succ])
      first | (refine wpAnyH_take (i := 22) (v := undef) (by exact gE rfl) (by kernel_rfl) (by kernel_rfl) (by kernel_rfl) (fun _ _ _ h => h) (Or.inr ⟨?_, rfl⟩) (by assumption) ?_; (rfl); try simp only [Act.put, List.setIfInBounds_toArray, List.set_cons_zero, List.set_cons_succ]) | (refine wpAnyH_take (i := 22) (v := ?_) (by exact gE rfl) (by kernel_rfl) (by kernel_rfl) (by kernel_rfl) (fun _ _ _ h => h) (Or.inl ⟨?_, ?_⟩) (by assumption) ?_; rotate_left; (rfl); (focus (intro w hSw; (try dsimp only at hSw); go_simp; try with_reducible rfl)); try simp only [Act.put, List.setIfInBounds_toArray, List.set_cons_zero, List.set_cons_succ])
      refine wpAnyH_done (by kernel_rfl) ?_ _
      refine NoPanic.normal ?_
      go_wp2_with fail
      go_meet
      case rel => exact ⟨rfl, hHeld⟩
  case rest =>
    obtain ⟨rfl, hN⟩ := hcut
    have N2 := hidB hN
    clear hN N1
    have y4 : wc.cell? ⟨g, 4, none⟩ = some (.bool b) := N2.out.G.cell 4
    go_upto_if 38 with fail
    clear y4
    go_cut [] from 34 to 49 (fun wx => ∃ ans', NX Cap E A A x w.heap.size g (machC fn caps ans' kd mt b false) w wx ∧ AnsM L ans' (fun k => A k ∨ (w.heap.size ≤ k ∧ k < wx.heap.size)) wx)
    case first =>
      rcases HQ.out with ⟨hb, hl, ha⟩ | ⟨hb, hfit, L0, hA0, hL⟩
      · subst hb
        subst hl
        subst ha
        go_wp2_with fail
        go_meet
        case rel => exact ⟨vNil, N2.out.wider (fun _ h => h.elim), AnsM.nil _ _⟩
      · subst hb
        subst hL
        have HFIT := hidB (fits_two hfit)
        have HA0 := hidB hA0
        clear hfit hA0 HQ
        go_upto_region 6 with fail
        obtain ⟨i0, hi, hz0, hz1, hz2⟩ := info_parts info_outB
        refine wp_region_noPanic ?_
        refine wp_region_held_drew (S := fun W => ∃ a, NX Cap E A A x w.heap.size g (machC fn caps a kd mt true false) w W) (by kernel_rfl) ?_ (fun hHeld => ?_)
        · exact ⟨_, (N2.out.wider (fun _ h => h.elim)).drew HF.out⟩
        have HN := hidB (show NX Cap E A A x w.heap.size g (machC fn caps ans kd mt true false) w wc.drew from (N2.out.wider (fun _ h => h.elim)).drew HF.out)
        have HRD := hidB (show RdL KI.cells 2 ks x.keys wc.drew from (HR.out.kept N2.out.K (fun _ _ h => h)).on (Below.refl _ _).drew)
        replace HA0 := hidB (show AnsM L0 ans A wc.drew from HA0.out.keep (fun _ h => h) (fun k hk => N2.out.K.block k (by have := N2.out.lt k hk; have := N2.out.hB; omega) (fun h => h)))
        generalize hWd : wc.drew = wd at *
        clear hWd
        first | (refine wpAnyH_take (i := 0) (v := undef) (by exact gE rfl) (by kernel_rfl) (by kernel_rfl) (by kernel_rfl) (fun _ _ _ h => h) (Or.inr ⟨?_, rfl⟩) (by assumption) ?_; (rfl); try simp only [Act.put, List.setIfInBounds_toArray, List.set_cons_zero, List.set_cons_succ]) | (refine wpAnyH_take (i := 0) (v := ?_) (by exact gE rfl) (by kernel_rfl) (by kernel_rfl) (by kernel_rfl) (fun _ _ _ h => h) (Or.inl ⟨?_, ?_⟩) (by assumption) ?_; rotate_left; (rfl); (focus (intro w hSw; (try dsimp only at hSw); go_simp; try with_reducible rfl)); try simp only [Act.put, List.setIfInBounds_toArray, List.set_cons_zero, List.set_cons_succ])
        first | (refine wpAnyH_take (i := 1) (v := undef) (by exact gE rfl) (by kernel_rfl) (by kernel_rfl) (by kernel_rfl) (fun _ _ _ h => h) (Or.inr ⟨?_, rfl⟩) (by assumption) ?_; (rfl); try simp only [Act.put, List.setIfInBounds_toArray, List.set_cons_zero, List.set_cons_succ]) | (refine wpAnyH_take (i := 1) (v := ?_) (by exact gE rfl) (by kernel_rfl) (by kernel_rfl) (by kernel_rfl) (fun _ _ _ h => h) (Or.inl ⟨?_, ?_⟩) (by assumption) ?_; rotate_left; (rfl); (focus (intro w hSw; (try dsimp only at hSw); go_simp; try with_reducible rfl)); try simp only [Act.put, List.setIfInBounds_toArray, List.set_cons_zero, List.set_cons_succ])
        first | (refine wpAnyH_take (i := 2) (v := undef) (by exact gE rfl) (by kernel_rfl) (by kernel_rfl) (by kernel_rfl) (fun _ _ _ h => h) (Or.inr ⟨?_, rfl⟩) (by assumption) ?_; (rfl); try simp only [Act.put, List.setIfInBounds_toArray, List.set_cons_zero, List.set_cons_succ]) | (refine wpAnyH_take (i := 2) (v := ?_) (by exact gE rfl) (by kernel_rfl) (by kernel_rfl) (by kernel_rfl) (fun _ _ _ h => h) (Or.inl ⟨?_, ?_⟩) (by assumption) ?_; rotate_left; (rfl); (focus (intro w hSw; (try dsimp only at hSw); go_simp; try with_reducible rfl)); try simp only [Act.put, List.setIfInBounds_toArray, List.set_cons_zero, List.set_cons_succ])
        first | (refine wpAnyH_take (i := 3) (v := undef) (by exact gE rfl) (by kernel_rfl) (by kernel_rfl) (by kernel_rfl) (fun _ _ _ h => h) (Or.inr ⟨?_, rfl⟩) (by assumption) ?_; (rfl); try simp only [Act.put, List.setIfInBounds_toArray, List.set_cons_zero, List.set_cons_succ]) | (refine wpAnyH_take (i := 3) (v := ?_) (by exact gE rfl) (by kernel_rfl) (by kernel_rfl) (by kernel_rfl) (fun _ _ _ h => h) (Or.inl ⟨?_, ?_⟩) (by assumption) ?_; rotate_left; (rfl); (focus (intro w hSw; (try dsimp only at hSw); go_simp; try with_reducible rfl)); try simp only [Act.put, List.setIfInBounds_toArray, List.set_cons_zero, List.set_cons_succ])
        (refine wpAnyH_take (i := 5) (v := x.a) (by exact gE rfl) (by kernel_rfl) (by kernel_rfl) (by kernel_rfl) (fun _ _ _ h => h) (yieldsIf_load_mid (by rfl) 49 (.tmp 3) (by rfl) (w.heap.size) (0) (by rfl) (x.cs.toList) _ (fun W hS => (hS.elim fun _ h => Bk.mid h.X 0 _ rfl)) Tryz.underlying49 (by rfl) (by kernel_rfl)) (by assumption) ?_; try simp only [Act.put, List.setIfInBounds_toArray, List.set_cons_zero, List.set_cons_succ])
        refine wpAnyH_ready (rs := [4, 6]) (by kernel_rfl) (by simp) ?_
        refine AllReadyH.cons rfl (fun K hK => ?_) ?_
        · skip
          have y1 : wd.cell? ⟨g, 1, none⟩ = some ans := HN.out.G.cell 1
          go_simp
          clear y1
          refine hK.out _ _ ⟨_, HN.out⟩ (fun _ => ?_)
          clear hK K
          try simp only [Act.put, List.setIfInBounds_toArray, List.set_cons_zero, List.set_cons_succ]
          refine wpAnyH_ready (rs := [6]) (by kernel_rfl) (by simp) ?_
          refine AllReadyH.cons rfl (fun K hK => ?_) AllReadyH.nil
          go_simp
          refine (twin_any x ks _ HRD.out HFIT.out.2).mono ?_; rintro e w3 ⟨kv, rfl, hown, hb⟩
          obtain ⟨qk, ck, hkv⟩ := own_slice hown
          subst hkv
          have HO := hidB (own_base (base' := w.heap.size) hown (fun k hk => Nat.le_trans HN.out.K.size (hown.lt k hk).1))
          replace HA0 := hidB (HA0.out.on hb)
          replace HN := hidB (HN.out.on HF.out hb)
          clear hown hb
          refine hK.out _ _ ⟨_, HN.out⟩ (fun _ => ?_)
          clear hK K
          try simp only [Act.put, List.setIfInBounds_toArray, List.set_cons_zero, List.set_cons_succ]
          refine wpAnyH_ready (rs := [7]) (by kernel_rfl) (by simp) ?_
          refine AllReadyH.cons rfl (fun K hK => ?_) AllReadyH.nil
          rw [if_pos (by kernel_rfl)]
          refine wp_buildSlice 170 49 1 26 _ (by rfl) [(0, (x.put (.slice qk ks.length ck)).a)] (by kernel_rfl) (.agg OI.zero.cs) (x.put (.slice qk ks.length ck)).cs Tryz.underlying170 (by kernel_rfl) (by decide) (by decide) (by kernel_rfl) ?_
          have HNB := hidB (Bk.new w3 49 (x.put (.slice qk ks.length ck)).cs)
          replace HO := hidB (own_on HO.out (box_one w3 (.cells (x.put (.slice qk ks.length ck)).cs 49)))
          replace HA0 := hidB (HA0.out.on (box_one w3 (.cells (x.put (.slice qk ks.length ck)).cs 49)))
          have hsz4 := hidB (show w.heap.size ≤ (w3.alloc (.cells (x.put (.slice qk ks.length ck)).cs 49)).heap.size from Nat.le_trans HN.out.K.size (by simp))
          replace HN := hidB (HN.out.on HF.out (box_one w3 (.cells (x.put (.slice qk ks.length ck)).cs 49)))
          refine hK.out _ _ ⟨_, HN.out⟩ (fun _ => ?_)
          clear hK K
          try simp only [Act.put, List.setIfInBounds_toArray, List.set_cons_zero, List.set_cons_succ]
          generalize hWn : (w3.alloc (.cells (x.put (.slice qk ks.length ck)).cs 49)) = w4 at *
          clear hWn
          generalize hGn : w3.heap.size = gN at *
          clear hGn
          refine wpAnyH_ready (rs := [8]) (by kernel_rfl) (by simp) ?_
          refine AllReadyH.cons rfl (fun K hK => ?_) AllReadyH.nil
          obtain ⟨L', hL1, hL2, hL3, hL4⟩ := HA0.out
          have HL1 := hidB hL1
          have HL2 := hidB hL2
          have HL3 := hidB hL3
          have HL4 := hidB hL4
          have HLL : Hid (L'.length < 900) := hidB (len_of hL1 HLEN.out)
          clear hL1 hL2 hL3 hL4 HA0
          rw [if_pos (by kernel_rfl)]
          refine wp_append_in (.tmp 43) (.tmp 46) 170 (by rfl) 0 49 i0 _ 26 240 Tryz.underlying170 hi hz0 hz1 hz2 (by rfl) (by decide) ans L'.length _ (by rfl) HL2.out ⟨gN, 0, none⟩ 1 1 (x.put (.slice qk ks.length ck)).cs.toList (by rfl) (by rfl) (bk_cells HNB.out) (fun u hu => (Array.all_eq_true_iff_forall_mem.1 (OI.one (x.put (.slice qk ks.length ck)) rfl)) u (Array.mem_toList_iff.1 hu)) (by unfold maxLen; have := HLL.out; omega) (by have := HLL.out; omega) (Nat.zero_le _) ?_
          intro v' w5 hown' hgrow hblk
          have HGB := hidB (fun k (hk : ans.ownBlock = some k) => And.intro (HL3.out k hk) (And.intro (own_neB HL2.out HN.out.G (by decide) hk) (cap_neO HF.out HN.out.C HL2.out hk)))
          replace HN := hidB (HN.out.grown HF.out hgrow (fun k hk => by have h1 := HGB.out k hk; have h2 := HN.out.lt k h1.1; exact ⟨by omega, by omega, h1.2.1, h1.2.2, .inl h1.1⟩))
          have HPU := hidB (AnsM.push (A' := (fun k => A k ∨ (w.heap.size ≤ k ∧ k < w5.heap.size))) HL1.out HL2.out HL3.out HL4.out HO.out HFIT.out hown' hgrow hblk (fun k h => .inl h) (fun k h1 h2 => .inr ⟨h1, h2⟩) hsz4.out)
          obtain ⟨q2, c2, hv2⟩ := own_slice hown'
          subst hv2
          clear hown' hgrow hblk HL1 HL2 HL3 HL4 HO HGB HNB
          refine hK.out _ _ ⟨_, HN.out⟩ (fun _ => ?_)
          clear hK K
          try simp only [Act.put, List.setIfInBounds_toArray, List.set_cons_zero, List.set_cons_succ]
          first | (refine wpAnyH_take (i := 9) (v := undef) (by exact gE rfl) (by kernel_rfl) (by kernel_rfl) (by kernel_rfl) (fun _ _ _ h => h) (Or.inr ⟨?_, rfl⟩) (by assumption) ?_; (rfl); try simp only [Act.put, List.setIfInBounds_toArray, List.set_cons_zero, List.set_cons_succ]) | (refine wpAnyH_take (i := 9) (v := ?_) (by exact gE rfl) (by kernel_rfl) (by kernel_rfl) (by kernel_rfl) (fun _ _ _ h => h) (Or.inl ⟨?_, ?_⟩) (by assumption) ?_; rotate_left; (rfl); (focus (intro w hSw; (try dsimp only at hSw); go_simp; try with_reducible rfl)); try simp only [Act.put, List.setIfInBounds_toArray, List.set_cons_zero, List.set_cons_succ])
          first | (refine wpAnyH_take (i := 10) (v := undef) (by exact gE rfl) (by kernel_rfl) (by kernel_rfl) (by kernel_rfl) (fun _ _ _ h => h) (Or.inr ⟨?_, rfl⟩) (by assumption) ?_; (rfl); try simp only [Act.put, List.setIfInBounds_toArray, List.set_cons_zero, List.set_cons_succ]) | (refine wpAnyH_take (i := 10) (v := ?_) (by exact gE rfl) (by kernel_rfl) (by kernel_rfl) (by kernel_rfl) (fun _ _ _ h => h) (Or.inl ⟨?_, ?_⟩) (by assumption) ?_; rotate_left; (rfl); (focus (intro w hSw; (try dsimp only at hSw); go_simp; try with_reducible rfl)); try simp only [Act.put, List.setIfInBounds_toArray, List.set_cons_zero, List.set_cons_succ])
          refine wpAnyH_ready (rs := [11]) (by kernel_rfl) (by simp) ?_
          refine AllReadyH.cons rfl (fun K hK => ?_) AllReadyH.nil
          have y1 : w5.cell? ⟨g, 1, none⟩ = some ans := HN.out.G.cell 1
          have f1 : w5.frozen? ⟨g, 1, none⟩ = false := HN.out.G.free 1
          go_simp
          replace HPU := hidB (HPU.out.setG HN.out.G 1 (.slice q2 (L'.length + 1) c2))
          replace HN := hidB (show NX Cap E A A x w.heap.size g (machC fn caps (.slice q2 (L'.length + 1) c2) kd mt true false) w (w5.setCell ⟨g, 1, none⟩ (.slice q2 (L'.length + 1) c2)) from HN.out.setG HF.out HN.out.gA 1 (.slice q2 (L'.length + 1) c2))
          clear y1 f1
          refine hK.out _ _ ⟨_, HN.out⟩ (fun _ => ?_)
          clear hK K
          try simp only [Act.put, List.setIfInBounds_toArray, List.set_cons_zero, List.set_cons_succ]
          refine wpAnyH_done (by kernel_rfl) ?_ _
          refine NoPanic.normal ?_
          go_wp2_with fail
          go_meet
          case rel => exact ⟨.slice q2 (L'.length + 1) c2, HN.out, HPU.out.wider (fun k h => by rcases h with h | h; exact .inl h; exact .inr ⟨h.1, by simpa [World.setCell] using h.2⟩)⟩
        refine AllReadyH.cons rfl (fun K hK => ?_) AllReadyH.nil
        go_simp
        refine (twin_any x ks _ HRD.out HFIT.out.2).mono ?_; rintro e w3 ⟨kv, rfl, hown, hb⟩
        obtain ⟨qk, ck, hkv⟩ := own_slice hown
        subst hkv
        have HO := hidB (own_base (base' := w.heap.size) hown (fun k hk => Nat.le_trans HN.out.K.size (hown.lt k hk).1))
        replace HA0 := hidB (HA0.out.on hb)
        replace HN := hidB (HN.out.on HF.out hb)
        clear hown hb
        refine hK.out _ _ ⟨_, HN.out⟩ (fun _ => ?_)
        clear hK K
        try simp only [Act.put, List.setIfInBounds_toArray, List.set_cons_zero, List.set_cons_succ]
        refine wpAnyH_ready (rs := [4, 7]) (by kernel_rfl) (by simp) ?_
        refine AllReadyH.cons rfl (fun K hK => ?_) ?_
        · skip
          have y1 : w3.cell? ⟨g, 1, none⟩ = some ans := HN.out.G.cell 1
          go_simp
          clear y1
          refine hK.out _ _ ⟨_, HN.out⟩ (fun _ => ?_)
          clear hK K
          try simp only [Act.put, List.setIfInBounds_toArray, List.set_cons_zero, List.set_cons_succ]
          refine wpAnyH_ready (rs := [7]) (by kernel_rfl) (by simp) ?_
          refine AllReadyH.cons rfl (fun K hK => ?_) AllReadyH.nil
          rw [if_pos (by kernel_rfl)]
          refine wp_buildSlice 170 49 1 26 _ (by rfl) [(0, (x.put (.slice qk ks.length ck)).a)] (by kernel_rfl) (.agg OI.zero.cs) (x.put (.slice qk ks.length ck)).cs Tryz.underlying170 (by kernel_rfl) (by decide) (by decide) (by kernel_rfl) ?_
          have HNB := hidB (Bk.new w3 49 (x.put (.slice qk ks.length ck)).cs)
          replace HO := hidB (own_on HO.out (box_one w3 (.cells (x.put (.slice qk ks.length ck)).cs 49)))
          replace HA0 := hidB (HA0.out.on (box_one w3 (.cells (x.put (.slice qk ks.length ck)).cs 49)))
          have hsz4 := hidB (show w.heap.size ≤ (w3.alloc (.cells (x.put (.slice qk ks.length ck)).cs 49)).heap.size from Nat.le_trans HN.out.K.size (by simp))
          replace HN := hidB (HN.out.on HF.out (box_one w3 (.cells (x.put (.slice qk ks.length ck)).cs 49)))
          refine hK.out _ _ ⟨_, HN.out⟩ (fun _ => ?_)
          clear hK K
          try simp only [Act.put, List.setIfInBounds_toArray, List.set_cons_zero, List.set_cons_succ]
          generalize hWn : (w3.alloc (.cells (x.put (.slice qk ks.length ck)).cs 49)) = w4 at *
          clear hWn
          generalize hGn : w3.heap.size = gN at *
          clear hGn
          refine wpAnyH_ready (rs := [8]) (by kernel_rfl) (by simp) ?_
          refine AllReadyH.cons rfl (fun K hK => ?_) AllReadyH.nil
          obtain ⟨L', hL1, hL2, hL3, hL4⟩ := HA0.out
          have HL1 := hidB hL1
          have HL2 := hidB hL2
          have HL3 := hidB hL3
          have HL4 := hidB hL4
          have HLL : Hid (L'.length < 900) := hidB (len_of hL1 HLEN.out)
          clear hL1 hL2 hL3 hL4 HA0
          rw [if_pos (by kernel_rfl)]
          refine wp_append_in (.tmp 43) (.tmp 46) 170 (by rfl) 0 49 i0 _ 26 240 Tryz.underlying170 hi hz0 hz1 hz2 (by rfl) (by decide) ans L'.length _ (by rfl) HL2.out ⟨gN, 0, none⟩ 1 1 (x.put (.slice qk ks.length ck)).cs.toList (by rfl) (by rfl) (bk_cells HNB.out) (fun u hu => (Array.all_eq_true_iff_forall_mem.1 (OI.one (x.put (.slice qk ks.length ck)) rfl)) u (Array.mem_toList_iff.1 hu)) (by unfold maxLen; have := HLL.out; omega) (by have := HLL.out; omega) (Nat.zero_le _) ?_
          intro v' w5 hown' hgrow hblk
          have HGB := hidB (fun k (hk : ans.ownBlock = some k) => And.intro (HL3.out k hk) (And.intro (own_neB HL2.out HN.out.G (by decide) hk) (cap_neO HF.out HN.out.C HL2.out hk)))
          replace HN := hidB (HN.out.grown HF.out hgrow (fun k hk => by have h1 := HGB.out k hk; have h2 := HN.out.lt k h1.1; exact ⟨by omega, by omega, h1.2.1, h1.2.2, .inl h1.1⟩))
          have HPU := hidB (AnsM.push (A' := (fun k => A k ∨ (w.heap.size ≤ k ∧ k < w5.heap.size))) HL1.out HL2.out HL3.out HL4.out HO.out HFIT.out hown' hgrow hblk (fun k h => .inl h) (fun k h1 h2 => .inr ⟨h1, h2⟩) hsz4.out)
          obtain ⟨q2, c2, hv2⟩ := own_slice hown'
          subst hv2
          clear hown' hgrow hblk HL1 HL2 HL3 HL4 HO HGB HNB
          refine hK.out _ _ ⟨_, HN.out⟩ (fun _ => ?_)
          clear hK K
          try simp only [Act.put, List.setIfInBounds_toArray, List.set_cons_zero, List.set_cons_succ]
          first | (refine wpAnyH_take (i := 9) (v := undef) (by exact gE rfl) (by kernel_rfl) (by kernel_rfl) (by kernel_rfl) (fun _ _ _ h => h) (Or.inr ⟨?_, rfl⟩) (by assumption) ?_; (rfl); try simp only [Act.put, List.setIfInBounds_toArray, List.set_cons_zero, List.set_cons_succ]) | (refine wpAnyH_take (i := 9) (v := ?_) (by exact gE rfl) (by kernel_rfl) (by kernel_rfl) (by kernel_rfl) (fun _ _ _ h => h) (Or.inl ⟨?_, ?_⟩) (by assumption) ?_; rotate_left; (rfl); (focus (intro w hSw; (try dsimp only at hSw); go_simp; try with_reducible rfl)); try simp only [Act.put, List.setIfInBounds_toArray, List.set_cons_zero, List.set_cons_succ])
          first | (refine wpAnyH_take (i := 10) (v := undef) (by exact gE rfl) (by kernel_rfl) (by kernel_rfl) (by kernel_rfl) (fun _ _ _ h => h) (Or.inr ⟨?_, rfl⟩) (by assumption) ?_; (rfl); try simp only [Act.put, List.setIfInBounds_toArray, List.set_cons_zero, List.set_cons_succ]) | (refine wpAnyH_take (i := 10) (v := ?_) (by exact gE rfl) (by kernel_rfl) (by kernel_rfl) (by kernel_rfl) (fun _ _ _ h => h) (Or.inl ⟨?_, ?_⟩) (by assumption) ?_; rotate_left; (rfl); (focus (intro w hSw; (try dsimp only at hSw); go_simp; try with_reducible rfl)); try simp only [Act.put, List.setIfInBounds_toArray, List.set_cons_zero, List.set_cons_succ])
          refine wpAnyH_ready (rs := [11]) (by kernel_rfl) (by simp) ?_
          refine AllReadyH.cons rfl (fun K hK => ?_) AllReadyH.nil
          have y1 : w5.cell? ⟨g, 1, none⟩ = some ans := HN.out.G.cell 1
          have f1 : w5.frozen? ⟨g, 1, none⟩ = false := HN.out.G.free 1
          go_simp
          replace HPU := hidB (HPU.out.setG HN.out.G 1 (.slice q2 (L'.length + 1) c2))
          replace HN := hidB (show NX Cap E A A x w.heap.size g (machC fn caps (.slice q2 (L'.length + 1) c2) kd mt true false) w (w5.setCell ⟨g, 1, none⟩ (.slice q2 (L'.length + 1) c2)) from HN.out.setG HF.out HN.out.gA 1 (.slice q2 (L'.length + 1) c2))
          clear y1 f1
          refine hK.out _ _ ⟨_, HN.out⟩ (fun _ => ?_)
          clear hK K
          try simp only [Act.put, List.setIfInBounds_toArray, List.set_cons_zero, List.set_cons_succ]
          refine wpAnyH_done (by kernel_rfl) ?_ _
          refine NoPanic.normal ?_
          go_wp2_with fail
          go_meet
          case rel => exact ⟨.slice q2 (L'.length + 1) c2, HN.out, HPU.out.wider (fun k h => by rcases h with h | h; exact .inl h; exact .inr ⟨h.1, by simpa [World.setCell] using h.2⟩)⟩
        refine AllReadyH.cons rfl (fun K hK => ?_) AllReadyH.nil
        rw [if_pos (by kernel_rfl)]
        refine wp_buildSlice 170 49 1 26 _ (by rfl) [(0, (x.put (.slice qk ks.length ck)).a)] (by kernel_rfl) (.agg OI.zero.cs) (x.put (.slice qk ks.length ck)).cs Tryz.underlying170 (by kernel_rfl) (by decide) (by decide) (by kernel_rfl) ?_
        have HNB := hidB (Bk.new w3 49 (x.put (.slice qk ks.length ck)).cs)
        replace HO := hidB (own_on HO.out (box_one w3 (.cells (x.put (.slice qk ks.length ck)).cs 49)))
        replace HA0 := hidB (HA0.out.on (box_one w3 (.cells (x.put (.slice qk ks.length ck)).cs 49)))
        have hsz4 := hidB (show w.heap.size ≤ (w3.alloc (.cells (x.put (.slice qk ks.length ck)).cs 49)).heap.size from Nat.le_trans HN.out.K.size (by simp))
        replace HN := hidB (HN.out.on HF.out (box_one w3 (.cells (x.put (.slice qk ks.length ck)).cs 49)))
        refine hK.out _ _ ⟨_, HN.out⟩ (fun _ => ?_)
        clear hK K
        try simp only [Act.put, List.setIfInBounds_toArray, List.set_cons_zero, List.set_cons_succ]
        generalize hWn : (w3.alloc (.cells (x.put (.slice qk ks.length ck)).cs 49)) = w4 at *
        clear hWn
        generalize hGn : w3.heap.size = gN at *
        clear hGn
        refine wpAnyH_ready (rs := [4]) (by kernel_rfl) (by simp) ?_
        refine AllReadyH.cons rfl (fun K hK => ?_) AllReadyH.nil
        have y1 : w4.cell? ⟨g, 1, none⟩ = some ans := HN.out.G.cell 1
        go_simp
        clear y1
        refine hK.out _ _ ⟨_, HN.out⟩ (fun _ => ?_)
        clear hK K
        try simp only [Act.put, List.setIfInBounds_toArray, List.set_cons_zero, List.set_cons_succ]
        refine wpAnyH_ready (rs := [8]) (by kernel_rfl) (by simp) ?_
        refine AllReadyH.cons rfl (fun K hK => ?_) AllReadyH.nil
        obtain ⟨L', hL1, hL2, hL3, hL4⟩ := HA0.out
        have HL1 := hidB hL1
        have HL2 := hidB hL2
        have HL3 := hidB hL3
        have HL4 := hidB hL4
        have HLL : Hid (L'.length < 900) := hidB (len_of hL1 HLEN.out)
        clear hL1 hL2 hL3 hL4 HA0
        rw [if_pos (by kernel_rfl)]
        refine wp_append_in (.tmp 43) (.tmp 46) 170 (by rfl) 0 49 i0 _ 26 240 Tryz.underlying170 hi hz0 hz1 hz2 (by rfl) (by decide) ans L'.length _ (by rfl) HL2.out ⟨gN, 0, none⟩ 1 1 (x.put (.slice qk ks.length ck)).cs.toList (by rfl) (by rfl) (bk_cells HNB.out) (fun u hu => (Array.all_eq_true_iff_forall_mem.1 (OI.one (x.put (.slice qk ks.length ck)) rfl)) u (Array.mem_toList_iff.1 hu)) (by unfold maxLen; have := HLL.out; omega) (by have := HLL.out; omega) (Nat.zero_le _) ?_
        intro v' w5 hown' hgrow hblk
        have HGB := hidB (fun k (hk : ans.ownBlock = some k) => And.intro (HL3.out k hk) (And.intro (own_neB HL2.out HN.out.G (by decide) hk) (cap_neO HF.out HN.out.C HL2.out hk)))
        replace HN := hidB (HN.out.grown HF.out hgrow (fun k hk => by have h1 := HGB.out k hk; have h2 := HN.out.lt k h1.1; exact ⟨by omega, by omega, h1.2.1, h1.2.2, .inl h1.1⟩))
        have HPU := hidB (AnsM.push (A' := (fun k => A k ∨ (w.heap.size ≤ k ∧ k < w5.heap.size))) HL1.out HL2.out HL3.out HL4.out HO.out HFIT.out hown' hgrow hblk (fun k h => .inl h) (fun k h1 h2 => .inr ⟨h1, h2⟩) hsz4.out)
        obtain ⟨q2, c2, hv2⟩ := own_slice hown'
        subst hv2
        clear hown' hgrow hblk HL1 HL2 HL3 HL4 HO HGB HNB
        refine hK.out _ _ ⟨_, HN.out⟩ (fun _ => ?_)
        clear hK K
        try simp only [Act.put, List.setIfInBounds_toArray, List.set_cons_zero, List.set_cons_succ]
        first | (refine wpAnyH_take (i := 9) (v := undef) (by exact gE rfl) (by kernel_rfl) (by kernel_rfl) (by kernel_rfl) (fun _ _ _ h => h) (Or.inr ⟨?_, rfl⟩) (by assumption) ?_; (rfl); try simp only [Act.put, List.setIfInBounds_toArray, List.set_cons_zero, List.set_cons_succ]) | (refine wpAnyH_take (i := 9) (v := ?_) (by exact gE rfl) (by kernel_rfl) (by kernel_rfl) (by kernel_rfl) (fun _ _ _ h => h) (Or.inl ⟨?_, ?_⟩) (by assumption) ?_; rotate_left; (rfl); (focus (intro w hSw; (try dsimp only at hSw); go_simp; try with_reducible rfl)); try simp only [Act.put, List.setIfInBounds_toArray, List.set_cons_zero, List.set_cons_succ])
        first | (refine wpAnyH_take (i := 10) (v := undef) (by exact gE rfl) (by kernel_rfl) (by kernel_rfl) (by kernel_rfl) (fun _ _ _ h => h) (Or.inr ⟨?_, rfl⟩) (by assumption) ?_; (rfl); try simp only [Act.put, List.setIfInBounds_toArray, List.set_cons_zero, List.set_cons_succ]) | (refine wpAnyH_take (i := 10) (v := ?_) (by exact gE rfl) (by kernel_rfl) (by kernel_rfl) (by kernel_rfl) (fun _ _ _ h => h) (Or.inl ⟨?_, ?_⟩) (by assumption) ?_; rotate_left; (rfl); (focus (intro w hSw; (try dsimp only at hSw); go_simp; try with_reducible rfl)); try simp only [Act.put, List.setIfInBounds_toArray, List.set_cons_zero, List.set_cons_succ])
        refine wpAnyH_ready (rs := [11]) (by kernel_rfl) (by simp) ?_
        refine AllReadyH.cons rfl (fun K hK => ?_) AllReadyH.nil
        have y1 : w5.cell? ⟨g, 1, none⟩ = some ans := HN.out.G.cell 1
        have f1 : w5.frozen? ⟨g, 1, none⟩ = false := HN.out.G.free 1
        go_simp
        replace HPU := hidB (HPU.out.setG HN.out.G 1 (.slice q2 (L'.length + 1) c2))
        replace HN := hidB (show NX Cap E A A x w.heap.size g (machC fn caps (.slice q2 (L'.length + 1) c2) kd mt true false) w (w5.setCell ⟨g, 1, none⟩ (.slice q2 (L'.length + 1) c2)) from HN.out.setG HF.out HN.out.gA 1 (.slice q2 (L'.length + 1) c2))
        clear y1 f1
        refine hK.out _ _ ⟨_, HN.out⟩ (fun _ => ?_)
        clear hK K
        try simp only [Act.put, List.setIfInBounds_toArray, List.set_cons_zero, List.set_cons_succ]
        refine wpAnyH_done (by kernel_rfl) ?_ _
        refine NoPanic.normal ?_
        go_wp2_with fail
        go_meet
        case rel => exact ⟨.slice q2 (L'.length + 1) c2, HN.out, HPU.out.wider (fun k h => by rcases h with h | h; exact .inl h; exact .inr ⟨h.1, by simpa [World.setCell] using h.2⟩)⟩
    case rest =>
    obtain ⟨ans', hN, hA⟩ := hcut
    obtain ⟨qa, na, ca, hsl⟩ := hA.slice
    subst hsl
    have N3 := hidB hN
    have HA3 := hidB hA
    clear hN hA N2 HQ HX0 HK0 HR
    have y4 : wc.cell? ⟨g, 4, none⟩ = some (.bool b) := N3.out.G.cell 4
    have f4 : wc.frozen? ⟨g, 4, none⟩ = false := N3.out.G.free 4
    go_upto_region 8 with fail
    have N4 := hidB (show NX Cap E A A x w.heap.size g (machC fn caps (.slice qa na ca) kd mt true false) w (wc.setCell ⟨g, 4, none⟩ (.bool true)) from N3.out.setG HF.out N3.out.gA 4 (.bool true))
    have HA4 := hidB (show AnsM L (.slice qa na ca) (fun k => A k ∨ (w.heap.size ≤ k ∧ k < wc.heap.size)) (wc.setCell ⟨g, 4, none⟩ (.bool true)) from HA3.out.setG N3.out.G 4 (.bool true))
    have HZ4 := hidB (show wc.heap.size = (wc.setCell ⟨g, 4, none⟩ (.bool true)).heap.size by simp [World.setCell])
    clear y4 f4 N3 HA3
    generalize hW : (wc.setCell ⟨g, 4, none⟩ (.bool true)) = w4 at *
    clear hW
    rw [HZ4.out] at HA4
    clear HZ4
    have y1 : w4.cell? ⟨g, 1, none⟩ = some (.slice qa na ca) := N4.out.G.cell 1
    go_upto_region 9 with (first | ((with_reducible refine wpId ?_); refine wpList_build_to (by rfl) 218 _ (by rfl) ((playC (.slice qa na ca) 0 WI.zero)) (by kernel_rfl) ?_))
    have P8 := hidB (show Bk (w4.alloc (.cells (playC (.slice qa na ca) 0 WI.zero) 218)) w4.heap.size 218 (playC (.slice qa na ca) 0 WI.zero) from Bk.new w4 _ _)
    have N8 := hidB (N4.out.on HF.out (box_one w4 (.cells (playC (.slice qa na ca) 0 WI.zero) 218)))
    have HA8 := hidB (show AnsM L (.slice qa na ca) (fun k => A k ∨ (w.heap.size ≤ k ∧ k < w4.heap.size)) (w4.alloc (.cells (playC (.slice qa na ca) 0 WI.zero) 218)) from HA4.out.on (box_one w4 (.cells (playC (.slice qa na ca) 0 WI.zero) 218)))
    have HP4 := hidB (show w.heap.size + 1 < w4.heap.size from N4.out.R.lt)
    clear N4 HA4 y1
    generalize hW : (w4.alloc (.cells (playC (.slice qa na ca) 0 WI.zero) 218)) = w5 at *
    clear hW
    generalize hP : w4.heap.size = gP at *
    clear hP
    have y0 : w5.cell? ⟨g, 0, none⟩ = some (.func (.func fn) #[] caps) := N8.out.G.cell 0
    go_wp2_with fail
    obtain ⟨L', hL', hAR⟩ := HA8.out.read P8.out
    have HST : Hid (S L = (S L').strip) := hidB (by rw [← HF.out.strip L', hL'])
    have HAR := hidB hAR
    clear hAR hL'
    rw [HF.out.body, Oper.upon_enter]
    refine (HF.out.run gP (.slice qa na ca) WI.zero L' w5 N8.out.C (cap_neG HF.out N8.out.C P8.out (.inr rfl)) P8.out HAR.out (Res.good_strip.1 (HST.out ▸ HGD.out))).mono ?_; rintro e w6 ⟨O, rfl, hO1, hkp, hrun⟩
    have HRUN := hidB (show RunR (S L) gP w5.heap.size O w6 from HST.out ▸ hrun.strip)
    have HO1 := hidB hO1
    have N9 := hidB (N8.out.kept HF.out HP4.out hkp)
    have HA9 := hidB (HA8.out.keptP P8.out hkp)
    have HG5 := hidB P8.out.lt
    have HS5 := hidB hkp.size
    clear hrun hO1 hkp HAR HST N8 HA8 P8 y0
    have R7 := hidB (show Bk (w6.alloc (.cells #[.int .u8 0, .int .u8 0, .float .f64 0, .string ⟨#[]⟩, .int .i64 0, .bool false, .bool false, .int .u8 0, .int .u8 0, .float .f64 0, .string ⟨#[]⟩, .int .i64 0, .int .u8 0, .float .f64 0, .string ⟨#[]⟩, .int .i64 0, .int .u8 0, .float .f64 0, .string ⟨#[]⟩, .int .i64 0, .bool false, .bool false, .bool false, .slice none 0 0, .int .u8 0, .string ⟨#[]⟩] 49)) w6.heap.size 49 OI.zero.cs from Bk.new w6 _ _)
    have N10 := hidB (N9.out.on HF.out (box_one w6 (.cells #[.int .u8 0, .int .u8 0, .float .f64 0, .string ⟨#[]⟩, .int .i64 0, .bool false, .bool false, .int .u8 0, .int .u8 0, .float .f64 0, .string ⟨#[]⟩, .int .i64 0, .int .u8 0, .float .f64 0, .string ⟨#[]⟩, .int .i64 0, .int .u8 0, .float .f64 0, .string ⟨#[]⟩, .int .i64 0, .bool false, .bool false, .bool false, .slice none 0 0, .int .u8 0, .string ⟨#[]⟩] 49)))
    have HA10 := hidB (HA9.out.on (box_one w6 (.cells #[.int .u8 0, .int .u8 0, .float .f64 0, .string ⟨#[]⟩, .int .i64 0, .bool false, .bool false, .int .u8 0, .int .u8 0, .float .f64 0, .string ⟨#[]⟩, .int .i64 0, .int .u8 0, .float .f64 0, .string ⟨#[]⟩, .int .i64 0, .int .u8 0, .float .f64 0, .string ⟨#[]⟩, .int .i64 0, .bool false, .bool false, .bool false, .slice none 0 0, .int .u8 0, .string ⟨#[]⟩] 49)))
    go_upto_region 10 with (first | ((with_reducible refine stId 49 (.tmp 7) (.tmp 64) ?_); refine wpList_store_row (by rfl) 49 (.tmp 7) (.tmp 64) (by rfl) (w6.heap.size) (O.cs) (by rfl) (by rfl) 49 (OI.zero.cs) (by exact R7.out) (by kernel_rfl) (by rfl) (by exact OI.one _ HO1.out) ?_))
    have HB6 := hidB (show w.heap.size + 1 < w6.heap.size from N9.out.R.lt)
    have N11 := hidB (show NX Cap E A A x w.heap.size g (machC fn caps (.slice qa na ca) kd mt true false) w ((w6.alloc (.cells #[.int .u8 0, .int .u8 0, .float .f64 0, .string ⟨#[]⟩, .int .i64 0, .bool false, .bool false, .int .u8 0, .int .u8 0, .float .f64 0, .string ⟨#[]⟩, .int .i64 0, .int .u8 0, .float .f64 0, .string ⟨#[]⟩, .int .i64 0, .int .u8 0, .float .f64 0, .string ⟨#[]⟩, .int .i64 0, .bool false, .bool false, .bool false, .slice none 0 0, .int .u8 0, .string ⟨#[]⟩] 49)).setRow w6.heap.size O.cs) from N10.out.setRow HF.out HB6.out O.cs)
    have R11 := hidB (show Bk ((w6.alloc (.cells #[.int .u8 0, .int .u8 0, .float .f64 0, .string ⟨#[]⟩, .int .i64 0, .bool false, .bool false, .int .u8 0, .int .u8 0, .float .f64 0, .string ⟨#[]⟩, .int .i64 0, .int .u8 0, .float .f64 0, .string ⟨#[]⟩, .int .i64 0, .int .u8 0, .float .f64 0, .string ⟨#[]⟩, .int .i64 0, .bool false, .bool false, .bool false, .slice none 0 0, .int .u8 0, .string ⟨#[]⟩] 49)).setRow w6.heap.size O.cs) w6.heap.size 49 O.cs from R7.out.setRow O.cs)
    have HZ7 := hidB (show w6.heap.size < ((w6.alloc (.cells #[.int .u8 0, .int .u8 0, .float .f64 0, .string ⟨#[]⟩, .int .i64 0, .bool false, .bool false, .int .u8 0, .int .u8 0, .float .f64 0, .string ⟨#[]⟩, .int .i64 0, .int .u8 0, .float .f64 0, .string ⟨#[]⟩, .int .i64 0, .int .u8 0, .float .f64 0, .string ⟨#[]⟩, .int .i64 0, .bool false, .bool false, .bool false, .slice none 0 0, .int .u8 0, .string ⟨#[]⟩] 49)).setRow w6.heap.size O.cs).heap.size from R11.out.lt)
    have HA11 := hidB (show AnsM L (.slice qa na ca) (fun k => A k ∨ (w.heap.size ≤ k ∧ k < gP)) ((w6.alloc (.cells #[.int .u8 0, .int .u8 0, .float .f64 0, .string ⟨#[]⟩, .int .i64 0, .bool false, .bool false, .int .u8 0, .int .u8 0, .float .f64 0, .string ⟨#[]⟩, .int .i64 0, .int .u8 0, .float .f64 0, .string ⟨#[]⟩, .int .i64 0, .int .u8 0, .float .f64 0, .string ⟨#[]⟩, .int .i64 0, .bool false, .bool false, .bool false, .slice none 0 0, .int .u8 0, .string ⟨#[]⟩] 49)).setRow w6.heap.size O.cs) from HA10.out.setRow (fun h => by have h1 := HG5.out; have h2 := HS5.out; have h3 := HB6.out; rcases h with h | h; (have := N9.out.lt _ h; omega); omega) O.cs)
    cases hS : S L with
    | out y ky =>
      rw [hS] at HRUN
      obtain ⟨hy0, hky, kv, hO, hown⟩ := HRUN.out
      have HYO := hidB hO
      have hb1 : (O.kd != 0) = true := by rw [hO]; simpa using hy0
      have hb2 : (O.kd == 0) = false := by rw [hO]; simpa using hy0
      have HY0 := hidB hy0
      have HKY := hidB hky
      have HO6 := hidB (show w6.ownsRow w5.heap.size 26 2 O.keys ky.length (ky.flatMap KI.cells) by rw [hO]; exact hown)
      have HO7 := hidB (show ((w6.alloc (.cells #[.int .u8 0, .int .u8 0, .float .f64 0, .string ⟨#[]⟩, .int .i64 0, .bool false, .bool false, .int .u8 0, .int .u8 0, .float .f64 0, .string ⟨#[]⟩, .int .i64 0, .int .u8 0, .float .f64 0, .string ⟨#[]⟩, .int .i64 0, .int .u8 0, .float .f64 0, .string ⟨#[]⟩, .int .i64 0, .bool false, .bool false, .bool false, .slice none 0 0, .int .u8 0, .string ⟨#[]⟩] 49)).setRow w6.heap.size O.cs).ownsRow w5.heap.size 26 2 O.keys ky.length (ky.flatMap KI.cells) from own_eq HO6.out (fun k hk => (heap_setRow _ (by have := (HO6.out.lt k hk).2; omega) _).trans (Below.heap_alloc w6 _ k (HO6.out.lt k hk).2)))
      clear hy0 hky hO hown HRUN HO6
      generalize hW : ((w6.alloc (.cells #[.int .u8 0, .int .u8 0, .float .f64 0, .string ⟨#[]⟩, .int .i64 0, .bool false, .bool false, .int .u8 0, .int .u8 0, .float .f64 0, .string ⟨#[]⟩, .int .i64 0, .int .u8 0, .float .f64 0, .string ⟨#[]⟩, .int .i64 0, .int .u8 0, .float .f64 0, .string ⟨#[]⟩, .int .i64 0, .bool false, .bool false, .bool false, .slice none 0 0, .int .u8 0, .string ⟨#[]⟩] 49)).setRow w6.heap.size O.cs) = w7 at *
      clear hW
      generalize hG7 : w6.heap.size = g7 at *
      clear hG7
      have x0 : w7.cell? ⟨g7, 0, none⟩ = some (.int .u8 O.kd) := R11.out.cell 0
      have y5 : w7.cell? ⟨g, 5, none⟩ = some (.bool false) := N11.out.G.cell 5
      have y1 : w7.cell? ⟨g, 1, none⟩ = some (.slice qa na ca) := N11.out.G.cell 1
      have f5 : ∀ o, w7.frozen? ⟨g, o, none⟩ = false := fun o => N11.out.G.free o
      go_upto_region 12 with fail
      have N12 := hidB (show NX Cap E A A x w.heap.size g (machC fn caps vNil kd mt true true) w ((w7.setCell ⟨g, 5, none⟩ (.bool true)).setCell ⟨g, 1, none⟩ (.slice none 0 0)) from (N11.out.setG HF.out N11.out.gA 5 (.bool true)).setG HF.out N11.out.gA 1 vNil)
      have HGG := hidB (show g7 ≠ g from Nat.ne_of_gt (by have h1 := N11.out.lt g N11.out.gA; have h2 := HB6.out; omega))
      have R12 := hidB (show Bk ((w7.setCell ⟨g, 5, none⟩ (.bool true)).setCell ⟨g, 1, none⟩ (.slice none 0 0)) g7 49 O.cs from (R11.out.far HGG.out _).far HGG.out _)
      have HO12 := hidB (show ((w7.setCell ⟨g, 5, none⟩ (.bool true)).setCell ⟨g, 1, none⟩ (.slice none 0 0)).ownsRow w5.heap.size 26 2 O.keys ky.length (ky.flatMap KI.cells) from own_eq HO7.out (fun k hk => (Below.heap_setCell _ _ _ k (own_neB HO7.out N11.out.G (by decide) hk)).trans (Below.heap_setCell _ _ _ k (own_neB HO7.out N11.out.G (by decide) hk))))
      clear x0 y5 y1 f5 N11 R11 HO7 HA11 hb1 hb2
      generalize hW : ((w7.setCell ⟨g, 5, none⟩ (.bool true)).setCell ⟨g, 1, none⟩ (.slice none 0 0)) = w8 at *
      clear hW
      go_wp2_with (first | ((with_reducible refine ldId 49 (.tmp 7) ?_); refine wpList_load_row (by rfl) 49 (.tmp 7) (by rfl) (g7) (by rfl) 49 (O.cs) (0, 0) _ (by exact R12.out) Tryz.underlying49 (by rfl) (by kernel_rfl) ?_))
      refine (twin_any O ky w8 (own_rd KI.cells_len HO12.out) HKY.out).mono ?_; rintro e w9 ⟨kv2, rfl, hown, hb⟩
      obtain ⟨qk, ck, hkv⟩ := own_slice hown
      subst hkv
      have HOW := hidB hown
      replace N12 := hidB (N12.out.on HF.out hb)
      have HB8 := hidB hb.size
      have RB := hidB N12.out.R
      have HH8 := hidB (show w.heap.size + 1 < w8.heap.size by have := R12.out.lt; have := HB6.out; omega)
      clear hown hb HO12 R12
      go_wp2_with (first | ((with_reducible refine wpId ?_); refine wpList_build_to (by rfl) 51 _ (by rfl) ((endW (O.put (.slice qk ky.length ck))).cs) (by kernel_rfl) ?_) | ((with_reducible refine stId 51 (.tmp 4) (.tmp 76) ?_); refine wpList_store_row (by rfl) 51 (.tmp 4) (.tmp 76) (by rfl) (w.heap.size + 1) ((endW (O.put (.slice qk ky.length ck))).cs) (by rfl) (by rfl) 51 (WI.zero.cs) (by exact RB.out) (by kernel_rfl) (by rfl) (by exact WI.one _ rfl rfl rfl rfl) ?_))
      have HFIN := hidB (N12.out.fin HF.out (endW (O.put (.slice qk ky.length ck))).cs)
      exact bodyPost_ret (v := .tuple #[.agg ((endW (O.put (.slice qk ky.length ck))).cs), .int .i64 0]) (results_row2 Tryz.results220 _ _ (w.heap.size + 1) 51 ((endW (O.put (.slice qk ky.length ck))).cs) (0, 0) _ rfl (RB.out.setRow _) Tryz.underlying51 rfl (by kernel_rfl)) rfl (show NextR S fn caps E Cap g A L w _ _ from ⟨(endW (O.put (.slice qk ky.length ck))), w8.heap.size, rfl, by have := HH8.out; omega, by rw [hS]; exact ⟨HY0.out, HKY.out, .slice qk ky.length ck, by rw [HYO.out], own_setRow HOW.out HH8.out _⟩, HFIN.out.2.2, by rw [hS]; exact ⟨HFIN.out.2.1, fun k h => .inl (N12.out.eA k h), .inl N12.out.gA, fun k h => by (have h1 := HB8.out; have h2 := HH8.out; simp only [size_setRow]; rcases h with h | h; (have := N12.out.lt k h; omega); omega), ⟨kd, mt, HFIN.out.1⟩⟩⟩)
    | want WW l =>
      rw [hS] at HRUN
      obtain ⟨hO0, av, ans2, n2, hown, hP⟩ := HRUN.out
      obtain ⟨hkm1, hkm2, hone⟩ := HF.out.km L WW l hS av
      obtain ⟨h1, h2, h3, h4⟩ := hone (own_one hown)
      have HONE := hidB (WI.one (WW av) h1 h2 h3 h4)
      have HKM1 := hidB hkm1
      have HKM2 := hidB hkm2
      have HLT6 := hidB (fun k hk => hown.lt k hk)
      clear h1 h2 h3 h4 hone hkm1 hkm2
      have P11 := hidB (show Bk ((w6.alloc (.cells #[.int .u8 0, .int .u8 0, .float .f64 0, .string ⟨#[]⟩, .int .i64 0, .bool false, .bool false, .int .u8 0, .int .u8 0, .float .f64 0, .string ⟨#[]⟩, .int .i64 0, .int .u8 0, .float .f64 0, .string ⟨#[]⟩, .int .i64 0, .int .u8 0, .float .f64 0, .string ⟨#[]⟩, .int .i64 0, .bool false, .bool false, .bool false, .slice none 0 0, .int .u8 0, .string ⟨#[]⟩] 49)).setRow w6.heap.size O.cs) gP 218 (playC ans2 n2 (WW av)) from (hP.alloc _).setRow_far (Nat.ne_of_gt hP.lt) _)
      have HO11 := hidB (show ((w6.alloc (.cells #[.int .u8 0, .int .u8 0, .float .f64 0, .string ⟨#[]⟩, .int .i64 0, .bool false, .bool false, .int .u8 0, .int .u8 0, .float .f64 0, .string ⟨#[]⟩, .int .i64 0, .int .u8 0, .float .f64 0, .string ⟨#[]⟩, .int .i64 0, .int .u8 0, .float .f64 0, .string ⟨#[]⟩, .int .i64 0, .bool false, .bool false, .bool false, .slice none 0 0, .int .u8 0, .string ⟨#[]⟩] 49)).setRow w6.heap.size O.cs).ownsRow w5.heap.size 29 4 av l.length (l.flatMap VI.cells) from own_eq hown (fun k hk => (heap_setRow _ (by have := (HLT6.out k hk).2; omega) _).trans (Below.heap_alloc w6 _ k (HLT6.out k hk).2)))
      clear hown hP HLT6 HRUN
      generalize hW : ((w6.alloc (.cells #[.int .u8 0, .int .u8 0, .float .f64 0, .string ⟨#[]⟩, .int .i64 0, .bool false, .bool false, .int .u8 0, .int .u8 0, .float .f64 0, .string ⟨#[]⟩, .int .i64 0, .int .u8 0, .float .f64 0, .string ⟨#[]⟩, .int .i64 0, .int .u8 0, .float .f64 0, .string ⟨#[]⟩, .int .i64 0, .bool false, .bool false, .bool false, .slice none 0 0, .int .u8 0, .string ⟨#[]⟩] 49)).setRow w6.heap.size O.cs) = w7 at *
      clear hW
      generalize hG7 : w6.heap.size = g7 at *
      clear hG7
      have x0 : w7.cell? ⟨g7, 0, none⟩ = some (.int .u8 0) := by rw [← hO0]; exact R11.out.cell 0
      clear hO0
      go_upto_region 13 with fail
      refine wp_region_noPanic ?_
      refine wp_region_held_drew (S := fun W => ∃ mc, NX Cap E A A x w.heap.size g mc w W ∧ Bk W gP 218 (playC ans2 n2 (WW av))) (by kernel_rfl) ?_ (fun hHeld => ?_)
      · exact ⟨_, N11.out.drew HF.out, P11.out.drew⟩
      have HN := hidB (show NX Cap E A A x w.heap.size g (machC fn caps (.slice qa na ca) kd mt true false) w w7.drew from N11.out.drew HF.out)
      have HP := hidB (show Bk w7.drew gP 218 (playC ans2 n2 (WW av)) from P11.out.drew)
      have HO := hidB (show w7.drew.ownsRow w5.heap.size 29 4 av l.length (l.flatMap VI.cells) from own_on HO11.out (Below.refl _ _).drew)
      have HA := hidB (show AnsM L (.slice qa na ca) (fun k => A k ∨ (w.heap.size ≤ k ∧ k < gP)) w7.drew from HA11.out.on (Below.refl _ _).drew)
      have HGPG := hidB (show gP ≠ g from Nat.ne_of_gt (by have h1 := N11.out.lt g N11.out.gA; have h2 := HP4.out; omega))
      have HS8 := hidB (show w5.heap.size ≤ w7.drew.heap.size from Nat.le_trans HS5.out (Nat.le_of_lt HZ7.out))
      clear N11 P11 HO11 HA11 x0 R11
      generalize hWd : w7.drew = wd at *
      clear hWd
      first | (refine wpAnyH_take (i := 0) (v := undef) (by exact gE rfl) (by kernel_rfl) (by kernel_rfl) (by kernel_rfl) (fun _ _ _ h => h) (Or.inr ⟨?_, rfl⟩) (by assumption) ?_; (rfl); try simp only [Act.put, List.setIfInBounds_toArray, List.set_cons_zero, List.set_cons_succ]) | (refine wpAnyH_take (i := 0) (v := ?_) (by exact gE rfl) (by kernel_rfl) (by kernel_rfl) (by kernel_rfl) (fun _ _ _ h => h) (Or.inl ⟨?_, ?_⟩) (by assumption) ?_; rotate_left; (rfl); (focus (intro w hSw; (try dsimp only at hSw); go_simp; try with_reducible rfl)); try simp only [Act.put, List.setIfInBounds_toArray, List.set_cons_zero, List.set_cons_succ])
      first | (refine wpAnyH_take (i := 1) (v := undef) (by exact gE rfl) (by kernel_rfl) (by kernel_rfl) (by kernel_rfl) (fun _ _ _ h => h) (Or.inr ⟨?_, rfl⟩) (by assumption) ?_; (rfl); try simp only [Act.put, List.setIfInBounds_toArray, List.set_cons_zero, List.set_cons_succ]) | (refine wpAnyH_take (i := 1) (v := ?_) (by exact gE rfl) (by kernel_rfl) (by kernel_rfl) (by kernel_rfl) (fun _ _ _ h => h) (Or.inl ⟨?_, ?_⟩) (by assumption) ?_; rotate_left; (rfl); (focus (intro w hSw; (try dsimp only at hSw); go_simp; try with_reducible rfl)); try simp only [Act.put, List.setIfInBounds_toArray, List.set_cons_zero, List.set_cons_succ])
      first | (refine wpAnyH_take (i := 2) (v := undef) (by exact gE rfl) (by kernel_rfl) (by kernel_rfl) (by kernel_rfl) (fun _ _ _ h => h) (Or.inr ⟨?_, rfl⟩) (by assumption) ?_; (rfl); try simp only [Act.put, List.setIfInBounds_toArray, List.set_cons_zero, List.set_cons_succ]) | (refine wpAnyH_take (i := 2) (v := ?_) (by exact gE rfl) (by kernel_rfl) (by kernel_rfl) (by kernel_rfl) (fun _ _ _ h => h) (Or.inl ⟨?_, ?_⟩) (by assumption) ?_; rotate_left; (rfl); (focus (intro w hSw; (try dsimp only at hSw); go_simp; try with_reducible rfl)); try simp only [Act.put, List.setIfInBounds_toArray, List.set_cons_zero, List.set_cons_succ])
      first | (refine wpAnyH_take (i := 3) (v := undef) (by exact gE rfl) (by kernel_rfl) (by kernel_rfl) (by kernel_rfl) (fun _ _ _ h => h) (Or.inr ⟨?_, rfl⟩) (by assumption) ?_; (rfl); try simp only [Act.put, List.setIfInBounds_toArray, List.set_cons_zero, List.set_cons_succ]) | (refine wpAnyH_take (i := 3) (v := ?_) (by exact gE rfl) (by kernel_rfl) (by kernel_rfl) (by kernel_rfl) (fun _ _ _ h => h) (Or.inl ⟨?_, ?_⟩) (by assumption) ?_; rotate_left; (rfl); (focus (intro w hSw; (try dsimp only at hSw); go_simp; try with_reducible rfl)); try simp only [Act.put, List.setIfInBounds_toArray, List.set_cons_zero, List.set_cons_succ])
      first | (refine wpAnyH_take (i := 4) (v := undef) (by exact gE rfl) (by kernel_rfl) (by kernel_rfl) (by kernel_rfl) (fun _ _ _ h => h) (Or.inr ⟨?_, rfl⟩) (by assumption) ?_; (rfl); try simp only [Act.put, List.setIfInBounds_toArray, List.set_cons_zero, List.set_cons_succ]) | (refine wpAnyH_take (i := 4) (v := ?_) (by exact gE rfl) (by kernel_rfl) (by kernel_rfl) (by kernel_rfl) (fun _ _ _ h => h) (Or.inl ⟨?_, ?_⟩) (by assumption) ?_; rotate_left; (rfl); (focus (intro w hSw; (try dsimp only at hSw); go_simp; try with_reducible rfl)); try simp only [Act.put, List.setIfInBounds_toArray, List.set_cons_zero, List.set_cons_succ])
      first | (refine wpAnyH_take (i := 5) (v := undef) (by exact gE rfl) (by kernel_rfl) (by kernel_rfl) (by kernel_rfl) (fun _ _ _ h => h) (Or.inr ⟨?_, rfl⟩) (by assumption) ?_; (rfl); try simp only [Act.put, List.setIfInBounds_toArray, List.set_cons_zero, List.set_cons_succ]) | (refine wpAnyH_take (i := 5) (v := ?_) (by exact gE rfl) (by kernel_rfl) (by kernel_rfl) (by kernel_rfl) (fun _ _ _ h => h) (Or.inl ⟨?_, ?_⟩) (by assumption) ?_; rotate_left; (rfl); (focus (intro w hSw; (try dsimp only at hSw); go_simp; try with_reducible rfl)); try simp only [Act.put, List.setIfInBounds_toArray, List.set_cons_zero, List.set_cons_succ])
      first | (refine wpAnyH_take (i := 6) (v := undef) (by exact gE rfl) (by kernel_rfl) (by kernel_rfl) (by kernel_rfl) (fun _ _ _ h => h) (Or.inr ⟨?_, rfl⟩) (by assumption) ?_; (rfl); try simp only [Act.put, List.setIfInBounds_toArray, List.set_cons_zero, List.set_cons_succ]) | (refine wpAnyH_take (i := 6) (v := ?_) (by exact gE rfl) (by kernel_rfl) (by kernel_rfl) (by kernel_rfl) (fun _ _ _ h => h) (Or.inl ⟨?_, ?_⟩) (by assumption) ?_; rotate_left; (rfl); (focus (intro W hSw; have hc0 := (show W.cell? ⟨gP, 2, none⟩ = some (.int .u8 (WW av).kd) from (hSw.elim fun _ h => h.2.cell 2)); clear hSw; go_simp; try with_reducible rfl)); try simp only [Act.put, List.setIfInBounds_toArray, List.set_cons_zero, List.set_cons_succ])
      first | (refine wpAnyH_take (i := 7) (v := undef) (by exact gE rfl) (by kernel_rfl) (by kernel_rfl) (by kernel_rfl) (fun _ _ _ h => h) (Or.inr ⟨?_, rfl⟩) (by assumption) ?_; (rfl); try simp only [Act.put, List.setIfInBounds_toArray, List.set_cons_zero, List.set_cons_succ]) | (refine wpAnyH_take (i := 7) (v := ?_) (by exact gE rfl) (by kernel_rfl) (by kernel_rfl) (by kernel_rfl) (fun _ _ _ h => h) (Or.inl ⟨?_, ?_⟩) (by assumption) ?_; rotate_left; (rfl); (focus (intro w hSw; (try dsimp only at hSw); go_simp; try with_reducible rfl)); try simp only [Act.put, List.setIfInBounds_toArray, List.set_cons_zero, List.set_cons_succ])
      first | (refine wpAnyH_take (i := 8) (v := undef) (by exact gE rfl) (by kernel_rfl) (by kernel_rfl) (by kernel_rfl) (fun _ _ _ h => h) (Or.inr ⟨?_, rfl⟩) (by assumption) ?_; (rfl); try simp only [Act.put, List.setIfInBounds_toArray, List.set_cons_zero, List.set_cons_succ]) | (refine wpAnyH_take (i := 8) (v := ?_) (by exact gE rfl) (by kernel_rfl) (by kernel_rfl) (by kernel_rfl) (fun _ _ _ h => h) (Or.inl ⟨?_, ?_⟩) (by assumption) ?_; rotate_left; (rfl); (focus (intro w hSw; (try dsimp only at hSw); go_simp; try with_reducible rfl)); try simp only [Act.put, List.setIfInBounds_toArray, List.set_cons_zero, List.set_cons_succ])
      first | (refine wpAnyH_take (i := 9) (v := undef) (by exact gE rfl) (by kernel_rfl) (by kernel_rfl) (by kernel_rfl) (fun _ _ _ h => h) (Or.inr ⟨?_, rfl⟩) (by assumption) ?_; (rfl); try simp only [Act.put, List.setIfInBounds_toArray, List.set_cons_zero, List.set_cons_succ]) | (refine wpAnyH_take (i := 9) (v := ?_) (by exact gE rfl) (by kernel_rfl) (by kernel_rfl) (by kernel_rfl) (fun _ _ _ h => h) (Or.inl ⟨?_, ?_⟩) (by assumption) ?_; rotate_left; (rfl); (focus (intro w hSw; (try dsimp only at hSw); go_simp; try with_reducible rfl)); try simp only [Act.put, List.setIfInBounds_toArray, List.set_cons_zero, List.set_cons_succ])
      first | (refine wpAnyH_take (i := 10) (v := undef) (by exact gE rfl) (by kernel_rfl) (by kernel_rfl) (by kernel_rfl) (fun _ _ _ h => h) (Or.inr ⟨?_, rfl⟩) (by assumption) ?_; (rfl); try simp only [Act.put, List.setIfInBounds_toArray, List.set_cons_zero, List.set_cons_succ]) | (refine wpAnyH_take (i := 10) (v := ?_) (by exact gE rfl) (by kernel_rfl) (by kernel_rfl) (by kernel_rfl) (fun _ _ _ h => h) (Or.inl ⟨?_, ?_⟩) (by assumption) ?_; rotate_left; (rfl); (focus (intro w hSw; (try dsimp only at hSw); go_simp; try with_reducible rfl)); try simp only [Act.put, List.setIfInBounds_toArray, List.set_cons_zero, List.set_cons_succ])
      first | (refine wpAnyH_take (i := 11) (v := undef) (by exact gE rfl) (by kernel_rfl) (by kernel_rfl) (by kernel_rfl) (fun _ _ _ h => h) (Or.inr ⟨?_, rfl⟩) (by assumption) ?_; (rfl); try simp only [Act.put, List.setIfInBounds_toArray, List.set_cons_zero, List.set_cons_succ]) | (refine wpAnyH_take (i := 11) (v := ?_) (by exact gE rfl) (by kernel_rfl) (by kernel_rfl) (by kernel_rfl) (fun _ _ _ h => h) (Or.inl ⟨?_, ?_⟩) (by assumption) ?_; rotate_left; (rfl); (focus (intro w hSw; (try dsimp only at hSw); go_simp; try with_reducible rfl)); try simp only [Act.put, List.setIfInBounds_toArray, List.set_cons_zero, List.set_cons_succ])
      first | (refine wpAnyH_take (i := 12) (v := undef) (by exact gE rfl) (by kernel_rfl) (by kernel_rfl) (by kernel_rfl) (fun _ _ _ h => h) (Or.inr ⟨?_, rfl⟩) (by assumption) ?_; (rfl); try simp only [Act.put, List.setIfInBounds_toArray, List.set_cons_zero, List.set_cons_succ]) | (refine wpAnyH_take (i := 12) (v := ?_) (by exact gE rfl) (by kernel_rfl) (by kernel_rfl) (by kernel_rfl) (fun _ _ _ h => h) (Or.inl ⟨?_, ?_⟩) (by assumption) ?_; rotate_left; (rfl); (focus (intro W hSw; have hc0 := (show W.cell? ⟨gP, 3, none⟩ = some (.int .u8 (WW av).ask.m) from (hSw.elim fun _ h => h.2.cell 3)); clear hSw; go_simp; try with_reducible rfl)); try simp only [Act.put, List.setIfInBounds_toArray, List.set_cons_zero, List.set_cons_succ])
      first | (refine wpAnyH_take (i := 13) (v := undef) (by exact gE rfl) (by kernel_rfl) (by kernel_rfl) (by kernel_rfl) (fun _ _ _ h => h) (Or.inr ⟨?_, rfl⟩) (by assumption) ?_; (rfl); try simp only [Act.put, List.setIfInBounds_toArray, List.set_cons_zero, List.set_cons_succ]) | (refine wpAnyH_take (i := 13) (v := ?_) (by exact gE rfl) (by kernel_rfl) (by kernel_rfl) (by kernel_rfl) (fun _ _ _ h => h) (Or.inl ⟨?_, ?_⟩) (by assumption) ?_; rotate_left; (rfl); (focus (intro w hSw; (try dsimp only at hSw); go_simp; try with_reducible rfl)); try simp only [Act.put, List.setIfInBounds_toArray, List.set_cons_zero, List.set_cons_succ])
      first | (refine wpAnyH_take (i := 14) (v := undef) (by exact gE rfl) (by kernel_rfl) (by kernel_rfl) (by kernel_rfl) (fun _ _ _ h => h) (Or.inr ⟨?_, rfl⟩) (by assumption) ?_; (rfl); try simp only [Act.put, List.setIfInBounds_toArray, List.set_cons_zero, List.set_cons_succ]) | (refine wpAnyH_take (i := 14) (v := ?_) (by exact gE rfl) (by kernel_rfl) (by kernel_rfl) (by kernel_rfl) (fun _ _ _ h => h) (Or.inl ⟨?_, ?_⟩) (by assumption) ?_; rotate_left; (rfl); (focus (intro w hSw; (try dsimp only at hSw); go_simp; try with_reducible rfl)); try simp only [Act.put, List.setIfInBounds_toArray, List.set_cons_zero, List.set_cons_succ])
      refine wpAnyH_ready (rs := [15]) (by kernel_rfl) (by simp) ?_
      refine AllReadyH.cons rfl (fun K hK => ?_) AllReadyH.nil
      have y1 : wd.cell? ⟨g, 2, none⟩ = some (.int .u8 kd) := HN.out.G.cell 2
      have f1 : wd.frozen? ⟨g, 2, none⟩ = false := HN.out.G.free 2
      go_simp
      replace HA := hidB (HA.out.setG HN.out.G 2 (.int .u8 (WW av).kd))
      replace HO := hidB (show (wd.setCell ⟨g, 2, none⟩ (.int .u8 (WW av).kd)).ownsRow w5.heap.size 29 4 av l.length (l.flatMap VI.cells) from own_eq HO.out (fun k hk => Below.heap_setCell _ _ _ k (own_neB HO.out HN.out.G (by decide) hk)))
      replace HP := hidB (show Bk (wd.setCell ⟨g, 2, none⟩ (.int .u8 (WW av).kd)) gP 218 (playC ans2 n2 (WW av)) from HP.out.far HGPG.out _)
      replace HN := hidB (show NX Cap E A A x w.heap.size g (machC fn caps (.slice qa na ca) (WW av).kd mt true false) w (wd.setCell ⟨g, 2, none⟩ (.int .u8 (WW av).kd)) from HN.out.setG HF.out HN.out.gA 2 (.int .u8 (WW av).kd))
      replace HS8 := hidB (show w5.heap.size ≤ (wd.setCell ⟨g, 2, none⟩ (.int .u8 (WW av).kd)).heap.size by have := HS8.out; simpa [World.setCell] using this)
      clear y1 f1
      refine hK.out _ _ ⟨_, HN.out, HP.out⟩ (fun _ => ?_)
      clear hK K
      try simp only [Act.put, List.setIfInBounds_toArray, List.set_cons_zero, List.set_cons_succ]
      first | (refine wpAnyH_take (i := 16) (v := undef) (by exact gE rfl) (by kernel_rfl) (by kernel_rfl) (by kernel_rfl) (fun _ _ _ h => h) (Or.inr ⟨?_, rfl⟩) (by assumption) ?_; (rfl); try simp only [Act.put, List.setIfInBounds_toArray, List.set_cons_zero, List.set_cons_succ]) | (refine wpAnyH_take (i := 16) (v := ?_) (by exact gE rfl) (by kernel_rfl) (by kernel_rfl) (by kernel_rfl) (fun _ _ _ h => h) (Or.inl ⟨?_, ?_⟩) (by assumption) ?_; rotate_left; (rfl); (focus (intro w hSw; (try dsimp only at hSw); go_simp; try with_reducible rfl)); try simp only [Act.put, List.setIfInBounds_toArray, List.set_cons_zero, List.set_cons_succ])
      first | (refine wpAnyH_take (i := 17) (v := undef) (by exact gE rfl) (by kernel_rfl) (by kernel_rfl) (by kernel_rfl) (fun _ _ _ h => h) (Or.inr ⟨?_, rfl⟩) (by assumption) ?_; (rfl); try simp only [Act.put, List.setIfInBounds_toArray, List.set_cons_zero, List.set_cons_succ]) | (refine wpAnyH_take (i := 17) (v := ?_) (by exact gE rfl) (by kernel_rfl) (by kernel_rfl) (by kernel_rfl) (fun _ _ _ h => h) (Or.inl ⟨?_, ?_⟩) (by assumption) ?_; rotate_left; (rfl); (focus (intro w hSw; (try dsimp only at hSw); go_simp; try with_reducible rfl)); try simp only [Act.put, List.setIfInBounds_toArray, List.set_cons_zero, List.set_cons_succ])
      refine wpAnyH_ready (rs := [18]) (by kernel_rfl) (by simp) ?_
      refine AllReadyH.cons rfl (fun K hK => ?_) AllReadyH.nil
      have y1 : (wd.setCell ⟨g, 2, none⟩ (.int .u8 (WW av).kd)).cell? ⟨g, 3, none⟩ = some (.int .u8 mt) := HN.out.G.cell 3
      have f1 : (wd.setCell ⟨g, 2, none⟩ (.int .u8 (WW av).kd)).frozen? ⟨g, 3, none⟩ = false := HN.out.G.free 3
      go_simp
      replace HA := hidB (HA.out.setG HN.out.G 3 (.int .u8 (WW av).ask.m))
      replace HO := hidB (show ((wd.setCell ⟨g, 2, none⟩ (.int .u8 (WW av).kd)).setCell ⟨g, 3, none⟩ (.int .u8 (WW av).ask.m)).ownsRow w5.heap.size 29 4 av l.length (l.flatMap VI.cells) from own_eq HO.out (fun k hk => Below.heap_setCell _ _ _ k (own_neB HO.out HN.out.G (by decide) hk)))
      replace HP := hidB (show Bk ((wd.setCell ⟨g, 2, none⟩ (.int .u8 (WW av).kd)).setCell ⟨g, 3, none⟩ (.int .u8 (WW av).ask.m)) gP 218 (playC ans2 n2 (WW av)) from HP.out.far HGPG.out _)
      replace HN := hidB (show NX Cap E A A x w.heap.size g (machC fn caps (.slice qa na ca) (WW av).kd (WW av).ask.m true false) w ((wd.setCell ⟨g, 2, none⟩ (.int .u8 (WW av).kd)).setCell ⟨g, 3, none⟩ (.int .u8 (WW av).ask.m)) from HN.out.setG HF.out HN.out.gA 3 (.int .u8 (WW av).ask.m))
      replace HS8 := hidB (show w5.heap.size ≤ ((wd.setCell ⟨g, 2, none⟩ (.int .u8 (WW av).kd)).setCell ⟨g, 3, none⟩ (.int .u8 (WW av).ask.m)).heap.size by have := HS8.out; simpa [World.setCell] using this)
      clear y1 f1
      refine hK.out _ _ ⟨_, HN.out, HP.out⟩ (fun _ => ?_)
      clear hK K
      try simp only [Act.put, List.setIfInBounds_toArray, List.set_cons_zero, List.set_cons_succ]
      refine wpAnyH_done (by kernel_rfl) ?_ _
      refine NoPanic.normal ?_
      generalize hW : ((wd.setCell ⟨g, 2, none⟩ (.int .u8 (WW av).kd)).setCell ⟨g, 3, none⟩ (.int .u8 (WW av).ask.m)) = w8 at *
      clear hW
      have RB := hidB HN.out.R
      have HSZ8 := hidB (show w5.heap.size ≤ w8.heap.size from HS8.out)
      go_wp2_with (first | ((with_reducible refine ldId 51 (.tmp 96) ?_); refine wpList_load_mid (by rfl) 51 (.tmp 96) (by rfl) (gP) 2 (by rfl) ((WW av).cs.toList) _ (by exact Bk.mid HP.out 2 _ rfl) Tryz.underlying51 (by rfl) (by kernel_rfl) ?_) | ((with_reducible refine stId 51 (.tmp 4) (.tmp 97) ?_); refine wpList_store_row (by rfl) 51 (.tmp 4) (.tmp 97) (by rfl) (w.heap.size + 1) ((WW av).cs) (by rfl) (by rfl) 51 (WI.zero.cs) (by exact RB.out) (by kernel_rfl) (by rfl) (by exact HONE.out) ?_))
      have HFIN := hidB (HN.out.fin HF.out (WW av).cs)
      exact bodyPost_ret (v := .tuple #[.agg ((WW av).cs), .int .i64 0]) (results_row2 Tryz.results220 _ _ (w.heap.size + 1) 51 ((WW av).cs) (0, 0) _ rfl (RB.out.setRow _) Tryz.underlying51 rfl (by kernel_rfl)) rfl (show NextR S fn caps E Cap g A L w _ _ from ⟨WW av, w5.heap.size, rfl, by have h1 := HG5.out; have h2 := HP4.out; omega, by rw [hS]; exact ⟨av, rfl, own_setRow HO.out (by have h1 := HG5.out; have h2 := HP4.out; omega) _⟩, HFIN.out.2.2, by rw [hS]; exact ⟨HFIN.out.2.1, fun k h => .inl (HN.out.eA k h), .inl HN.out.gA, fun k h => by (have h1 := HG5.out; have h2 := HP4.out; have h3 := HSZ8.out; simp only [size_setRow]; rcases h with h | h; (have := HN.out.lt k h; omega); omega), ⟨HLEN.out, (.slice qa na ca), (by rw [hS]; show Bk _ g 172 (machC fn caps (.slice qa na ca) (WW vNil).kd (WW vNil).ask.m true false); rw [← HKM1.out, ← HKM2.out]; exact HFIN.out.1), (HA.out.setRowW HN.out.R _).wider (fun k h => by rcases h with h | h; exact .inl h; exact .inr ⟨h.1, Nat.lt_trans h.2 HG5.out⟩)⟩⟩⟩)

end Go.Proofs.YtbmaodlghglopaaGreatDoor
