/-
  RealmFirst, walked.
-/
import Derived.Test.YtchpkopeblgifaaAlikeWalk
namespace Go.Proofs.Ytchpkopeblgifaa
open Go.RowKit

theorem own_slice {w : World} {base : Nat} {e : TypeId} {sz : Nat} {v : Value} {n : Nat} {xs : List Value} (h : w.ownsRow base e sz v n xs) (h0 : 0 < n) : ∃ g c, v = .slice (some ⟨g, 0, none⟩) n c := by
  obtain ⟨_, ⟨_, e⟩ | ⟨g, cap, cur, rfl, _⟩⟩ := h
  · omega
  · exact ⟨g, cap, rfl⟩
theorem obj_range {B k g c : Nat} {vs : Nat → Value} {w : World} (h : w.ownsRow B 43 18 (.slice (some ⟨g, 0, none⟩) 72 c) 72 (obs vs 72)) (hk : k < 72) : w.rangeAt g (k * 18) (obC k (vs k)) := fun j v hv => by
  have hj : j < 18 := by have := (List.getElem?_eq_some_iff.1 hv).1; rwa [obC_length] at this
  rw [h.cellAt (k * 18 + j) (by omega), obs_get vs 72 k j hk hj]; exact hv

theorem rows_apart {w : World} {b b' g n c m d : Nat} {xs ys : List Value} (h : w.ownsRow b 43 18 (.slice (some ⟨g, 0, none⟩) n c) n xs) (h2 : w.ownsRow b' 49 18 (.slice (some ⟨g, 0, none⟩) m d) m ys) : False := by
  obtain ⟨_, ⟨e, _⟩ | ⟨g1, cap, cur, e, _, hb, _⟩⟩ := h
  · cases e
  · obtain ⟨_, ⟨e2, _⟩ | ⟨g2, cap2, cur2, e2, _, hb2, _⟩⟩ := h2
    · cases e2
    · injection e with e3; injection e3 with e4; injection e4 with e5
      injection e2 with e6; injection e6 with e7; injection e7 with e8
      rw [← e5] at hb
      rw [← e8, hb] at hb2
      injection hb2 with q
      injection q with q1 q2
      exact absurd q2 (by decide)
theorem there_own {w : World} {b g n c : Nat} {e : TypeId} {xs : List Value} (h : w.ownsRow b e 18 (.slice (some ⟨g, 0, none⟩) n c) n xs) (hl : xs.length = n * 18) : w.there g 0 (n * 18) := fun j hj =>
  ⟨by rw [Nat.zero_add, h.cellAt j (by omega), List.getElem?_eq_getElem (by omega)]; rfl, h.frozenAt _⟩
theorem there_part {w : World} {g n : Nat} (h : w.there g 0 n) (o m : Nat) (ho : o + m ≤ n) : w.there g o m := fun j hj => by
  have := h (o + j) (by omega)
  rwa [Nat.zero_add] at this
theorem setCells_ind {Pr : World → Prop} (b : Nat) (step : ∀ (w : World) (o : Nat) (v : Value), Pr w → Pr (w.setCell ⟨b, o, none⟩ v)) : ∀ (vs : List Value) (o : Nat) (w : World), Pr w → Pr (w.setCells b o vs)
  | [], _, _, h => h
  | v :: r, o, w, h => by rw [World.setCells]; exact setCells_ind b step r (o + 1) _ (step w o v h)

theorem setCells_bk {w : World} {b : Nat} {t : TypeId} {cs : Array Value} (h : Bk w b t cs) {g : Nat} (hn : b ≠ g) (o : Nat) (vs : List Value) : Bk (w.setCells g o vs) b t cs :=
  setCells_ind (Pr := fun w => Bk w b t cs) g (fun w o v h => h.far (p := ⟨g, o, none⟩) hn v) vs o w h
theorem setCells_own {w : World} {base : Nat} {e : TypeId} {sz : Nat} {v : Value} {n : Nat} {xs : List Value} (h : w.ownsRow base e sz v n xs) {g : Nat} (hn : v.ownBlock ≠ some g) (o : Nat) (vs : List Value) : (w.setCells g o vs).ownsRow base e sz v n xs :=
  setCells_ind (Pr := fun w => w.ownsRow base e sz v n xs) g (fun w o v h => own_far (p := ⟨g, o, none⟩) h hn v) vs o w h
theorem setCells_below {w w1 : World} {B : Nat} (h : Below B w w1) {g : Nat} (hn : B ≤ g) (o : Nat) (vs : List Value) : Below B w (w1.setCells g o vs) :=
  setCells_ind (Pr := fun w1 => Below B w w1) g (fun w o v h => h.setCell (p := ⟨g, o, none⟩) hn v) vs o w1 h
theorem setCells_cell {w : World} {b i : Nat} {u : Value} (h : w.cell? ⟨b, i, none⟩ = some u) {g : Nat} (hn : b ≠ g) (o : Nat) (vs : List Value) : (w.setCells g o vs).cell? ⟨b, i, none⟩ = some u := by
  rw [World.cell?_setCells_out g vs o w ⟨b, i, none⟩ (fun e => absurd e hn)]; exact h

/-- What the two rows of objects read as, from a world on. -/
theorem rows_on {w wx : World} {b3 b4 g1 c1 g2 c2 k : Nat} {vs us : Nat → Value} (h3 : Bk wx b3 38 #[.slice (some ⟨g1, 0, none⟩) 72 c1]) (h4 : Bk wx b4 38 #[.slice (some ⟨g2, 0, none⟩) 72 c2])
    (o1 : wx.ownsRow w.heap.size 43 18 (.slice (some ⟨g1, 0, none⟩) 72 c1) 72 (obs vs 72)) (o2 : wx.ownsRow w.heap.size 43 18 (.slice (some ⟨g2, 0, none⟩) 72 c2) 72 (obs us 72)) (q1 : OwnP w.heap.size (pl k) (vs k) wx) (q2 : OwnP w.heap.size (pl k) (us k) wx) (hk : k < 72) :
    ∀ W, Below wx.heap.size wx W → (W.cell? ⟨b3, 0, none⟩ = some (.slice (some ⟨g1, 0, none⟩) 72 c1) ∧ W.cell? ⟨b4, 0, none⟩ = some (.slice (some ⟨g2, 0, none⟩) 72 c2) ∧ W.rangeAt g1 (k * 18) (obC k (vs k)) ∧ W.rangeAt g2 (k * 18) (obC k (us k)) ∧ OwnP w.heap.size (pl k) (vs k) W ∧ OwnP w.heap.size (pl k) (us k) W) := fun W hW =>
  ⟨(h3.on hW).cell 0, (h4.on hW).cell 0, obj_range (own_below o1 hW) hk, obj_range (own_below o2 hW) hk, own_below q1 hW, own_below q2 hW⟩

theorem obC_same (k : Nat) (hk : k < 72) (va vb : Value) (B1 B2 : Nat) (w : World) (ha : OwnP B1 (pl k) va w) (hb : OwnP B2 (pl k) vb w) : Calls Try.prog 17 #[.agg (obC k va).toArray, .agg (obC k vb).toArray] w fun e w' => e = .returned (.bool true) ∧ Below w.heap.size w w' :=
  obj_same (oK k) (pK k) (pR k) (kd (k : Int) != 6) (kd (k : Int) == 8) (pl k) (by have := pl_length k; omega) B1 B2 va vb w ha hb

set_option maxHeartbeats 4000000 in
set_option maxRecDepth 100000 in
theorem law_first (n : Int) (_s : (Lit.int .i64 n).wf = true) (w : World) : Calls Try.prog 4 #[.int .i64 n] w fun e w' => e = .returned (.bool true) ∧ Below w.heap.size w w' := by
  by_cases h0 : n < 0 ∨ 72 ≤ n
  · rcases (by omega : n < 0 ∨ (¬ n < 0 ∧ 72 ≤ n)) with h1 | ⟨h1, h2⟩
    all_goals
      clear h0
      go_enter Try.func4, Try.ntmps4
      go_wp2_with fail
      refine (new_any _).mono ?_; rintro e w1 ⟨v1, rfl, ⟨vs, hO, hP⟩, hb1⟩
      obtain ⟨g1, c1, rfl⟩ := own_slice hO (by decide)
      have O1 := hid hO
      have P1 := hid hP
      have Bt := hid hb1
      clear hO hP hb1
      go_wp2_with fail
      have PA0 := hid (fun i (hi : i < 72) g hg => (((P1.out i hi).lt g hg).2))
      have B3 := hid (Bk.new w1 38 #[.slice (some ⟨g1, 0, none⟩) 72 c1])
      replace O1 := hid (O1.out.alloc (.cells #[.slice (some ⟨g1, 0, none⟩) 72 c1] 38))
      replace P1 := hid (fun i hi => (P1.out i hi).alloc (.cells #[.slice (some ⟨g1, 0, none⟩) 72 c1] 38))
      replace Bt := hid (Bt.out.alloc Bt.out.size (.cells #[.slice (some ⟨g1, 0, none⟩) 72 c1] 38))
      refine (refNew_any _).mono ?_; rintro e w2 ⟨v2, rfl, ⟨us, hO, hP⟩, hb2⟩
      obtain ⟨g2, c2, rfl⟩ := own_slice hO (by decide)
      have PA := PA0
      clear PA0
      replace B3 := hid (B3.out.on hb2)
      replace O1 := hid (own_below O1.out hb2)
      replace P1 := hid (fun i hi => own_below (P1.out i hi) hb2)
      have PO := hid (show w1.heap.size + 1 ≤ g2 by have := (hO.lt g2 rfl).1; simpa using this)
      have PB := hid (fun i (hi : i < 72) g hg => (((hP i hi).lt g hg).1))
      have O2 := hid (own_base hO (Nat.le_trans Bt.out.size (Nat.le_refl _)))
      have P2 := hid (fun i hi => own_base (hP i hi) (Nat.le_trans Bt.out.size (Nat.le_refl _)))
      replace Bt := hid (grow Bt.out hb2)
      clear hO hP hb2
      have q3 : w2.cell? ⟨w1.heap.size, 0, none⟩ = some (.slice (some ⟨g1, 0, none⟩) 72 c1) := B3.out.cell 0
      have hz1 : w1.heap.size < w2.heap.size := B3.out.lt
      go_wp2_with fail
      go_ret
      exact ⟨rfl, Bt.out.alloc Bt.out.size _⟩
  · obtain ⟨k, rfl⟩ := Int.eq_ofNat_of_zero_le (by omega : 0 ≤ n)
    have hk : k < 72 := by omega
    clear h0
    have h1 : ¬ (k : Int) < 0 := by omega
    have h2 : ¬ (72 : Int) ≤ (k : Int) := by omega
    have AL := hid (fun va vb B1 B2 W ha hb => obC_same k hk va vb B1 B2 W ha hb)
    go_enter Try.func4, Try.ntmps4
    go_wp2_with fail
    refine (new_any _).mono ?_; rintro e w1 ⟨v1, rfl, ⟨vs, hO, hP⟩, hb1⟩
    obtain ⟨g1, c1, rfl⟩ := own_slice hO (by decide)
    have O1 := hid hO
    have P1 := hid hP
    have Bt := hid hb1
    clear hO hP hb1
    go_wp2_with fail
    have PA0 := hid (fun i (hi : i < 72) g hg => (((P1.out i hi).lt g hg).2))
    have B3 := hid (Bk.new w1 38 #[.slice (some ⟨g1, 0, none⟩) 72 c1])
    replace O1 := hid (O1.out.alloc (.cells #[.slice (some ⟨g1, 0, none⟩) 72 c1] 38))
    replace P1 := hid (fun i hi => (P1.out i hi).alloc (.cells #[.slice (some ⟨g1, 0, none⟩) 72 c1] 38))
    replace Bt := hid (Bt.out.alloc Bt.out.size (.cells #[.slice (some ⟨g1, 0, none⟩) 72 c1] 38))
    refine (refNew_any _).mono ?_; rintro e w2 ⟨v2, rfl, ⟨us, hO, hP⟩, hb2⟩
    obtain ⟨g2, c2, rfl⟩ := own_slice hO (by decide)
    have PA := PA0
    clear PA0
    replace B3 := hid (B3.out.on hb2)
    replace O1 := hid (own_below O1.out hb2)
    replace P1 := hid (fun i hi => own_below (P1.out i hi) hb2)
    have PO := hid (show w1.heap.size + 1 ≤ g2 by have := (hO.lt g2 rfl).1; simpa using this)
    have PB := hid (fun i (hi : i < 72) g hg => (((hP i hi).lt g hg).1))
    have O2 := hid (own_base hO (Nat.le_trans Bt.out.size (Nat.le_refl _)))
    have P2 := hid (fun i hi => own_base (hP i hi) (Nat.le_trans Bt.out.size (Nat.le_refl _)))
    replace Bt := hid (grow Bt.out hb2)
    clear hO hP hb2
    have q3 : w2.cell? ⟨w1.heap.size, 0, none⟩ = some (.slice (some ⟨g1, 0, none⟩) 72 c1) := B3.out.cell 0
    have hz1 : w1.heap.size < w2.heap.size := B3.out.lt
    go_upto_region 7 with fail
    have B4 := hid (Bk.new w2 38 #[.slice (some ⟨g2, 0, none⟩) 72 c2])
    replace B3 := hid (B3.out.alloc (.cells #[.slice (some ⟨g2, 0, none⟩) 72 c2] 38))
    replace O1 := hid (O1.out.alloc (.cells #[.slice (some ⟨g2, 0, none⟩) 72 c2] 38))
    replace P1 := hid ((P1.out k hk).alloc (.cells #[.slice (some ⟨g2, 0, none⟩) 72 c2] 38))
    replace O2 := hid (O2.out.alloc (.cells #[.slice (some ⟨g2, 0, none⟩) 72 c2] 38))
    replace P2 := hid ((P2.out k hk).alloc (.cells #[.slice (some ⟨g2, 0, none⟩) 72 c2] 38))
    replace Bt := hid (Bt.out.alloc Bt.out.size (.cells #[.slice (some ⟨g2, 0, none⟩) 72 c2] 38))
    have RR := hid (rows_on (w := w) B3.out B4.out O1.out O2.out P1.out P2.out hk)
    clear q3
    refine wp_region_noPanic ?_
    refine wp_region_held_drew (S := (fun W => W.cell? ⟨w1.heap.size, 0, none⟩ = some (.slice (some ⟨g1, 0, none⟩) 72 c1) ∧ W.cell? ⟨w2.heap.size, 0, none⟩ = some (.slice (some ⟨g2, 0, none⟩) 72 c2) ∧ W.rangeAt g1 (k * 18) (obC k (vs k)) ∧ W.rangeAt g2 (k * 18) (obC k (us k)) ∧ OwnP w.heap.size (pl k) (vs k) W ∧ OwnP w.heap.size (pl k) (us k) W)) (by kernel_rfl) ?_ (fun hHeld => ?_)
    · first | exact RR.out _ (Below.refl _ _).drew | exact RR.out _ (grow (Below.refl _ _).drew hb7)
    first | (refine wpAnyH_take (i := 0) (v := undef) (by simp only [List.getElem?_toArray, List.getElem?_cons_zero]; exact rfl) (by kernel_rfl) (by kernel_rfl) (by kernel_rfl) (fun _ _ _ h => h) (Or.inr ⟨?_, rfl⟩) (by assumption) ?_; (rfl); try simp only [Act.put, List.setIfInBounds_toArray, List.set_cons_zero, List.set_cons_succ]) | (refine wpAnyH_take (i := 0) (v := ?_) (by simp only [List.getElem?_toArray, List.getElem?_cons_zero]; exact rfl) (by kernel_rfl) (by kernel_rfl) (by kernel_rfl) (fun _ _ _ h => h) (Or.inl ⟨?_, ?_⟩) (by assumption) ?_; rotate_left; (rfl); (focus (intro w hSw; (try dsimp only at hSw); go_simp; try with_reducible rfl)); try simp only [Act.put, List.setIfInBounds_toArray, List.set_cons_zero, List.set_cons_succ])
    first | (refine wpAnyH_take (i := 1) (v := undef) (by simp only [List.getElem?_toArray, List.getElem?_cons_succ, List.getElem?_cons_zero]; exact rfl) (by kernel_rfl) (by kernel_rfl) (by kernel_rfl) (fun _ _ _ h => h) (Or.inr ⟨?_, rfl⟩) (by assumption) ?_; (rfl); try simp only [Act.put, List.setIfInBounds_toArray, List.set_cons_zero, List.set_cons_succ]) | (refine wpAnyH_take (i := 1) (v := ?_) (by simp only [List.getElem?_toArray, List.getElem?_cons_succ, List.getElem?_cons_zero]; exact rfl) (by kernel_rfl) (by kernel_rfl) (by kernel_rfl) (fun _ _ _ h => h) (Or.inl ⟨?_, ?_⟩) (by assumption) ?_; rotate_left; (rfl); (focus (intro w hSw; (try dsimp only at hSw); go_simp; try with_reducible rfl)); try simp only [Act.put, List.setIfInBounds_toArray, List.set_cons_zero, List.set_cons_succ])
    first | (refine wpAnyH_take (i := 2) (v := undef) (by simp only [List.getElem?_toArray, List.getElem?_cons_succ, List.getElem?_cons_zero]; exact rfl) (by kernel_rfl) (by kernel_rfl) (by kernel_rfl) (fun _ _ _ h => h) (Or.inr ⟨?_, rfl⟩) (by assumption) ?_; (rfl); try simp only [Act.put, List.setIfInBounds_toArray, List.set_cons_zero, List.set_cons_succ]) | (refine wpAnyH_take (i := 2) (v := ?_) (by simp only [List.getElem?_toArray, List.getElem?_cons_succ, List.getElem?_cons_zero]; exact rfl) (by kernel_rfl) (by kernel_rfl) (by kernel_rfl) (fun _ _ _ h => h) (Or.inl ⟨?_, ?_⟩) (by assumption) ?_; rotate_left; (rfl); (focus (intro w hSw; (try dsimp only at hSw); go_simp; try with_reducible rfl)); try simp only [Act.put, List.setIfInBounds_toArray, List.set_cons_zero, List.set_cons_succ])
    first | (refine wpAnyH_take (i := 3) (v := undef) (by simp only [List.getElem?_toArray, List.getElem?_cons_succ, List.getElem?_cons_zero]; exact rfl) (by kernel_rfl) (by kernel_rfl) (by kernel_rfl) (fun _ _ _ h => h) (Or.inr ⟨?_, rfl⟩) (by assumption) ?_; (rfl); try simp only [Act.put, List.setIfInBounds_toArray, List.set_cons_zero, List.set_cons_succ]) | (refine wpAnyH_take (i := 3) (v := ?_) (by simp only [List.getElem?_toArray, List.getElem?_cons_succ, List.getElem?_cons_zero]; exact rfl) (by kernel_rfl) (by kernel_rfl) (by kernel_rfl) (fun _ _ _ h => h) (Or.inl ⟨?_, ?_⟩) (by assumption) ?_; rotate_left; (rfl); (focus (intro w hSw; (try dsimp only at hSw); go_simp; try with_reducible rfl)); try simp only [Act.put, List.setIfInBounds_toArray, List.set_cons_zero, List.set_cons_succ])
    (refine wpAnyH_take (i := 4) (v := .agg (obC k (vs k)).toArray) (by simp only [List.getElem?_toArray, List.getElem?_cons_succ, List.getElem?_cons_zero]; exact rfl) (by kernel_rfl) (by kernel_rfl) (by kernel_rfl) (fun _ _ _ h => h) (yieldsIf_load_mid (by rfl) 43 (.tmp 28) (by rfl) (g1) (k * 18) (by rfl) (obC k (vs k)) _ (fun w hS => hS.2.2.1) Try.underlying43 (by rfl) (by kernel_rfl)) (by assumption) ?_; try simp only [Act.put, List.setIfInBounds_toArray, List.set_cons_zero, List.set_cons_succ])
    first | (refine wpAnyH_take (i := 5) (v := undef) (by simp only [List.getElem?_toArray, List.getElem?_cons_succ, List.getElem?_cons_zero]; exact rfl) (by kernel_rfl) (by kernel_rfl) (by kernel_rfl) (fun _ _ _ h => h) (Or.inr ⟨?_, rfl⟩) (by assumption) ?_; (rfl); try simp only [Act.put, List.setIfInBounds_toArray, List.set_cons_zero, List.set_cons_succ]) | (refine wpAnyH_take (i := 5) (v := ?_) (by simp only [List.getElem?_toArray, List.getElem?_cons_succ, List.getElem?_cons_zero]; exact rfl) (by kernel_rfl) (by kernel_rfl) (by kernel_rfl) (fun _ _ _ h => h) (Or.inl ⟨?_, ?_⟩) (by assumption) ?_; rotate_left; (rfl); (focus (intro w hSw; (try dsimp only at hSw); go_simp; try with_reducible rfl)); try simp only [Act.put, List.setIfInBounds_toArray, List.set_cons_zero, List.set_cons_succ])
    first | (refine wpAnyH_take (i := 6) (v := undef) (by simp only [List.getElem?_toArray, List.getElem?_cons_succ, List.getElem?_cons_zero]; exact rfl) (by kernel_rfl) (by kernel_rfl) (by kernel_rfl) (fun _ _ _ h => h) (Or.inr ⟨?_, rfl⟩) (by assumption) ?_; (rfl); try simp only [Act.put, List.setIfInBounds_toArray, List.set_cons_zero, List.set_cons_succ]) | (refine wpAnyH_take (i := 6) (v := ?_) (by simp only [List.getElem?_toArray, List.getElem?_cons_succ, List.getElem?_cons_zero]; exact rfl) (by kernel_rfl) (by kernel_rfl) (by kernel_rfl) (fun _ _ _ h => h) (Or.inl ⟨?_, ?_⟩) (by assumption) ?_; rotate_left; (rfl); (focus (intro w hSw; (try dsimp only at hSw); go_simp; try with_reducible rfl)); try simp only [Act.put, List.setIfInBounds_toArray, List.set_cons_zero, List.set_cons_succ])
    first | (refine wpAnyH_take (i := 7) (v := undef) (by simp only [List.getElem?_toArray, List.getElem?_cons_succ, List.getElem?_cons_zero]; exact rfl) (by kernel_rfl) (by kernel_rfl) (by kernel_rfl) (fun _ _ _ h => h) (Or.inr ⟨?_, rfl⟩) (by assumption) ?_; (rfl); try simp only [Act.put, List.setIfInBounds_toArray, List.set_cons_zero, List.set_cons_succ]) | (refine wpAnyH_take (i := 7) (v := ?_) (by simp only [List.getElem?_toArray, List.getElem?_cons_succ, List.getElem?_cons_zero]; exact rfl) (by kernel_rfl) (by kernel_rfl) (by kernel_rfl) (fun _ _ _ h => h) (Or.inl ⟨?_, ?_⟩) (by assumption) ?_; rotate_left; (rfl); (focus (intro w hSw; (try dsimp only at hSw); go_simp; try with_reducible rfl)); try simp only [Act.put, List.setIfInBounds_toArray, List.set_cons_zero, List.set_cons_succ])
    first | (refine wpAnyH_take (i := 8) (v := undef) (by simp only [List.getElem?_toArray, List.getElem?_cons_succ, List.getElem?_cons_zero]; exact rfl) (by kernel_rfl) (by kernel_rfl) (by kernel_rfl) (fun _ _ _ h => h) (Or.inr ⟨?_, rfl⟩) (by assumption) ?_; (rfl); try simp only [Act.put, List.setIfInBounds_toArray, List.set_cons_zero, List.set_cons_succ]) | (refine wpAnyH_take (i := 8) (v := ?_) (by simp only [List.getElem?_toArray, List.getElem?_cons_succ, List.getElem?_cons_zero]; exact rfl) (by kernel_rfl) (by kernel_rfl) (by kernel_rfl) (fun _ _ _ h => h) (Or.inl ⟨?_, ?_⟩) (by assumption) ?_; rotate_left; (rfl); (focus (intro w hSw; (try dsimp only at hSw); go_simp; try with_reducible rfl)); try simp only [Act.put, List.setIfInBounds_toArray, List.set_cons_zero, List.set_cons_succ])
    (refine wpAnyH_take (i := 9) (v := .agg (obC k (us k)).toArray) (by simp only [List.getElem?_toArray, List.getElem?_cons_succ, List.getElem?_cons_zero]; exact rfl) (by kernel_rfl) (by kernel_rfl) (by kernel_rfl) (fun _ _ _ h => h) (yieldsIf_load_mid (by rfl) 43 (.tmp 33) (by rfl) (g2) (k * 18) (by rfl) (obC k (us k)) _ (fun w hS => hS.2.2.2.1) Try.underlying43 (by rfl) (by kernel_rfl)) (by assumption) ?_; try simp only [Act.put, List.setIfInBounds_toArray, List.set_cons_zero, List.set_cons_succ])
    first | (refine wpAnyH_take (i := 10) (v := undef) (by simp only [List.getElem?_toArray, List.getElem?_cons_succ, List.getElem?_cons_zero]; exact rfl) (by kernel_rfl) (by kernel_rfl) (by kernel_rfl) (fun _ _ _ h => h) (Or.inr ⟨?_, rfl⟩) (by assumption) ?_; (rfl); try simp only [Act.put, List.setIfInBounds_toArray, List.set_cons_zero, List.set_cons_succ]) | (refine wpAnyH_ready (rs := [10]) (by kernel_rfl) (by simp) ?_; refine AllReadyH.cons rfl (fun K hK => ?_) AllReadyH.nil; go_simp; (go_at_call 17; refine (AL.out _ _ _ _ _ (RR.out _ (Below.refl _ _).drew).2.2.2.2.1 (RR.out _ (Below.refl _ _).drew).2.2.2.2.2).mono ?_; rintro e w7 ⟨rfl, hb7⟩); (refine hK.out _ _ ?_ (fun hHeld => ?_); (first | exact RR.out _ (Below.refl _ _).drew | exact RR.out _ (grow (Below.refl _ _).drew hb7))); clear hK K; try simp only [Act.put, List.setIfInBounds_toArray, List.set_cons_zero, List.set_cons_succ])
    first | (refine wpAnyH_take (i := 11) (v := undef) (by simp only [List.getElem?_toArray, List.getElem?_cons_succ, List.getElem?_cons_zero]; exact rfl) (by kernel_rfl) (by kernel_rfl) (by kernel_rfl) (fun _ _ _ h => h) (Or.inr ⟨?_, rfl⟩) (by assumption) ?_; (rfl); try simp only [Act.put, List.setIfInBounds_toArray, List.set_cons_zero, List.set_cons_succ]) | (refine wpAnyH_take (i := 11) (v := ?_) (by simp only [List.getElem?_toArray, List.getElem?_cons_succ, List.getElem?_cons_zero]; exact rfl) (by kernel_rfl) (by kernel_rfl) (by kernel_rfl) (fun _ _ _ h => h) (Or.inl ⟨?_, ?_⟩) (by assumption) ?_; rotate_left; (rfl); (focus (intro w hSw; (try dsimp only at hSw); go_simp; try with_reducible rfl)); try simp only [Act.put, List.setIfInBounds_toArray, List.set_cons_zero, List.set_cons_succ])
    refine wpAnyH_done (by kernel_rfl) ?_ _
    refine NoPanic.normal ?_
    have hB7 := hid (grow (Below.refl _ _).drew hb7)
    clear hb7
    replace B3 := hid (B3.out.on hB7.out)
    replace B4 := hid (B4.out.on hB7.out)
    replace O1 := hid (own_below O1.out hB7.out)
    replace O2 := hid (own_below O2.out hB7.out)
    replace P1 := hid (own_below P1.out hB7.out)
    replace P2 := hid (own_below P2.out hB7.out)
    replace Bt := hid (grow Bt.out hB7.out)
    clear hB7
    go_wp2_with fail
    obtain ⟨pp, cc, hv, hpp⟩ := ownP_form P1.out
    have NE : Hid (∀ g, pp = some ⟨g, 0, none⟩ → (us k).ownBlock ≠ some g) := hid (fun g hg hu => by
      have h1 := PA.out k hk g (by rw [hv, hg]; rfl)
      have h2 := PB.out k hk g hu
      simp at h2
      omega)
    have NG : Hid (∀ g, pp = some ⟨g, 0, none⟩ → w.heap.size ≤ g ∧ g < w1.heap.size ∧ g1 ≠ g ∧ g2 ≠ g) := hid (fun g hg => by
      have h1 := PA.out k hk g (by rw [hv, hg]; rfl)
      have h2 := P1.out.lt g (by rw [hv, hg]; rfl)
      exact ⟨h2.1, h1, (by rintro rfl; have h3 := P1.out; rw [hv, hg] at h3; exact rows_apart O1.out h3), Nat.ne_of_gt (Nat.lt_of_lt_of_le h1 (Nat.le_of_succ_le PO.out))⟩)
    have hg6 : w7.cell? ⟨g1, k * 18 + 6, none⟩ = some (.slice pp (pl k).length cc) := by rw [obj_range O1.out hk 6 (.slice pp (pl k).length cc) (by rw [← hv]; rfl)]
    have TH : Hid (∀ g, pp = some ⟨g, 0, none⟩ → w7.there g 0 ((pl k).length * 18)) := hid (fun g hg => by
      have h3 := P1.out
      rw [hv, hg] at h3
      exact there_own h3 (prC_length _))
    have HG := hid hg6
    have HPP := hid hpp
    clear hg6 hv hpp PA PB
    go_loopw [5] (fun t wr => ∃ i : Nat, i ≤ (pl k).length ∧ t = .int .i64 i ∧ Bk wr w1.heap.size 38 #[.slice (some ⟨g1, 0, none⟩) 72 c1] ∧ wr.cell? ⟨g1, k * 18 + 6, none⟩ = some (.slice pp (pl k).length cc) ∧ (∀ g, pp = some ⟨g, 0, none⟩ → wr.there g 0 ((pl k).length * 18)) ∧
      Bk wr w2.heap.size 38 #[.slice (some ⟨g2, 0, none⟩) 72 c2] ∧ wr.ownsRow w.heap.size 43 18 (.slice (some ⟨g2, 0, none⟩) 72 c2) 72 (obs us 72) ∧ OwnP w.heap.size (pl k) (us k) wr ∧ Below w.heap.size w wr) (fun t _ => (pl k).length - (intOf t).toNat)
    case atStart => exact ⟨0, Nat.zero_le _, rfl, B3.out, HG.out, TH.out, B4.out, O2.out, P2.out, Bt.out⟩
    case round =>
      obtain ⟨i, hi, rfl, h3, hg, ht, h4, ho, hp, hb⟩ := hrel
      clear HG TH O1 P1
      replace B3 := hid h3
      replace B4 := hid h4
      replace O2 := hid ho
      replace P2 := hid hp
      replace Bt := hid hb
      have TH := hid ht
      have HG := hid hg
      clear h3 ht h4 ho hp hb hg
      have hq3 : wr.cell? ⟨w1.heap.size, 0, none⟩ = some (.slice (some ⟨g1, 0, none⟩) 72 c1) := B3.out.cell 0
      have hq6 : wr.cell? ⟨g1, k * 18 + 6, none⟩ = some (.slice pp (pl k).length cc) := HG.out
      have hl := pl_length k
      generalize hlen : (pl k).length = len at *
      have HLEN := hid hlen
      clear hlen
      by_cases hlt : i < len
      · obtain ⟨gp, rfl⟩ := HPP.out (by omega)
        obtain ⟨n1, n2, n3, n4⟩ := NG.out gp rfl
        have hne := NE.out gp rfl
        have hth := there_part (TH.out gp rfl) (i * 18) 18 (by omega)
        have HT := hid hth
        have HN := hid hne
        clear hth hne
        have QQ : Hid (Bk (wr.setCells gp (i * 18) zeroProp.toList) w1.heap.size 38 #[.slice (some ⟨g1, 0, none⟩) 72 c1] ∧ (wr.setCells gp (i * 18) zeroProp.toList).cell? ⟨g1, k * 18 + 6, none⟩ = some (.slice (some ⟨gp, 0, none⟩) len cc) ∧ (∀ g, (some ⟨gp, 0, none⟩ : Option Addr) = some ⟨g, 0, none⟩ → (wr.setCells gp (i * 18) zeroProp.toList).there g 0 (len * 18)) ∧
          Bk (wr.setCells gp (i * 18) zeroProp.toList) w2.heap.size 38 #[.slice (some ⟨g2, 0, none⟩) 72 c2] ∧ (wr.setCells gp (i * 18) zeroProp.toList).ownsRow w.heap.size 43 18 (.slice (some ⟨g2, 0, none⟩) 72 c2) 72 (obs us 72) ∧ OwnP w.heap.size (pl k) (us k) (wr.setCells gp (i * 18) zeroProp.toList) ∧ Below w.heap.size w (wr.setCells gp (i * 18) zeroProp.toList)) := hid
          ⟨setCells_bk B3.out (show w1.heap.size ≠ gp by omega) _ _, setCells_cell HG.out n3 _ _, fun g hg => World.there_setCells (TH.out g hg) _ _ _, setCells_bk B4.out (show w2.heap.size ≠ gp by omega) _ _, setCells_own O2.out (fun e => n4 (Option.some.inj e)) _ _, setCells_own P2.out HN.out _ _, setCells_below Bt.out n1 _ _⟩
        clear TH O2 P2 B3 B4 HG
        go_upto_region 12 with fail
        go_wp2_with (first | (refine wpList_build_to (by rfl) 49 _ (by rfl) zeroProp (by kernel_rfl) ?_) | (refine wpList_store_mid (by rfl) 49 (.tmp 56) (.tmp 55) (by rfl) gp (i * 18) zeroProp (by rfl) (by rfl) HT.out (by kernel_rfl) (by kernel_rfl) ?_; generalize wr.setCells gp (i * 18) zeroProp.toList = wy at *))
        go_roundw
        case rel => exact ⟨i + 1, by omega, by go_num, QQ.out⟩
        case measure => simp [intOf]; omega
      · obtain rfl : i = len := by omega
        have P2' : Hid (OwnP w.heap.size (pl k) (us k) wr) := hid (by first | exact P2.out | (have h := P2.out; rw [← HLEN.out] at h; exact h))
        go_wp2_with fail
        clear TH HG P2 NE NG B3 hq3 hq6 HPP
        refine (new_any _).mono ?_; rintro e w8 ⟨v3, rfl, ⟨ts, hO, hP⟩, hb8⟩
        obtain ⟨g3, c3, rfl⟩ := own_slice hO (by decide)
        have B6 := hid (Bk.new w8 38 #[.slice (some ⟨g3, 0, none⟩) 72 c3])
        have O3 := hid ((own_base hO Bt.out.size).alloc (.cells #[.slice (some ⟨g3, 0, none⟩) 72 c3] 38))
        have P3 := hid ((own_base (hP k hk) Bt.out.size).alloc (.cells #[.slice (some ⟨g3, 0, none⟩) 72 c3] 38))
        replace B4 := hid ((B4.out.on hb8).alloc (.cells #[.slice (some ⟨g3, 0, none⟩) 72 c3] 38))
        replace O2 := hid ((own_below O2.out hb8).alloc (.cells #[.slice (some ⟨g3, 0, none⟩) 72 c3] 38))
        replace P2' := hid ((own_below P2'.out hb8).alloc (.cells #[.slice (some ⟨g3, 0, none⟩) 72 c3] 38))
        have Bt := hid (grow Bt.out hb8)
        have Bt := hid (Bt.out.alloc Bt.out.size (.cells #[.slice (some ⟨g3, 0, none⟩) 72 c3] 38))
        clear hO hP hb8
        have RR := hid (rows_on (w := w) B6.out B4.out O3.out O2.out P3.out P2'.out hk)
        go_upto_region 14 with fail
        refine wp_region_noPanic ?_
        refine wp_region_held_drew (S := (fun W => W.cell? ⟨w8.heap.size, 0, none⟩ = some (.slice (some ⟨g3, 0, none⟩) 72 c3) ∧ W.cell? ⟨w2.heap.size, 0, none⟩ = some (.slice (some ⟨g2, 0, none⟩) 72 c2) ∧ W.rangeAt g3 (k * 18) (obC k (ts k)) ∧ W.rangeAt g2 (k * 18) (obC k (us k)) ∧ OwnP w.heap.size (pl k) (ts k) W ∧ OwnP w.heap.size (pl k) (us k) W)) (by kernel_rfl) ?_ (fun hHeld => ?_)
        · first | exact RR.out _ (Below.refl _ _).drew | exact RR.out _ (grow (Below.refl _ _).drew hb7)
        first | (refine wpAnyH_take (i := 0) (v := undef) (by simp only [List.getElem?_toArray, List.getElem?_cons_zero]; exact rfl) (by kernel_rfl) (by kernel_rfl) (by kernel_rfl) (fun _ _ _ h => h) (Or.inr ⟨?_, rfl⟩) (by assumption) ?_; (rfl); try simp only [Act.put, List.setIfInBounds_toArray, List.set_cons_zero, List.set_cons_succ]) | (refine wpAnyH_take (i := 0) (v := ?_) (by simp only [List.getElem?_toArray, List.getElem?_cons_zero]; exact rfl) (by kernel_rfl) (by kernel_rfl) (by kernel_rfl) (fun _ _ _ h => h) (Or.inl ⟨?_, ?_⟩) (by assumption) ?_; rotate_left; (rfl); (focus (intro w hSw; (try dsimp only at hSw); go_simp; try with_reducible rfl)); try simp only [Act.put, List.setIfInBounds_toArray, List.set_cons_zero, List.set_cons_succ])
        first | (refine wpAnyH_take (i := 1) (v := undef) (by simp only [List.getElem?_toArray, List.getElem?_cons_succ, List.getElem?_cons_zero]; exact rfl) (by kernel_rfl) (by kernel_rfl) (by kernel_rfl) (fun _ _ _ h => h) (Or.inr ⟨?_, rfl⟩) (by assumption) ?_; (rfl); try simp only [Act.put, List.setIfInBounds_toArray, List.set_cons_zero, List.set_cons_succ]) | (refine wpAnyH_take (i := 1) (v := ?_) (by simp only [List.getElem?_toArray, List.getElem?_cons_succ, List.getElem?_cons_zero]; exact rfl) (by kernel_rfl) (by kernel_rfl) (by kernel_rfl) (fun _ _ _ h => h) (Or.inl ⟨?_, ?_⟩) (by assumption) ?_; rotate_left; (rfl); (focus (intro w hSw; (try dsimp only at hSw); go_simp; try with_reducible rfl)); try simp only [Act.put, List.setIfInBounds_toArray, List.set_cons_zero, List.set_cons_succ])
        first | (refine wpAnyH_take (i := 2) (v := undef) (by simp only [List.getElem?_toArray, List.getElem?_cons_succ, List.getElem?_cons_zero]; exact rfl) (by kernel_rfl) (by kernel_rfl) (by kernel_rfl) (fun _ _ _ h => h) (Or.inr ⟨?_, rfl⟩) (by assumption) ?_; (rfl); try simp only [Act.put, List.setIfInBounds_toArray, List.set_cons_zero, List.set_cons_succ]) | (refine wpAnyH_take (i := 2) (v := ?_) (by simp only [List.getElem?_toArray, List.getElem?_cons_succ, List.getElem?_cons_zero]; exact rfl) (by kernel_rfl) (by kernel_rfl) (by kernel_rfl) (fun _ _ _ h => h) (Or.inl ⟨?_, ?_⟩) (by assumption) ?_; rotate_left; (rfl); (focus (intro w hSw; (try dsimp only at hSw); go_simp; try with_reducible rfl)); try simp only [Act.put, List.setIfInBounds_toArray, List.set_cons_zero, List.set_cons_succ])
        first | (refine wpAnyH_take (i := 3) (v := undef) (by simp only [List.getElem?_toArray, List.getElem?_cons_succ, List.getElem?_cons_zero]; exact rfl) (by kernel_rfl) (by kernel_rfl) (by kernel_rfl) (fun _ _ _ h => h) (Or.inr ⟨?_, rfl⟩) (by assumption) ?_; (rfl); try simp only [Act.put, List.setIfInBounds_toArray, List.set_cons_zero, List.set_cons_succ]) | (refine wpAnyH_take (i := 3) (v := ?_) (by simp only [List.getElem?_toArray, List.getElem?_cons_succ, List.getElem?_cons_zero]; exact rfl) (by kernel_rfl) (by kernel_rfl) (by kernel_rfl) (fun _ _ _ h => h) (Or.inl ⟨?_, ?_⟩) (by assumption) ?_; rotate_left; (rfl); (focus (intro w hSw; (try dsimp only at hSw); go_simp; try with_reducible rfl)); try simp only [Act.put, List.setIfInBounds_toArray, List.set_cons_zero, List.set_cons_succ])
        (refine wpAnyH_take (i := 4) (v := .agg (obC k (ts k)).toArray) (by simp only [List.getElem?_toArray, List.getElem?_cons_succ, List.getElem?_cons_zero]; exact rfl) (by kernel_rfl) (by kernel_rfl) (by kernel_rfl) (fun _ _ _ h => h) (yieldsIf_load_mid (by rfl) 43 (.tmp 61) (by rfl) (g3) (k * 18) (by rfl) (obC k (ts k)) _ (fun w hS => hS.2.2.1) Try.underlying43 (by rfl) (by kernel_rfl)) (by assumption) ?_; try simp only [Act.put, List.setIfInBounds_toArray, List.set_cons_zero, List.set_cons_succ])
        first | (refine wpAnyH_take (i := 5) (v := undef) (by simp only [List.getElem?_toArray, List.getElem?_cons_succ, List.getElem?_cons_zero]; exact rfl) (by kernel_rfl) (by kernel_rfl) (by kernel_rfl) (fun _ _ _ h => h) (Or.inr ⟨?_, rfl⟩) (by assumption) ?_; (rfl); try simp only [Act.put, List.setIfInBounds_toArray, List.set_cons_zero, List.set_cons_succ]) | (refine wpAnyH_take (i := 5) (v := ?_) (by simp only [List.getElem?_toArray, List.getElem?_cons_succ, List.getElem?_cons_zero]; exact rfl) (by kernel_rfl) (by kernel_rfl) (by kernel_rfl) (fun _ _ _ h => h) (Or.inl ⟨?_, ?_⟩) (by assumption) ?_; rotate_left; (rfl); (focus (intro w hSw; (try dsimp only at hSw); go_simp; try with_reducible rfl)); try simp only [Act.put, List.setIfInBounds_toArray, List.set_cons_zero, List.set_cons_succ])
        first | (refine wpAnyH_take (i := 6) (v := undef) (by simp only [List.getElem?_toArray, List.getElem?_cons_succ, List.getElem?_cons_zero]; exact rfl) (by kernel_rfl) (by kernel_rfl) (by kernel_rfl) (fun _ _ _ h => h) (Or.inr ⟨?_, rfl⟩) (by assumption) ?_; (rfl); try simp only [Act.put, List.setIfInBounds_toArray, List.set_cons_zero, List.set_cons_succ]) | (refine wpAnyH_take (i := 6) (v := ?_) (by simp only [List.getElem?_toArray, List.getElem?_cons_succ, List.getElem?_cons_zero]; exact rfl) (by kernel_rfl) (by kernel_rfl) (by kernel_rfl) (fun _ _ _ h => h) (Or.inl ⟨?_, ?_⟩) (by assumption) ?_; rotate_left; (rfl); (focus (intro w hSw; (try dsimp only at hSw); go_simp; try with_reducible rfl)); try simp only [Act.put, List.setIfInBounds_toArray, List.set_cons_zero, List.set_cons_succ])
        first | (refine wpAnyH_take (i := 7) (v := undef) (by simp only [List.getElem?_toArray, List.getElem?_cons_succ, List.getElem?_cons_zero]; exact rfl) (by kernel_rfl) (by kernel_rfl) (by kernel_rfl) (fun _ _ _ h => h) (Or.inr ⟨?_, rfl⟩) (by assumption) ?_; (rfl); try simp only [Act.put, List.setIfInBounds_toArray, List.set_cons_zero, List.set_cons_succ]) | (refine wpAnyH_take (i := 7) (v := ?_) (by simp only [List.getElem?_toArray, List.getElem?_cons_succ, List.getElem?_cons_zero]; exact rfl) (by kernel_rfl) (by kernel_rfl) (by kernel_rfl) (fun _ _ _ h => h) (Or.inl ⟨?_, ?_⟩) (by assumption) ?_; rotate_left; (rfl); (focus (intro w hSw; (try dsimp only at hSw); go_simp; try with_reducible rfl)); try simp only [Act.put, List.setIfInBounds_toArray, List.set_cons_zero, List.set_cons_succ])
        first | (refine wpAnyH_take (i := 8) (v := undef) (by simp only [List.getElem?_toArray, List.getElem?_cons_succ, List.getElem?_cons_zero]; exact rfl) (by kernel_rfl) (by kernel_rfl) (by kernel_rfl) (fun _ _ _ h => h) (Or.inr ⟨?_, rfl⟩) (by assumption) ?_; (rfl); try simp only [Act.put, List.setIfInBounds_toArray, List.set_cons_zero, List.set_cons_succ]) | (refine wpAnyH_take (i := 8) (v := ?_) (by simp only [List.getElem?_toArray, List.getElem?_cons_succ, List.getElem?_cons_zero]; exact rfl) (by kernel_rfl) (by kernel_rfl) (by kernel_rfl) (fun _ _ _ h => h) (Or.inl ⟨?_, ?_⟩) (by assumption) ?_; rotate_left; (rfl); (focus (intro w hSw; (try dsimp only at hSw); go_simp; try with_reducible rfl)); try simp only [Act.put, List.setIfInBounds_toArray, List.set_cons_zero, List.set_cons_succ])
        (refine wpAnyH_take (i := 9) (v := .agg (obC k (us k)).toArray) (by simp only [List.getElem?_toArray, List.getElem?_cons_succ, List.getElem?_cons_zero]; exact rfl) (by kernel_rfl) (by kernel_rfl) (by kernel_rfl) (fun _ _ _ h => h) (yieldsIf_load_mid (by rfl) 43 (.tmp 66) (by rfl) (g2) (k * 18) (by rfl) (obC k (us k)) _ (fun w hS => hS.2.2.2.1) Try.underlying43 (by rfl) (by kernel_rfl)) (by assumption) ?_; try simp only [Act.put, List.setIfInBounds_toArray, List.set_cons_zero, List.set_cons_succ])
        first | (refine wpAnyH_take (i := 10) (v := undef) (by simp only [List.getElem?_toArray, List.getElem?_cons_succ, List.getElem?_cons_zero]; exact rfl) (by kernel_rfl) (by kernel_rfl) (by kernel_rfl) (fun _ _ _ h => h) (Or.inr ⟨?_, rfl⟩) (by assumption) ?_; (rfl); try simp only [Act.put, List.setIfInBounds_toArray, List.set_cons_zero, List.set_cons_succ]) | (refine wpAnyH_ready (rs := [10]) (by kernel_rfl) (by simp) ?_; refine AllReadyH.cons rfl (fun K hK => ?_) AllReadyH.nil; go_simp; (go_at_call 17; refine (AL.out _ _ _ _ _ (RR.out _ (Below.refl _ _).drew).2.2.2.2.1 (RR.out _ (Below.refl _ _).drew).2.2.2.2.2).mono ?_; rintro e w7 ⟨rfl, hb7⟩); (refine hK.out _ _ ?_ (fun hHeld => ?_); (first | exact RR.out _ (Below.refl _ _).drew | exact RR.out _ (grow (Below.refl _ _).drew hb7))); clear hK K; try simp only [Act.put, List.setIfInBounds_toArray, List.set_cons_zero, List.set_cons_succ])
        first | (refine wpAnyH_take (i := 11) (v := undef) (by simp only [List.getElem?_toArray, List.getElem?_cons_succ, List.getElem?_cons_zero]; exact rfl) (by kernel_rfl) (by kernel_rfl) (by kernel_rfl) (fun _ _ _ h => h) (Or.inr ⟨?_, rfl⟩) (by assumption) ?_; (rfl); try simp only [Act.put, List.setIfInBounds_toArray, List.set_cons_zero, List.set_cons_succ]) | (refine wpAnyH_take (i := 11) (v := ?_) (by simp only [List.getElem?_toArray, List.getElem?_cons_succ, List.getElem?_cons_zero]; exact rfl) (by kernel_rfl) (by kernel_rfl) (by kernel_rfl) (fun _ _ _ h => h) (Or.inl ⟨?_, ?_⟩) (by assumption) ?_; rotate_left; (rfl); (focus (intro w hSw; (try dsimp only at hSw); go_simp; try with_reducible rfl)); try simp only [Act.put, List.setIfInBounds_toArray, List.set_cons_zero, List.set_cons_succ])
        refine wpAnyH_done (by kernel_rfl) ?_ _
        refine NoPanic.normal ?_
        have Bt := hid (grow Bt.out (grow (Below.refl _ _).drew hb7))
        clear hb7
        go_wp2_with fail
        go_ret
        exact ⟨rfl, Bt.out⟩

end Go.Proofs.Ytchpkopeblgifaa
