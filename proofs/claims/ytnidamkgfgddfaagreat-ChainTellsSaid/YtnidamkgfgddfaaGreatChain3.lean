/-
  Proxies in one another: chain.Deep, IsArray.
-/
import Derived.Test.YtnidamkgfgddfaaGreatChain2
namespace Go.Proofs.YtnidamkgfgddfaaGreat
open Go.RowKit

def deepV (h : HI) (n : Int) : Int := if askE h [n] = 0 then ((dwn h n.toNat).length : Int) + (if cutB h n.toNat then 1 else 0) else 0
def arrE (h : HI) (n : Int) : Int := if askE h [n] = 0 then (if cutB h n.toNat || decide (64 < (dwn h n.toNat).length) then 140 else 0) else askE h [n]
def arrV (h : HI) (n : Int) : Bool := if arrE h n = 0 then (objAt h (lst h n.toNat)).kd == 2 else false
theorem run_append_nilC {P : Program} {w : World} (base : Nat) (t ty e : TypeId) (i : TypeInfo) (size : Nat) (ht : P.underlying t = some (.slice e)) (hi : P.info? e = some i)
    (v : Value) (n : Nat) (xs : List Value) (hown : w.ownsRow base e size v n xs) (c : Nat) : (Builtin.append_ #[t, t] ty #[v, .slice none 0 c]).run P w = .ok v w := by
  rcases hown.2 with ⟨rfl, rfl⟩ | ⟨g, cap, cur, rfl, _, _, hnc, _⟩
  · simp [Builtin.append_, run_underlying ht, sizeOf, typeInfo, hi, Builtin.lenOf, Builtin.firstCells]
  · simp [Builtin.append_, run_underlying ht, sizeOf, typeInfo, hi, Builtin.lenOf, Builtin.firstCells, hnc, storeCells]
/-- One owned row put behind another. -/
theorem wp_append_rows {P : Program} {w : World} {o : Oper} {a : Act} {K : Act → World → Prop} {Q : Exit → Act → World → Prop} (s x : Operand) (t : TypeId)
    (ho : o.op = .call { callee := .builtin .append, args := #[s, x], argTypes := #[t, t] })
    (base : Nat) (e : TypeId) (i : TypeInfo) (z : Value) (size bytes : Nat) (ht : P.underlying t = some (.slice e)) (hi : P.info? e = some i) (hz : i.zero = some z)
    (hsize : i.size = size) (hby : i.bytes = bytes) (hzs : z.cells.size = size) (hsz : 0 < size)
    (v : Value) (n : Nat) (xs : List Value) (hs : a.eval s = v) (hown : w.ownsRow base e size v n xs)
    (u : Value) (m base2 : Nat) (news : List Value) (hx : a.eval x = u) (hu : w.ownsRow base2 e size u m news) (h1 : ∀ u ∈ news, u.oneCell' = true)
    (h63 : n + m ≤ maxLen) (hbytes : (n + m) * bytes ≤ 140737488355328) (hbase : base ≤ w.heap.size)
    (h : ∀ v' w', w'.ownsRow base e size v' (n + m) (xs ++ news) → w.grownBy w' v.ownBlock → K (a.put o.dst v') w') : o.wp P a w K Q := by
  rcases hu.2 with ⟨rfl, rfl⟩ | ⟨g, cap, cur, rfl, hb, hg, _⟩
  · have hn : news = [] := List.eq_nil_of_length_eq_zero (by simpa using hu.1)
    subst hn
    have hrun := run_append_nilC (P := P) base t o.type e i size ht hi v n xs hown 0
    unfold Oper.wp execOp
    simp only [ho, resolve, invoke, builtin, Sem.run_bind, Sem.run_pure, Result.andThen_ok, List.map_toArray, List.map_cons, List.map_nil, hs, hx, hrun]
    exact h v w (by simpa using hown) (World.grownBy.refl w _)
  · exact wp_append_own w s x t ho base e i z size bytes ht hi hz hsize hby hzs hsz v n xs hs hown ⟨g, 0, none⟩ m cap news hx hu.1 (hu.cells (g := g) rfl) h1 h63 hbytes hbase fun v' w' h2 h3 _ => h v' w' h2 h3
theorem nats_one (l : List Nat) : ∀ u ∈ nats l, u.oneCell' = true := by
  intro u hu
  obtain ⟨i, _, rfl⟩ := List.mem_map.1 hu
  rfl
theorem own_new1 (w : World) (n : Int) : (w.alloc (.cells #[.int .i64 n] 3)).ownsRow w.heap.size 3 1 (.slice (some ⟨w.heap.size, 0, none⟩) 1 1) 1 [.int .i64 n] :=
  ⟨rfl, Or.inr ⟨w.heap.size, 1, _, rfl, Nat.le_refl _, (MapKept.heap_alloc w _).1, Nat.le_refl _, by unfold maxLen; omega, rfl, rfl⟩⟩
theorem own_some {w : World} {b : Nat} {e : TypeId} {sz : Nat} {v : Value} {n : Nat} {xs : List Value} (h : w.ownsRow b e sz v n xs) (h0 : 0 < n) : ∃ g c, v = .slice (some ⟨g, 0, none⟩) n c := by
  rcases h.2 with ⟨_, rfl⟩ | ⟨g, cap, cur, rfl, _⟩
  · omega
  · exact ⟨g, cap, rfl⟩
theorem own_at {w : World} {b : Nat} {e : TypeId} {sz g n c j : Nat} {xs : List Value} {u : Value} (h : w.ownsRow b e sz (.slice (some ⟨g, 0, none⟩) n c) n xs) (hu : xs[j]? = some u) : w.cell? ⟨g, j, none⟩ = some u := by
  have := World.ownsRow.cells h (g := g) rfl j u hu
  rwa [Addr.add_mid, Nat.zero_add] at this
theorem nats_cons (n : Nat) (l : List Nat) : nats (n :: l) = [.int .i64 (n : Int)] ++ nats l := rfl

set_option maxHeartbeats 8000000 in
set_option maxRecDepth 100000 in
theorem deep_heap (h : HI) (hok : HOk h) (hk : HKeys h) (hv : Value) (n : Int) (w : World) (hr : RdH h hv w) : Calls Tryz.prog 14 #[.agg #[hv], .int .i64 n] w fun e w' => e = .returned (.tuple #[.int .i64 (deepV h n), .int .i64 (askE h [n])]) ∧ Below w.heap.size w w' := by
  have HLM := hidB (show askE h [n] = 0 → (dwn h n.toNat).length ≤ 4096 by
      intro e
      obtain ⟨hc, h0, h1⟩ := askE_ok e
      have hc := chkH_ok hc
      have := (dwn_all (fall_of hc.2.1) n.toNat (by omega)).2.2.2.1
      omega)
  have HRD := hidB (fun W (hb : Below w.heap.size w W) => hr.on hb)
  have HOK := hidB hok
  have HKY := hidB hk
  obtain ⟨⟨pa, c, rfl, h1, h2, _⟩, _⟩ := hr
  unfold maxLen at h2
  have hlm : h.length ≤ 9223372036854775807 := by omega
  clear hok hk h1 h2
  have Y := hidB (show Bk (w.alloc (.cells (#[(.slice pa h.length c)]) 24)) (w.heap.size) 24 (#[(.slice pa h.length c)]) from Bk.new w _ _)
  have B := hidB (show Below w.heap.size w (w.alloc (.cells (#[(.slice pa h.length c)]) 24)) from box_one w _)
  go_enter Tryz.func14, Tryz.ntmps14
  go_upto_region 1 with fail
  generalize hW : (w.alloc (.cells (#[(.slice pa h.length c)]) 24)) = w1 at *
  clear hW
  go_wp2_with (first | ((with_reducible refine ldId 24 (.tmp 2) ?_); refine wpList_load_row (by rfl) 24 (.tmp 2) (by rfl) (w.heap.size) (by rfl) 24 (#[(.slice pa h.length c)]) (0, 0) _ (by exact Y.out) Tryz.underlying24 (by rfl) (by kernel_rfl) ?_))
  refine (down_heap h HOK.out HKY.out (.slice pa h.length c) n _ (HRD.out _ B.out)).mono ?_; rintro e w2 ⟨hb, ⟨hne, rfl⟩ | ⟨h0, v, rfl, hown⟩⟩
  · have HQ := hidB (show deepV h n = 0 by unfold deepV; rw [if_neg hne])
    replace B := hidB (B.out.trans (hb.mono B.out.size))
    clear hb hne
    obtain ⟨ck, hck⟩ : ∃ ck, askE h [n] = ck := ⟨_, rfl⟩
    have HCK := hidB hck
    rw [hck]
    clear hck
    go_wp2_with fail
    go_ret2
    exact ⟨by rw [HQ.out, HCK.out]; rfl, B.out⟩
  have H0 := hidB h0
  have hlen := HLM.out h0
  replace B := hidB (B.out.trans (hb.mono B.out.size))
  obtain ⟨q, cc, rfl⟩ := own_sliceH hown
  clear hb h0 hown
  have HQ := hidB (show deepV h n = ((dwn h n.toNat).length : Int) + (if cutB h n.toNat then 1 else 0) by unfold deepV; rw [if_pos H0.out])
  generalize (dwn h n.toNat).length = L at *
  generalize cutB h n.toNat = b at *
  cases b
  · go_wp2_with fail
    go_ret2
    exact ⟨by rw [HQ.out, H0.out]; first | rfl | (simp; done), B.out⟩
  · go_wp2_with fail
    go_ret2
    exact ⟨by rw [HQ.out, H0.out]; first | rfl | (simp; done), B.out⟩
set_option maxHeartbeats 8000000 in
set_option maxRecDepth 100000 in
theorem isarr_heap (h : HI) (hok : HOk h) (hk : HKeys h) (hv : Value) (n : Int) (w : World) (hr : RdH h hv w) : Calls Tryz.prog 12 #[.agg #[hv], .int .i64 n] w fun e w' => e = .returned (.tuple #[.bool (arrV h n), .int .i64 (arrE h n)]) ∧ Below w.heap.size w w' := by
  have HRD := hidB (fun W (hb : Below w.heap.size w W) => hr.on hb)
  have HOK := hidB hok
  have HKY := hidB hk
  obtain ⟨⟨pa, c, rfl, h1, h2, _⟩, _⟩ := hr
  unfold maxLen at h2
  have hlm : h.length ≤ 9223372036854775807 := by omega
  clear hok hk h1 h2
  have Y := hidB (show Bk (w.alloc (.cells (#[(.slice pa h.length c)]) 24)) (w.heap.size) 24 (#[(.slice pa h.length c)]) from Bk.new w _ _)
  have B := hidB (show Below w.heap.size w (w.alloc (.cells (#[(.slice pa h.length c)]) 24)) from box_one w _)
  go_enter Tryz.func12, Tryz.ntmps12
  go_upto_region 1 with fail
  generalize hW : (w.alloc (.cells (#[(.slice pa h.length c)]) 24)) = w1 at *
  clear hW
  go_wp2_with (first | ((with_reducible refine ldId 24 (.tmp 2) ?_); refine wpList_load_row (by rfl) 24 (.tmp 2) (by rfl) (w.heap.size) (by rfl) 24 (#[(.slice pa h.length c)]) (0, 0) _ (by exact Y.out) Tryz.underlying24 (by rfl) (by kernel_rfl) ?_))
  refine (down_heap h HOK.out HKY.out (.slice pa h.length c) n _ (HRD.out _ B.out)).mono ?_; rintro e w2 ⟨hb, ⟨hne, rfl⟩ | ⟨h0, v, rfl, hown⟩⟩
  · have HQ := hidB (show arrE h n = askE h [n] by unfold arrE; rw [if_neg hne])
    have HV2 := hidB (show arrV h n = false by unfold arrV; rw [HQ.out, if_neg hne])
    replace B := hidB (B.out.trans (hb.mono B.out.size))
    clear hb
    obtain ⟨ck, hck⟩ : ∃ ck, askE h [n] = ck := ⟨_, rfl⟩
    have HCK := hidB hck
    rw [hck] at hne ⊢
    clear hck
    have h0b : (ck == 0) = false := by rw [beq_eq_false_iff_ne]; exact hne
    have h0n : (ck != 0) = true := by rw [bne, h0b]; rfl
    clear hne
    go_wp2_with fail
    go_ret2
    exact ⟨by rw [HQ.out, HV2.out, HCK.out]; rfl, B.out⟩
  have HO := hidB hown
  replace Y := hidB (Y.out.on hb)
  replace B := hidB (B.out.trans (hb.mono B.out.size))
  obtain ⟨q, cc, rfl⟩ := own_sliceH hown
  obtain ⟨hc, hn0, hn1⟩ := askE_ok h0
  obtain ⟨n, rfl⟩ : ∃ k : Nat, n = (k : Int) := ⟨n.toNat, by omega⟩
  have hn : n < h.length := by omega
  have HDA := hidB (dwn_all (fall_of (chkH_ok hc).2.1) n hn)
  have hl4 : (dwn h n).length ≤ 4096 := by have := HDA.out.2.2.2.1; have := (chkH_ok hc).1; omega
  have HE := hidB (show arrE h n = if cutB h n || decide (64 < (dwn h n).length) then 140 else 0 by unfold arrE; rw [if_pos h0, Int.toNat_natCast])
  rw [Int.toNat_natCast] at HO ⊢
  clear hb hown hc hn0 hn1 h0
  generalize hL : (dwn h n).length = L at *
  skip
  generalize cutB h n = b at *
  cases b
  rotate_left
  · have HQ := hidB (show arrE h n = 140 from HE.out)
    have HV2 := hidB (show arrV h n = false by unfold arrV; rw [HQ.out]; rfl)
    clear hL
    go_wp2_with fail
    go_ret2
    exact ⟨by rw [HQ.out, HV2.out]; rfl, B.out⟩
  by_cases h64 : 64 < L
  · have h64i : (64 : Int) < (L : Int) := by omega
    have HQ := hidB (show arrE h n = 140 by rw [HE.out, decide_eq_true h64]; rfl)
    have HV2 := hidB (show arrV h n = false by unfold arrV; rw [HQ.out]; rfl)
    clear hL h64
    go_wp2_with fail
    go_ret2
    exact ⟨by rw [HQ.out, HV2.out]; rfl, B.out⟩
  have h64i : ¬ (64 : Int) < (L : Int) := by omega
  have HQ := hidB (show arrE h n = 0 by rw [HE.out, decide_eq_false h64]; rfl)
  have HV2 := hidB (show arrV h n = ((objAt h (lst h n)).kd == 2) by unfold arrV; rw [HQ.out, if_pos rfl, Int.toNat_natCast])
  clear h64 HE
  have hlm2 : lst h n < h.length := HDA.out.1
  have HLS := hidB HDA.out.2.2.1
  have HLL := hidB hL
  clear hL HDA
  have hi0 : (0 : Int) ≤ ((lst h n) : Int) := by omega
  have hi1 : ((lst h n) : Int) < (h.length : Int) := by omega
  have HRW := HRD.out _ B.out
  obtain ⟨g, o, rfl, hgl, hrow⟩ := rd_rowH HRW hlm2
  have HPO := hidB (HRW.props _ (List.getElem_mem hlm2)).one
  have HGL := hidB hgl
  have HROW := hidB hrow
  clear hrow hgl HRW
  have HOE := hidB (objAt_lt hlm2)
  rw [← HOE.out] at HPO HROW
  replace HOE := hidB (rfl : objAt h (lst h n) = objAt h (lst h n))
  obtain ⟨e0, he⟩ : ∃ q, objAt h (lst h n) = q := ⟨_, rfl⟩
  replace HOE := hidB he
  rw [he] at HPO HROW
  try rw [he]
  clear he
  have y0 : w2.cell? ⟨w.heap.size, 0, none⟩ = some (.slice (some ⟨g, o, none⟩) h.length c) := Y.out.cell 0
  skip
  generalize lst h n = z at *
  generalize dwn h n = D at *
  go_upto_region 6 with fail
  clear h64i y0
  obtain ⟨i0, hi, hz0, hz1, hz2⟩ := info_parts info_intC
  have HCL := hidB (fun W (hb : Below w2.heap.size w2 W) => (show W.cell? ⟨g, o + z * 18, none⟩ = some (.int .u8 e0.kd) from rangeOn hb HGL.out HROW.out 0 _ rfl))
  go_cut [4, 5] from 9 to 38 (fun s4 s5 wx => s4 = .bool (e0.kd == 2) ∧ s5 = .int .i64 0 ∧ Below w2.heap.size w2 wx)
  case first =>
    refine wp_region_noPanic ?_
    refine wp_region_held_drew (S := fun W => Below w2.heap.size w2 W) (by kernel_rfl) ?_ (fun hHeld => ?_)
    · exact (Below.refl _ _).drew
    have HN := hidB (show Below w2.heap.size w2 w2.drew from (Below.refl _ _).drew)
    have HO2 := hidB (own_onH HO.out (Below.refl w2.heap.size w2).drew)
    have HS0 := hidB (show w2.heap.size ≤ w2.drew.heap.size from Nat.le_refl _)
    generalize hWd : w2.drew = wd at *
    clear hWd
    first | (refine wpAnyH_take (i := 0) (v := undef) (by simp only [List.getElem?_toArray, List.getElem?_cons_zero]; exact rfl) (by kernel_rfl) (by kernel_rfl) (by kernel_rfl) (fun _ _ _ h => h) (Or.inr ⟨?_, rfl⟩) (by assumption) ?_; (rfl); try simp only [Act.put, List.setIfInBounds_toArray, List.set_cons_zero, List.set_cons_succ]) | (refine wpAnyH_take (i := 0) (v := ?_) (by simp only [List.getElem?_toArray, List.getElem?_cons_zero]; exact rfl) (by kernel_rfl) (by kernel_rfl) (by kernel_rfl) (fun _ _ _ h => h) (Or.inl ⟨?_, ?_⟩) (by assumption) ?_; rotate_left; (rfl); (focus (intro w hSw; (try dsimp only at hSw); go_simp; try with_reducible rfl)); try simp only [Act.put, List.setIfInBounds_toArray, List.set_cons_zero, List.set_cons_succ])
    first | (refine wpAnyH_take (i := 1) (v := undef) (by simp only [List.getElem?_toArray, List.getElem?_cons_succ, List.getElem?_cons_zero]; exact rfl) (by kernel_rfl) (by kernel_rfl) (by kernel_rfl) (fun _ _ _ h => h) (Or.inr ⟨?_, rfl⟩) (by assumption) ?_; (rfl); try simp only [Act.put, List.setIfInBounds_toArray, List.set_cons_zero, List.set_cons_succ]) | (refine wpAnyH_take (i := 1) (v := ?_) (by simp only [List.getElem?_toArray, List.getElem?_cons_succ, List.getElem?_cons_zero]; exact rfl) (by kernel_rfl) (by kernel_rfl) (by kernel_rfl) (fun _ _ _ h => h) (Or.inl ⟨?_, ?_⟩) (by assumption) ?_; rotate_left; (rfl); (focus (intro W hSw; have hc0 := (show W.cell? ⟨w.heap.size, 0, none⟩ = some (.slice (some ⟨g, o, none⟩) h.length c) from (Y.out.on hSw).cell 0); clear hSw; go_simp; try with_reducible rfl)); try simp only [Act.put, List.setIfInBounds_toArray, List.set_cons_zero, List.set_cons_succ])
    first | (refine wpAnyH_take (i := 2) (v := undef) (by simp only [List.getElem?_toArray, List.getElem?_cons_succ, List.getElem?_cons_zero]; exact rfl) (by kernel_rfl) (by kernel_rfl) (by kernel_rfl) (fun _ _ _ h => h) (Or.inr ⟨?_, rfl⟩) (by assumption) ?_; (rfl); try simp only [Act.put, List.setIfInBounds_toArray, List.set_cons_zero, List.set_cons_succ]) | (refine wpAnyH_take (i := 2) (v := ?_) (by simp only [List.getElem?_toArray, List.getElem?_cons_succ, List.getElem?_cons_zero]; exact rfl) (by kernel_rfl) (by kernel_rfl) (by kernel_rfl) (fun _ _ _ h => h) (Or.inl ⟨?_, ?_⟩) (by assumption) ?_; rotate_left; (rfl); (focus (intro w hSw; (try dsimp only at hSw); go_simp; try with_reducible rfl)); try simp only [Act.put, List.setIfInBounds_toArray, List.set_cons_zero, List.set_cons_succ])
    first | (refine wpAnyH_take (i := 4) (v := undef) (by simp only [List.getElem?_toArray, List.getElem?_cons_succ, List.getElem?_cons_zero]; exact rfl) (by kernel_rfl) (by kernel_rfl) (by kernel_rfl) (fun _ _ _ h => h) (Or.inr ⟨?_, rfl⟩) (by assumption) ?_; (rfl); try simp only [Act.put, List.setIfInBounds_toArray, List.set_cons_zero, List.set_cons_succ]) | (refine wpAnyH_take (i := 4) (v := ?_) (by simp only [List.getElem?_toArray, List.getElem?_cons_succ, List.getElem?_cons_zero]; exact rfl) (by kernel_rfl) (by kernel_rfl) (by kernel_rfl) (fun _ _ _ h => h) (Or.inl ⟨?_, ?_⟩) (by assumption) ?_; rotate_left; (rfl); (focus (intro w hSw; (try dsimp only at hSw); go_simp; try with_reducible rfl)); try simp only [Act.put, List.setIfInBounds_toArray, List.set_cons_zero, List.set_cons_succ])
    first | (refine wpAnyH_take (i := 6) (v := undef) (by simp only [List.getElem?_toArray, List.getElem?_cons_succ, List.getElem?_cons_zero]; exact rfl) (by kernel_rfl) (by kernel_rfl) (by kernel_rfl) (fun _ _ _ h => h) (Or.inr ⟨?_, rfl⟩) (by assumption) ?_; (rfl); try simp only [Act.put, List.setIfInBounds_toArray, List.set_cons_zero, List.set_cons_succ]) | (refine wpAnyH_take (i := 6) (v := ?_) (by simp only [List.getElem?_toArray, List.getElem?_cons_succ, List.getElem?_cons_zero]; exact rfl) (by kernel_rfl) (by kernel_rfl) (by kernel_rfl) (fun _ _ _ h => h) (Or.inl ⟨?_, ?_⟩) (by assumption) ?_; rotate_left; (rfl); (focus (intro w hSw; (try dsimp only at hSw); go_simp; try with_reducible rfl)); try simp only [Act.put, List.setIfInBounds_toArray, List.set_cons_zero, List.set_cons_succ])
    first | (refine wpAnyH_take (i := 7) (v := undef) (by simp only [List.getElem?_toArray, List.getElem?_cons_succ, List.getElem?_cons_zero]; exact rfl) (by kernel_rfl) (by kernel_rfl) (by kernel_rfl) (fun _ _ _ h => h) (Or.inr ⟨?_, rfl⟩) (by assumption) ?_; (rfl); try simp only [Act.put, List.setIfInBounds_toArray, List.set_cons_zero, List.set_cons_succ]) | (refine wpAnyH_take (i := 7) (v := ?_) (by simp only [List.getElem?_toArray, List.getElem?_cons_succ, List.getElem?_cons_zero]; exact rfl) (by kernel_rfl) (by kernel_rfl) (by kernel_rfl) (fun _ _ _ h => h) (Or.inl ⟨?_, ?_⟩) (by assumption) ?_; rotate_left; (rfl); (focus (intro w hSw; (try dsimp only at hSw); go_simp; try with_reducible rfl)); try simp only [Act.put, List.setIfInBounds_toArray, List.set_cons_zero, List.set_cons_succ])
    refine wpAnyH_ready (rs := [3]) (by kernel_rfl) (by simp) ?_
    refine AllReadyH.cons rfl (fun K hK => ?_) AllReadyH.nil
    rw [if_pos (by kernel_rfl)]
    refine wp_buildSliceH 32 3 1 1 _ (by rfl) [(0, .int .i64 (n : Int))] (by kernel_rfl) (.int .i64 0) #[.int .i64 (n : Int)] Tryz.underlying32 (by kernel_rfl) (by decide) (by decide) (by kernel_rfl) ?_
    have HA := hidB (own_new1 wd (n : Int))
    replace HO2 := hidB (own_onH HO2.out (box_one wd (.cells #[.int .i64 (n : Int)] 3)))
    replace HN := hidB (HN.out.trans ((box_one wd (.cells #[.int .i64 (n : Int)] 3)).mono HN.out.size))
    refine hK.out _ _ HN.out (fun _ => ?_)
    clear hK K
    try simp only [Act.put, List.setIfInBounds_toArray, List.set_cons_zero, List.set_cons_succ]
    generalize hWn : (wd.alloc (.cells #[.int .i64 (n : Int)] 3)) = w6 at *
    clear hWn
    generalize hGn : wd.heap.size = gN at *
    have hgN : w2.heap.size ≤ gN := hGn ▸ HS0.out
    have hgN6 : gN < w6.heap.size := (HA.out.lt gN rfl).2
    clear hGn
    refine wpAnyH_ready (rs := [5]) (by kernel_rfl) (by simp) ?_
    refine AllReadyH.cons rfl (fun K hK => ?_) AllReadyH.nil
    rw [if_pos (by kernel_rfl)]
    refine wp_append_rows (P := Tryz.prog) (.tmp 28) (.tmp 29) 32 (by rfl) gN 3 i0 (.int .i64 0) 1 8 Tryz.underlying32 hi hz0 hz1 hz2 (by rfl) (by decide) (.slice (some ⟨gN, 0, none⟩) 1 1) 1 _ (by rfl) HA.out (.slice q L cc) L _ (nats D) (by rfl) HO2.out (nats_one D) (by unfold maxLen; omega) (by omega) (Nat.le_of_lt hgN6) ?_
    intro v' w7 hown' hgrow
    replace HN := hidB (HN.out.grown hgrow HN.out.size (fun j hj => by simp [Value.ownBlock] at hj; omega))
    have hsl := own_some hown' (by omega)
    obtain ⟨g7, c7, rfl⟩ := hsl
    have HC7 := hidB (show w7.cell? ⟨g7, L, none⟩ = some (.int .i64 (z : Int)) from own_at hown' (by rw [← nats_cons, nats, List.getElem?_map, HLS.out]; rfl))
    have hL0 : (0 : Int) ≤ (L : Int) := by omega
    have hL1 : (L : Int) < 1 + (L : Int) := by omega
    clear hown' hgrow HA HO2
    refine hK.out _ _ HN.out (fun _ => ?_)
    clear hK K
    try simp only [Act.put, List.setIfInBounds_toArray, List.set_cons_zero, List.set_cons_succ]
    first | (refine wpAnyH_take (i := 8) (v := undef) (by simp only [List.getElem?_toArray, List.getElem?_cons_succ, List.getElem?_cons_zero]; exact rfl) (by kernel_rfl) (by kernel_rfl) (by kernel_rfl) (fun _ _ _ h => h) (Or.inr ⟨?_, rfl⟩) (by assumption) ?_; (rfl); try simp only [Act.put, List.setIfInBounds_toArray, List.set_cons_zero, List.set_cons_succ]) | (refine wpAnyH_take (i := 8) (v := ?_) (by simp only [List.getElem?_toArray, List.getElem?_cons_succ, List.getElem?_cons_zero]; exact rfl) (by kernel_rfl) (by kernel_rfl) (by kernel_rfl) (fun _ _ _ h => h) (Or.inl ⟨?_, ?_⟩) (by assumption) ?_; rotate_left; (rfl); (focus (intro w hSw; (try dsimp only at hSw); go_simp; try with_reducible rfl)); try simp only [Act.put, List.setIfInBounds_toArray, List.set_cons_zero, List.set_cons_succ])
    refine wpAnyH_ready (rs := [9]) (by kernel_rfl) (by simp) ?_
    refine AllReadyH.cons rfl (fun K hK => ?_) AllReadyH.nil
    have y1 := HC7.out
    go_simp
    clear y1
    refine hK.out _ _ HN.out (fun _ => ?_)
    clear hK K
    try simp only [Act.put, List.setIfInBounds_toArray, List.set_cons_zero, List.set_cons_succ]
    first | (refine wpAnyH_take (i := 10) (v := undef) (by simp only [List.getElem?_toArray, List.getElem?_cons_succ, List.getElem?_cons_zero]; exact rfl) (by kernel_rfl) (by kernel_rfl) (by kernel_rfl) (fun _ _ _ h => h) (Or.inr ⟨?_, rfl⟩) (by assumption) ?_; (rfl); try simp only [Act.put, List.setIfInBounds_toArray, List.set_cons_zero, List.set_cons_succ]) | (refine wpAnyH_take (i := 10) (v := ?_) (by simp only [List.getElem?_toArray, List.getElem?_cons_succ, List.getElem?_cons_zero]; exact rfl) (by kernel_rfl) (by kernel_rfl) (by kernel_rfl) (fun _ _ _ h => h) (Or.inl ⟨?_, ?_⟩) (by assumption) ?_; rotate_left; (rfl); (focus (intro w hSw; (try dsimp only at hSw); go_simp; try with_reducible rfl)); try simp only [Act.put, List.setIfInBounds_toArray, List.set_cons_zero, List.set_cons_succ])
    first | (refine wpAnyH_take (i := 11) (v := undef) (by simp only [List.getElem?_toArray, List.getElem?_cons_succ, List.getElem?_cons_zero]; exact rfl) (by kernel_rfl) (by kernel_rfl) (by kernel_rfl) (fun _ _ _ h => h) (Or.inr ⟨?_, rfl⟩) (by assumption) ?_; (rfl); try simp only [Act.put, List.setIfInBounds_toArray, List.set_cons_zero, List.set_cons_succ]) | (refine wpAnyH_take (i := 11) (v := ?_) (by simp only [List.getElem?_toArray, List.getElem?_cons_succ, List.getElem?_cons_zero]; exact rfl) (by kernel_rfl) (by kernel_rfl) (by kernel_rfl) (fun _ _ _ h => h) (Or.inl ⟨?_, ?_⟩) (by assumption) ?_; rotate_left; (rfl); (focus (intro w hSw; (try dsimp only at hSw); go_simp; try with_reducible rfl)); try simp only [Act.put, List.setIfInBounds_toArray, List.set_cons_zero, List.set_cons_succ])
    first | (refine wpAnyH_take (i := 12) (v := undef) (by simp only [List.getElem?_toArray, List.getElem?_cons_succ, List.getElem?_cons_zero]; exact rfl) (by kernel_rfl) (by kernel_rfl) (by kernel_rfl) (fun _ _ _ h => h) (Or.inr ⟨?_, rfl⟩) (by assumption) ?_; (rfl); try simp only [Act.put, List.setIfInBounds_toArray, List.set_cons_zero, List.set_cons_succ]) | (refine wpAnyH_take (i := 12) (v := ?_) (by simp only [List.getElem?_toArray, List.getElem?_cons_succ, List.getElem?_cons_zero]; exact rfl) (by kernel_rfl) (by kernel_rfl) (by kernel_rfl) (fun _ _ _ h => h) (Or.inl ⟨?_, ?_⟩) (by assumption) ?_; rotate_left; (rfl); (focus (intro W hSw; have hc0 := (show W.cell? ⟨g, o + z * 18, none⟩ = some (.int .u8 e0.kd) from HCL.out W hSw); clear hSw; go_simp; try with_reducible rfl)); try simp only [Act.put, List.setIfInBounds_toArray, List.set_cons_zero, List.set_cons_succ])
    first | (refine wpAnyH_take (i := 13) (v := undef) (by simp only [List.getElem?_toArray, List.getElem?_cons_succ, List.getElem?_cons_zero]; exact rfl) (by kernel_rfl) (by kernel_rfl) (by kernel_rfl) (fun _ _ _ h => h) (Or.inr ⟨?_, rfl⟩) (by assumption) ?_; (rfl); try simp only [Act.put, List.setIfInBounds_toArray, List.set_cons_zero, List.set_cons_succ]) | (refine wpAnyH_take (i := 13) (v := ?_) (by simp only [List.getElem?_toArray, List.getElem?_cons_succ, List.getElem?_cons_zero]; exact rfl) (by kernel_rfl) (by kernel_rfl) (by kernel_rfl) (fun _ _ _ h => h) (Or.inl ⟨?_, ?_⟩) (by assumption) ?_; rotate_left; (rfl); (focus (intro w hSw; (try dsimp only at hSw); go_simp; try with_reducible rfl)); try simp only [Act.put, List.setIfInBounds_toArray, List.set_cons_zero, List.set_cons_succ])
    first | (refine wpAnyH_take (i := 14) (v := undef) (by simp only [List.getElem?_toArray, List.getElem?_cons_succ, List.getElem?_cons_zero]; exact rfl) (by kernel_rfl) (by kernel_rfl) (by kernel_rfl) (fun _ _ _ h => h) (Or.inr ⟨?_, rfl⟩) (by assumption) ?_; (rfl); try simp only [Act.put, List.setIfInBounds_toArray, List.set_cons_zero, List.set_cons_succ]) | (refine wpAnyH_take (i := 14) (v := ?_) (by simp only [List.getElem?_toArray, List.getElem?_cons_succ, List.getElem?_cons_zero]; exact rfl) (by kernel_rfl) (by kernel_rfl) (by kernel_rfl) (fun _ _ _ h => h) (Or.inl ⟨?_, ?_⟩) (by assumption) ?_; rotate_left; (rfl); (focus (intro w hSw; (try dsimp only at hSw); go_simp; try with_reducible rfl)); try simp only [Act.put, List.setIfInBounds_toArray, List.set_cons_zero, List.set_cons_succ])
    first | (refine wpAnyH_take (i := 15) (v := undef) (by simp only [List.getElem?_toArray, List.getElem?_cons_succ, List.getElem?_cons_zero]; exact rfl) (by kernel_rfl) (by kernel_rfl) (by kernel_rfl) (fun _ _ _ h => h) (Or.inr ⟨?_, rfl⟩) (by assumption) ?_; (rfl); try simp only [Act.put, List.setIfInBounds_toArray, List.set_cons_zero, List.set_cons_succ]) | (refine wpAnyH_take (i := 15) (v := ?_) (by simp only [List.getElem?_toArray, List.getElem?_cons_succ, List.getElem?_cons_zero]; exact rfl) (by kernel_rfl) (by kernel_rfl) (by kernel_rfl) (fun _ _ _ h => h) (Or.inl ⟨?_, ?_⟩) (by assumption) ?_; rotate_left; (rfl); (focus (intro w hSw; (try dsimp only at hSw); go_simp; try with_reducible rfl)); try simp only [Act.put, List.setIfInBounds_toArray, List.set_cons_zero, List.set_cons_succ])
    refine wpAnyH_done (by kernel_rfl) ?_ _
    refine NoPanic.normal ?_
    go_wp2_with fail
    go_meet
    case rel => exact ⟨rfl, rfl, HN.out⟩
  case rest =>
  obtain ⟨rfl, rfl, hb⟩ := hcut
  replace B := hidB (B.out.trans (hb.mono B.out.size))
  clear hb
  rw [HOE.out] at HV2
  generalize (e0.kd == 2) = bb at *
  go_wp2_with fail
  go_ret2
  exact ⟨by rw [HQ.out, HV2.out]; rfl, B.out⟩

end Go.Proofs.YtnidamkgfgddfaaGreat
