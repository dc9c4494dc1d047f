/-
  The first objects may be, and hang together: the walk of RealmStands.
-/
import Derived.Test.YtchpkopeblgifaaFound
namespace Go.Proofs.Ytchpkopeblgifaa
open Go.RowKit

def kCons : KI := ⟨wConstructor, 0⟩
def kProt : KI := ⟨wPrototype, 0⟩
theorem st1 : ((List.range 72).all fun n => isN n == (oK n == 5)) = true := by decide +kernel
theorem st2 : ((List.range 72).all fun n => !isN n || (decide (n = 1) || decide (fndN 101 (nm n) = (n : Int)))) = true := by decide +kernel
theorem st2s : ((List.range 72).all fun n => decide ((nm n).size ≤ 100)) = true := by decide +kernel
theorem st3 : ((List.range 72).all fun n => decide ((findV (plI n) kCons).2.2 = 0)) = true := by decide +kernel
/-- What a constructor's prototype must be. -/
def protD (n : Nat) (d : DI × Bool × Int) : Bool := decide (d.2.2 = 0) && (d.2.1 && (decide (d.1.v.r = (n : Int)) && (!d.1.wr && !d.1.cf)))
theorem st4 : ((List.range 72).all fun n => !(findV (plI n) kCons).2.1 || (decide (0 ≤ (findV (plI n) kCons).1.v.r) && (decide ((findV (plI n) kCons).1.v.r < 72) && protD n (findV (plI ((findV (plI n) kCons).1.v.r.toNat)) kProt)))) = true := by decide +kernel
def dpt (n : Nat) : Nat := if n = 0 then 0 else if pR n = 0 then 1 else 2
theorem st5 : ((List.range 72).all fun n => decide (n = 0) || (isObj (pK n) && (decide (0 ≤ pR n) && (decide (pR n < 72) && decide (dpt (pR n).toNat < dpt n))))) = true := by decide +kernel
theorem dpt_le (n : Nat) : dpt n ≤ 2 := by
  unfold dpt
  split
  · omega
  · split <;> omega
theorem dpt_pos {n : Nat} (h : ¬ n = 0) : 1 ≤ dpt n := by unfold dpt; rw [if_neg h]; split <;> omega
theorem numR_nm {n : Nat} (hn : n < 72) (hi : isN n = true) {k : Int} {b : Bool} (h : NumR (nm n) k b) : b = true ∧ k = n := by
  rcases h with ⟨rfl, j, hj, rfl, _, hs⟩ | ⟨_, _, hno⟩
  · exact ⟨rfl, by rw [nm_inj hj hn hs]⟩
  · exact absurd rfl (hno n hn hi)
theorem rd_rlm {B : Nat} {w : World} {v : Value} (h : Heap1 B w v) : ∃ (vs : Nat → Value) (g cap : Nat), v = .slice (some ⟨g, 0, none⟩) 72 cap ∧ g < w.heap.size ∧ RdH (rlm vs) (.slice (some ⟨g, 0, none⟩) 72 cap) w := by
  obtain ⟨vs, hown, hP⟩ := h
  rcases hown.2 with ⟨_, h0⟩ | ⟨g, cap, cur, rfl, hb, hg, hc, hm, hs, ht⟩
  · exact absurd h0 (by decide)
  refine ⟨vs, g, cap, rfl, (hown.lt g rfl).2, ⟨_, cap, by rw [rlm_length], by rw [rlm_length]; exact hc, hm, fun _ => ⟨g, 0, rfl, (hown.lt g rfl).2, fun i hi j u hu => ?_⟩⟩, fun e he => ?_⟩
  · rw [rlm_length] at hi
    rw [rlm_at, ojR_cs] at hu
    have hj : j < 18 := (List.getElem?_eq_some_iff.1 hu).1
    have := World.ownsRow.cells hown (g := g) rfl (i * 18 + j) u (by rw [obs_get vs 72 i j hi hj]; exact hu)
    rw [Addr.add_mid] at this
    rw [Nat.zero_add]
    simpa using this
  · obtain ⟨i, hi, rfl⟩ := List.mem_map.1 he
    exact ownP_rd (hP i (List.mem_range.1 hi))
theorem rlm_ok (vs : Nat → Value) : HOk (rlm vs) := fun e he => by
  obtain ⟨i, hi, rfl⟩ := List.mem_map.1 he
  have hi := List.mem_range.1 hi
  refine ⟨⟨?_, ?_, Int.le_refl 0, Int.le_refl 0⟩, plI_ok hi⟩
  · show 0 ≤ oK i; unfold oK; split <;> decide
  · show 0 ≤ pK i; unfold pK; split
    · decide
    · split
      · decide
      · split <;> decide
theorem nsz : ((List.range 72).all fun n => (pl n).all fun r => decide (r.name.size ≤ 4096)) = true := by decide +kernel
theorem rlm_keys (vs : Nat → Value) : HKeys (rlm vs) := fun e he q hq => by
  obtain ⟨i, hi, rfl⟩ := List.mem_map.1 he
  obtain ⟨r, hr, rfl⟩ := List.mem_map.1 hq
  have := List.all_eq_true.1 (at24 (f := fun n => (pl n).all fun r => decide (r.name.size ≤ 4096)) nsz (List.mem_range.1 hi)) r hr
  have h2 : r.name.size ≤ 4096 := by simpa using this
  show r.name.size ≤ maxLen
  unfold maxLen; omega
theorem rd_row {h : HI} {g o n c : Nat} {w : World} (hr : RdH h (.slice (some ⟨g, o, none⟩) n c) w) {i : Nat} (hi : i < h.length) : w.rangeAt g (o + i * 18) (h[i]'hi).1.cs.toList := by
  obtain ⟨⟨pa, c', hv, _, _, h3⟩, _⟩ := hr
  obtain ⟨g', o', rfl, _, hrow⟩ := h3 (by omega)
  simp only [Value.slice.injEq, Option.some.injEq, Addr.mk.injEq] at hv
  obtain ⟨⟨rfl, rfl, _⟩, _⟩ := hv
  exact hrow i hi
theorem rlm_row {vs : Nat → Value} {g c : Nat} {w : World} (hr : RdH (rlm vs) (.slice (some ⟨g, 0, none⟩) 72 c) w) (hg : g < w.heap.size) {i : Nat} (hi : i < 72) {W : World} (hb : Below w.heap.size w W) : W.rangeAt g (i * 18) (ojR i (vs i)).cs.toList := by
  have hl : i < (rlm vs).length := by rw [rlm_length]; exact hi
  have := rangeOn hb hg (rd_row hr hl)
  rw [rlm_at, Nat.zero_add] at this
  exact this
theorem rlm_rd {vs : Nat → Value} {v : Value} {w : World} (hr : RdH (rlm vs) v w) {i : Nat} (hi : i < 72) : RdP (plI i) (vs i) w := by
  have hl : i < (rlm vs).length := by rw [rlm_length]; exact hi
  have := hr.props _ (List.getElem_mem hl)
  rwa [rlm_at] at this
theorem chk_rlm (vs : Nat → Value) : chkH (rlm vs) = 0 := chkH_of (by rw [rlm_length]; decide) (by rw [rlm_length]; exact all_rlm vs) (lp_rlm vs)

set_option maxHeartbeats 8000000 in
set_option maxRecDepth 100000 in
theorem law_rstands (n : Int) (w : World) : Calls Try.prog 6 #[.int .i64 n] w fun e w' => e = .returned (.bool true) ∧ Below w.heap.size w w' := by
  go_enter Try.func6, Try.ntmps6
  go_wp2_with fail
  refine (new_any _).mono ?_; rintro e w2 ⟨v, rfl, hh, hb⟩
  obtain ⟨vs, g, c, rfl, hgl, hr⟩ := rd_rlm hh
  have HR := hidB hr
  have HGL := hidB hgl
  clear hh hr hgl
  have Y := hidB (show Bk (w2.alloc (.cells #[(.slice (some ⟨g, 0, none⟩) 72 c)] 38)) w2.heap.size 38 #[(.slice (some ⟨g, 0, none⟩) 72 c)] from Bk.new w2 _ _)
  have B := hidB (show Below w.heap.size w (w2.alloc (.cells #[(.slice (some ⟨g, 0, none⟩) 72 c)] 38)) from hb.alloc hb.size _)
  replace HR := hidB (HR.out.on (box_one w2 (.cells #[(.slice (some ⟨g, 0, none⟩) 72 c)] 38)))
  replace HGL := hidB (show g < (w2.alloc (.cells #[(.slice (some ⟨g, 0, none⟩) 72 c)] 38)).heap.size from Nat.lt_of_lt_of_le HGL.out (box_one w2 _).size)
  clear hb
  go_upto_region 2 with (refine wpList_store_new (by rfl) 38 (.tmp 3) (.tmp 21) (by rfl) #[(.slice (some ⟨g, 0, none⟩) 72 c)] 38 _ (by rfl) (by rfl) (by kernel_rfl) (by rfl) (by rfl) ?_)
  generalize hW : (w2.alloc (.cells #[(.slice (some ⟨g, 0, none⟩) 72 c)] 38)) = w3 at *
  generalize hG : w2.heap.size = gh at *
  clear hW hG
  go_wp2_with fail
  refine (alive24_any _).mono ?_; rintro e w4 ⟨rfl, hb⟩
  replace Y := hidB (Y.out.on hb)
  replace B := hidB (B.out.trans (hb.mono B.out.size))
  replace HR := hidB (HR.out.on hb)
  replace HGL := hidB (Nat.lt_of_lt_of_le HGL.out hb.size)
  clear hb
  go_wp2_with (first | ((with_reducible refine ldId 38 (.tmp 3) ?_); refine wpList_wload_mid 38 (.tmp 3) (by rfl) (by rfl) (gh) 0 (by rfl) ([(.slice (some ⟨g, 0, none⟩) 72 c)]) _ (by exact Bk.mid Y.out 0 _ rfl) Try.underlying38 (by rfl) (by kernel_rfl) ?_))
  refine (chk_any (rlm vs) (rlm_ok vs) (rlm_keys vs) _ _ HR.out).mono ?_; rintro e w5 ⟨rfl, hb⟩
  rw [chk_rlm]
  replace Y := hidB (Y.out.on hb)
  replace B := hidB (B.out.trans (hb.mono B.out.size))
  replace HR := hidB (HR.out.on hb)
  replace HGL := hidB (Nat.lt_of_lt_of_le HGL.out hb.size)
  clear hb
  have y0 : w5.cell? ⟨gh, 0, none⟩ = some (.slice (some ⟨g, 0, none⟩) 72 c) := Y.out.cell 0
  by_cases hn : 0 ≤ n ∧ n < 72
  rotate_left
  · have hni : isN n = false := by unfold isN; simp; omega
    have HNI := hidB hni
    clear hni
    by_cases h0 : n < 0
    · go_wp2_with fail
      refine (native_any n _).mono ?_; rintro e w6 ⟨rfl, hb⟩
      rw [HNI.out]
      replace B := hidB (B.out.trans (hb.mono B.out.size))
      clear hb
      go_wp2_with fail
      go_ret
      exact ⟨rfl, B.out⟩
    · have h7 : 72 ≤ n := by omega
      go_wp2_with fail
      refine (native_any n _).mono ?_; rintro e w6 ⟨rfl, hb⟩
      rw [HNI.out]
      replace B := hidB (B.out.trans (hb.mono B.out.size))
      clear hb
      go_wp2_with fail
      go_ret
      exact ⟨rfl, B.out⟩
  obtain ⟨k, rfl⟩ : ∃ k : Nat, n = (k : Int) := ⟨n.toNat, by omega⟩
  have hk : k < 72 := by omega
  clear hn
  have hk0 : (0 : Int) ≤ (k : Int) := by omega
  have hk72 : (k : Int) < 72 := by omega
  have ROW := hidB (fun (i : Nat) (hi : i < 72) W (hb : Below w5.heap.size w5 W) => rlm_row HR.out HGL.out hi hb)
  have HX := hidB (ROW.out k hk w5 (Below.refl _ _))
  have RDP := hidB (fun (i : Nat) (hi : i < 72) W (hb : Below w5.heap.size w5 W) => (rlm_rd HR.out hi).on hb)
  have V1 := hidB (rlm_rd HR.out hk).one
  have X := hidB (show Bk (w5.alloc (.cells (ojR k (vs k)).cs 43)) w5.heap.size 43 (ojR k (vs k)).cs from Bk.new w5 _ _)
  have BB := hidB (show Below w5.heap.size w5 (w5.alloc (.cells (ojR k (vs k)).cs 43)) from box_one w5 _)
  go_upto_region 8 with (first | ((with_reducible refine ldId 43 (.tmp 48) ?_); refine wpList_load_mid (by rfl) 43 (.tmp 48) (by rfl) g (k * 18) (by rfl) (ojR k (vs k)).cs.toList _ (by exact HX.out) Try.underlying43 (by rfl) (by kernel_rfl) ?_) | ((with_reducible refine wpId ?_); refine wpList_store_new (by rfl) 43 (.tmp 6) (.tmp 49) (by rfl) (ojR k (vs k)).cs 43 _ (by rfl) (by rfl) (by kernel_rfl) (by rfl) (by exact OJ.one _ V1.out) ?_))
  clear y0 HX V1
  have Y6 := hidB (Y.out.alloc (.cells (ojR k (vs k)).cs 43))
  have B6 := hidB (B.out.alloc B.out.size (.cells (ojR k (vs k)).cs 43))
  have HRB := hidB (fun W (hb : Below w5.heap.size w5 W) => HR.out.on hb)
  generalize hW : (w5.alloc (.cells (ojR k (vs k)).cs 43)) = w6 at *
  generalize hG : w5.heap.size = gx at *
  clear Y B hW hG HR
  have T1 := hidB (eq_of_beq (at24 st1 hk))
  go_wp2_with fail
  refine (native_any k _).mono ?_; rintro e w7 ⟨rfl, hb⟩
  replace Y6 := hidB (Y6.out.on hb)
  replace BB := hidB (BB.out.trans (hb.mono (Nat.le_of_lt X.out.lt)))
  replace X := hidB (X.out.on hb)
  replace B6 := hidB (B6.out.trans (hb.mono B6.out.size))
  clear hb
  have x0 : w7.cell? ⟨gx, 0, none⟩ = some (.int .u8 (oK k)) := X.out.cell 0
  obtain ⟨q, hq⟩ : ∃ q, isN (k : Int) = q := ⟨_, rfl⟩
  have HQ := hidB hq
  have e5 : (oK k == 5) = q := T1.out.symm.trans hq
  rw [hq]
  obtain ⟨sn, hsn⟩ : ∃ sn, nmN (k : Int) = sn := ⟨_, rfl⟩
  have HSN := hidB hsn
  rw [hsn]
  clear hsn hq
  go_upto_if 60 with fail
  clear e5 x0
  go_cut [9, 10] from 21 to 183 (fun s9 s10 wx => Bk wx gx 43 (ojR k (vs k)).cs ∧ Bk wx gh 38 #[(.slice (some ⟨g, 0, none⟩) 72 c)] ∧ Below w.heap.size w wx ∧ Below gx w5 wx ∧ gx < wx.heap.size)
  case first => as_aux_lemma =>
    cases q
    · go_wp2_with fail
      go_meet
      case rel => exact ⟨X.out, Y6.out, B6.out, BB.out, X.out.lt⟩
    obtain rfl : sn = nm k := by rw [← HSN.out]; unfold nmN; rw [HQ.out]; rfl
    have NR := hidB (fun j b => numR_nm (k := j) (b := b) hk HQ.out)
    go_wp2_with fail
    refine (number_any (nm k) _).mono ?_; rintro e w8 ⟨j, b, rfl, hn, hb⟩
    obtain ⟨rfl, rfl⟩ := NR.out _ _ hn
    replace Y6 := hidB (Y6.out.on hb)
    replace BB := hidB (BB.out.trans (hb.mono (Nat.le_of_lt X.out.lt)))
    replace X := hidB (X.out.on hb)
    replace B6 := hidB (B6.out.trans (hb.mono B6.out.size))
    clear hb
    clear hn
    have T2 := hidB (at24 st2 hk)
    have hsz : (nm k).size < 101 := by have := at24 st2s hk; simp at this; omega
    have FO := hidB (fun W (hr : RdH (rlm vs) (.slice (some ⟨g, 0, none⟩) 72 c) W) => found_any vs (.slice (some ⟨g, 0, none⟩) 72 c) 101 (nm k) hsz (by unfold maxLen; omega) W hr)
    clear hsz
    by_cases h1 : k = 1
    · subst h1
      go_wp2_with fail
      go_meet
      case rel => exact ⟨X.out, Y6.out, B6.out, BB.out, X.out.lt⟩
    have hfn : fndN 101 (nm k) = (k : Int) := by have := T2.out; rw [show isN ((k : Nat) : Int) = true from HQ.out] at this; simpa [h1] using this
    have HFN := hidB hfn
    clear hfn
    have h1i : ((k : Int) == 1) = false := by rw [beq_eq_false_iff_ne]; omega
    have h1n : ((k : Int) != 1) = true := by rw [bne, h1i]; rfl
    clear h1
    go_wp2_with (first | ((with_reducible refine ldId 38 (.tmp 3) ?_); refine wpList_wload_mid 38 (.tmp 3) (by rfl) (by rfl) (gh) 0 (by rfl) ([(.slice (some ⟨g, 0, none⟩) 72 c)]) _ (by exact Bk.mid Y6.out 0 _ rfl) Try.underlying38 (by rfl) (by kernel_rfl) ?_))
    refine (FO.out _ (HRB.out _ BB.out)).mono ?_; rintro e w9 ⟨rfl, hb⟩
    rw [HFN.out]
    replace Y6 := hidB (Y6.out.on hb)
    replace BB := hidB (BB.out.trans (hb.mono (Nat.le_of_lt X.out.lt)))
    replace X := hidB (X.out.on hb)
    replace B6 := hidB (B6.out.trans (hb.mono B6.out.size))
    clear hb
    go_wp2_with fail
    go_meet
    case rel => exact ⟨X.out, Y6.out, B6.out, BB.out, X.out.lt⟩
  case rest =>
  obtain ⟨hX, hY, hb6, hbb, _⟩ := hcut
  replace X := hidB hX
  replace Y6 := hidB hY
  replace B6 := hidB hb6
  replace BB := hidB hbb
  clear hX hY hb6 hbb HSN HQ T1
  obtain ⟨⟨dd, bb, ee⟩, hdd⟩ : ∃ d, findV (plI k) kCons = d := ⟨_, rfl⟩
  have HDD := hidB hdd
  have T3 := at24 st3 hk
  have T4 := at24 st4 hk
  rw [hdd] at T3 T4
  obtain rfl : ee = 0 := by simpa using T3
  have T4 := hidB T4
  clear T3 hdd
  skip
  have POK := hidB (plI_ok hk)
  have RD := hidB (fun W (hb : Below wc.heap.size wc W) => RDP.out k hk W (BB.out.trans (hb.mono (Nat.le_of_lt X.out.lt))))
  have HXC := hidB (fun W (hb : Below wc.heap.size wc W) => (show W.cell? ⟨gx, 6, none⟩ = some (vs k) from (X.out.on hb).cell 6))
  go_upto_region 15 with fail
  go_cut [11, 12, 13] from 21 to 183 (fun s11 s12 s13 wx => ∃ gd, s11 = .pointer (some ⟨gd, 0, none⟩) ∧ s12 = .bool bb ∧ s13 = .int .i64 0 ∧ Bk wx gd 47 dd.cs ∧ Below wc.heap.size wc wx)
  case first =>
    refine wp_region_noPanic ?_
    refine wp_region_held_drew (S := fun W => Below wc.heap.size wc W) (by kernel_rfl) ?_ (fun hHeld => ?_)
    · exact (Below.refl _ _).drew
    generalize hWd : wc.drew = wd at *
    clear hWd
    first | (refine wpAnyH_take (i := 0) (v := undef) (by simp only [List.getElem?_toArray, List.getElem?_cons_zero]; exact rfl) (by kernel_rfl) (by kernel_rfl) (by kernel_rfl) (fun _ _ _ h => h) (Or.inr ⟨?_, rfl⟩) (by assumption) ?_; (rfl); try simp only [Act.put, List.setIfInBounds_toArray, List.set_cons_zero, List.set_cons_succ]) | (refine wpAnyH_take (i := 0) (v := ?_) (by simp only [List.getElem?_toArray, List.getElem?_cons_zero]; exact rfl) (by kernel_rfl) (by kernel_rfl) (by kernel_rfl) (fun _ _ _ h => h) (Or.inl ⟨?_, ?_⟩) (by assumption) ?_; rotate_left; (rfl); (focus (intro w hSw; (try dsimp only at hSw); go_simp; try with_reducible rfl)); try simp only [Act.put, List.setIfInBounds_toArray, List.set_cons_zero, List.set_cons_succ])
    first | (refine wpAnyH_take (i := 1) (v := undef) (by simp only [List.getElem?_toArray, List.getElem?_cons_succ, List.getElem?_cons_zero]; exact rfl) (by kernel_rfl) (by kernel_rfl) (by kernel_rfl) (fun _ _ _ h => h) (Or.inr ⟨?_, rfl⟩) (by assumption) ?_; (rfl); try simp only [Act.put, List.setIfInBounds_toArray, List.set_cons_zero, List.set_cons_succ]) | (refine wpAnyH_take (i := 1) (v := ?_) (by simp only [List.getElem?_toArray, List.getElem?_cons_succ, List.getElem?_cons_zero]; exact rfl) (by kernel_rfl) (by kernel_rfl) (by kernel_rfl) (fun _ _ _ h => h) (Or.inl ⟨?_, ?_⟩) (by assumption) ?_; rotate_left; (rfl); (focus (intro W hSw; have hc0 := (show W.cell? ⟨gx, 6, none⟩ = some (vs k) from HXC.out W hSw); clear hSw; go_simp; try with_reducible rfl)); try simp only [Act.put, List.setIfInBounds_toArray, List.set_cons_zero, List.set_cons_succ])
    refine wpAnyH_ready (rs := [2, 8]) (by kernel_rfl) (by simp) ?_
    refine AllReadyH.cons rfl (fun K hK => ?_) ?_
    · skip
      go_simp
      refine (keyOf_any wConstructor _).mono ?_; rintro e v1 ⟨rfl, hb⟩
      replace hHeld := hHeld.trans (hb.mono hHeld.size)
      clear hb
      refine hK.out _ _ hHeld (fun _ => ?_)
      clear hK K
      try simp only [Act.put, List.setIfInBounds_toArray, List.set_cons_zero, List.set_cons_succ]
      refine wpAnyH_ready (rs := [3, 8]) (by kernel_rfl) (by simp) ?_
      refine AllReadyH.cons rfl (fun K hK => ?_) ?_
      · skip
        go_simp
        refine (tfind_any (plI k) POK.out kCons (vs k) _ (RD.out _ hHeld)).mono ?_; rintro e v2 ⟨rfl, hb⟩
        rw [HDD.out]
        replace hHeld := hHeld.trans (hb.mono hHeld.size)
        clear hb
        refine hK.out _ _ hHeld (fun _ => ?_)
        clear hK K
        try simp only [Act.put, List.setIfInBounds_toArray, List.set_cons_zero, List.set_cons_succ]
        first | (refine wpAnyH_take (i := 4) (v := undef) (by simp only [List.getElem?_toArray, List.getElem?_cons_succ, List.getElem?_cons_zero]; exact rfl) (by kernel_rfl) (by kernel_rfl) (by kernel_rfl) (fun _ _ _ h => h) (Or.inr ⟨?_, rfl⟩) (by assumption) ?_; (rfl); try simp only [Act.put, List.setIfInBounds_toArray, List.set_cons_zero, List.set_cons_succ]) | (refine wpAnyH_take (i := 4) (v := ?_) (by simp only [List.getElem?_toArray, List.getElem?_cons_succ, List.getElem?_cons_zero]; exact rfl) (by kernel_rfl) (by kernel_rfl) (by kernel_rfl) (fun _ _ _ h => h) (Or.inl ⟨?_, ?_⟩) (by assumption) ?_; rotate_left; (rfl); (focus (intro w hSw; (try dsimp only at hSw); go_simp; try with_reducible rfl)); try simp only [Act.put, List.setIfInBounds_toArray, List.set_cons_zero, List.set_cons_succ])
        first | (refine wpAnyH_take (i := 5) (v := undef) (by simp only [List.getElem?_toArray, List.getElem?_cons_succ, List.getElem?_cons_zero]; exact rfl) (by kernel_rfl) (by kernel_rfl) (by kernel_rfl) (fun _ _ _ h => h) (Or.inr ⟨?_, rfl⟩) (by assumption) ?_; (rfl); try simp only [Act.put, List.setIfInBounds_toArray, List.set_cons_zero, List.set_cons_succ]) | (refine wpAnyH_take (i := 5) (v := ?_) (by simp only [List.getElem?_toArray, List.getElem?_cons_succ, List.getElem?_cons_zero]; exact rfl) (by kernel_rfl) (by kernel_rfl) (by kernel_rfl) (fun _ _ _ h => h) (Or.inl ⟨?_, ?_⟩) (by assumption) ?_; rotate_left; (rfl); (focus (intro w hSw; (try dsimp only at hSw); go_simp; try with_reducible rfl)); try simp only [Act.put, List.setIfInBounds_toArray, List.set_cons_zero, List.set_cons_succ])
        first | (refine wpAnyH_take (i := 6) (v := undef) (by simp only [List.getElem?_toArray, List.getElem?_cons_succ, List.getElem?_cons_zero]; exact rfl) (by kernel_rfl) (by kernel_rfl) (by kernel_rfl) (fun _ _ _ h => h) (Or.inr ⟨?_, rfl⟩) (by assumption) ?_; (rfl); try simp only [Act.put, List.setIfInBounds_toArray, List.set_cons_zero, List.set_cons_succ]) | (refine wpAnyH_take (i := 6) (v := ?_) (by simp only [List.getElem?_toArray, List.getElem?_cons_succ, List.getElem?_cons_zero]; exact rfl) (by kernel_rfl) (by kernel_rfl) (by kernel_rfl) (fun _ _ _ h => h) (Or.inl ⟨?_, ?_⟩) (by assumption) ?_; rotate_left; (rfl); (focus (intro w hSw; (try dsimp only at hSw); go_simp; try with_reducible rfl)); try simp only [Act.put, List.setIfInBounds_toArray, List.set_cons_zero, List.set_cons_succ])
        first | (refine wpAnyH_take (i := 7) (v := undef) (by simp only [List.getElem?_toArray, List.getElem?_cons_succ, List.getElem?_cons_zero]; exact rfl) (by kernel_rfl) (by kernel_rfl) (by kernel_rfl) (fun _ _ _ h => h) (Or.inr ⟨?_, rfl⟩) (by assumption) ?_; (rfl); try simp only [Act.put, List.setIfInBounds_toArray, List.set_cons_zero, List.set_cons_succ]) | (refine wpAnyH_take (i := 7) (v := ?_) (by simp only [List.getElem?_toArray, List.getElem?_cons_succ, List.getElem?_cons_zero]; exact rfl) (by kernel_rfl) (by kernel_rfl) (by kernel_rfl) (fun _ _ _ h => h) (Or.inl ⟨?_, ?_⟩) (by assumption) ?_; rotate_left; (rfl); (focus (intro w hSw; (try dsimp only at hSw); go_simp; try with_reducible rfl)); try simp only [Act.put, List.setIfInBounds_toArray, List.set_cons_zero, List.set_cons_succ])
        refine wpAnyH_ready (rs := [8]) (by kernel_rfl) (by simp) ?_
        refine AllReadyH.cons rfl (fun K hK => ?_) AllReadyH.nil
        go_simp
        have RD_ := hidB (Bk.new v2 47 #[.int .u8 0, .int .u8 0, .float .f64 0, .string ⟨#[]⟩, .int .i64 0, .int .u8 0, .float .f64 0, .string ⟨#[]⟩, .int .i64 0, .int .u8 0, .float .f64 0, .string ⟨#[]⟩, .int .i64 0, .bool false, .bool false, .bool false])
        have hgB_gR := hHeld.size
        replace hHeld := hHeld.alloc hHeld.size (.cells #[.int .u8 0, .int .u8 0, .float .f64 0, .string ⟨#[]⟩, .int .i64 0, .int .u8 0, .float .f64 0, .string ⟨#[]⟩, .int .i64 0, .int .u8 0, .float .f64 0, .string ⟨#[]⟩, .int .i64 0, .bool false, .bool false, .bool false] 47)
        refine hK.out _ _ hHeld (fun _ => ?_)
        clear hK K
        try simp only [Act.put, List.setIfInBounds_toArray, List.set_cons_zero, List.set_cons_succ]
        generalize hWn : (v2.alloc (.cells #[.int .u8 0, .int .u8 0, .float .f64 0, .string ⟨#[]⟩, .int .i64 0, .int .u8 0, .float .f64 0, .string ⟨#[]⟩, .int .i64 0, .int .u8 0, .float .f64 0, .string ⟨#[]⟩, .int .i64 0, .bool false, .bool false, .bool false] 47)) = v3 at *
        clear hWn
        generalize hGn : v2.heap.size = gR at *
        clear hGn
        refine wpAnyH_ready (rs := [9]) (by kernel_rfl) (by simp) ?_
        refine AllReadyH.cons rfl (fun K hK => ?_) AllReadyH.nil
        rw [if_pos (by kernel_rfl)]
        refine wp_store_row 47 (.tmp 11) (.tmp 89) (by rfl) gR dd.cs (by rfl) (by rfl) 47 #[.int .u8 0, .int .u8 0, .float .f64 0, .string ⟨#[]⟩, .int .i64 0, .int .u8 0, .float .f64 0, .string ⟨#[]⟩, .int .i64 0, .int .u8 0, .float .f64 0, .string ⟨#[]⟩, .int .i64 0, .bool false, .bool false, .bool false] (by exact RD_.out) (by kernel_rfl) (by rfl) (by exact (DI.one dd)) ?_
        replace RD_ := hidB (RD_.out.setRow dd.cs)
        replace hHeld := below_setRow hHeld hgB_gR dd.cs
        refine put_none_K (by first | rfl | kernel_rfl) ?_
        refine hK.out _ _ hHeld (fun _ => ?_)
        clear hK K
        generalize hWn : v3.setRow gR dd.cs = v4 at *
        clear hWn
        first | (refine wpAnyH_take (i := 10) (v := undef) (by simp only [List.getElem?_toArray, List.getElem?_cons_succ, List.getElem?_cons_zero]; exact rfl) (by kernel_rfl) (by kernel_rfl) (by kernel_rfl) (fun _ _ _ h => h) (Or.inr ⟨?_, rfl⟩) (by assumption) ?_; (rfl); try simp only [Act.put, List.setIfInBounds_toArray, List.set_cons_zero, List.set_cons_succ]) | (refine wpAnyH_take (i := 10) (v := ?_) (by simp only [List.getElem?_toArray, List.getElem?_cons_succ, List.getElem?_cons_zero]; exact rfl) (by kernel_rfl) (by kernel_rfl) (by kernel_rfl) (fun _ _ _ h => h) (Or.inl ⟨?_, ?_⟩) (by assumption) ?_; rotate_left; (rfl); (focus (intro w hSw; (try dsimp only at hSw); go_simp; try with_reducible rfl)); try simp only [Act.put, List.setIfInBounds_toArray, List.set_cons_zero, List.set_cons_succ])
        first | (refine wpAnyH_take (i := 11) (v := undef) (by simp only [List.getElem?_toArray, List.getElem?_cons_succ, List.getElem?_cons_zero]; exact rfl) (by kernel_rfl) (by kernel_rfl) (by kernel_rfl) (fun _ _ _ h => h) (Or.inr ⟨?_, rfl⟩) (by assumption) ?_; (rfl); try simp only [Act.put, List.setIfInBounds_toArray, List.set_cons_zero, List.set_cons_succ]) | (refine wpAnyH_take (i := 11) (v := ?_) (by simp only [List.getElem?_toArray, List.getElem?_cons_succ, List.getElem?_cons_zero]; exact rfl) (by kernel_rfl) (by kernel_rfl) (by kernel_rfl) (fun _ _ _ h => h) (Or.inl ⟨?_, ?_⟩) (by assumption) ?_; rotate_left; (rfl); (focus (intro w hSw; (try dsimp only at hSw); go_simp; try with_reducible rfl)); try simp only [Act.put, List.setIfInBounds_toArray, List.set_cons_zero, List.set_cons_succ])
        refine wpAnyH_done (by kernel_rfl) ?_ _
        refine NoPanic.normal ?_
        go_wp2_with fail
        go_meet
        case rel => exact ⟨_, rfl, rfl, rfl, RD_.out, hHeld⟩
      refine AllReadyH.cons rfl (fun K hK => ?_) AllReadyH.nil
      go_simp
      have RD_ := hidB (Bk.new v1 47 #[.int .u8 0, .int .u8 0, .float .f64 0, .string ⟨#[]⟩, .int .i64 0, .int .u8 0, .float .f64 0, .string ⟨#[]⟩, .int .i64 0, .int .u8 0, .float .f64 0, .string ⟨#[]⟩, .int .i64 0, .bool false, .bool false, .bool false])
      have hgB_gR := hHeld.size
      replace hHeld := hHeld.alloc hHeld.size (.cells #[.int .u8 0, .int .u8 0, .float .f64 0, .string ⟨#[]⟩, .int .i64 0, .int .u8 0, .float .f64 0, .string ⟨#[]⟩, .int .i64 0, .int .u8 0, .float .f64 0, .string ⟨#[]⟩, .int .i64 0, .bool false, .bool false, .bool false] 47)
      refine hK.out _ _ hHeld (fun _ => ?_)
      clear hK K
      try simp only [Act.put, List.setIfInBounds_toArray, List.set_cons_zero, List.set_cons_succ]
      generalize hWn : (v1.alloc (.cells #[.int .u8 0, .int .u8 0, .float .f64 0, .string ⟨#[]⟩, .int .i64 0, .int .u8 0, .float .f64 0, .string ⟨#[]⟩, .int .i64 0, .int .u8 0, .float .f64 0, .string ⟨#[]⟩, .int .i64 0, .bool false, .bool false, .bool false] 47)) = v2 at *
      clear hWn
      generalize hGn : v1.heap.size = gR at *
      clear hGn
      refine wpAnyH_ready (rs := [3]) (by kernel_rfl) (by simp) ?_
      refine AllReadyH.cons rfl (fun K hK => ?_) AllReadyH.nil
      go_simp
      refine (tfind_any (plI k) POK.out kCons (vs k) _ (RD.out _ hHeld)).mono ?_; rintro e v3 ⟨rfl, hb⟩
      rw [HDD.out]
      replace RD_ := hidB (RD_.out.on hb)
      replace hHeld := hHeld.trans (hb.mono hHeld.size)
      clear hb
      refine hK.out _ _ hHeld (fun _ => ?_)
      clear hK K
      try simp only [Act.put, List.setIfInBounds_toArray, List.set_cons_zero, List.set_cons_succ]
      first | (refine wpAnyH_take (i := 4) (v := undef) (by simp only [List.getElem?_toArray, List.getElem?_cons_succ, List.getElem?_cons_zero]; exact rfl) (by kernel_rfl) (by kernel_rfl) (by kernel_rfl) (fun _ _ _ h => h) (Or.inr ⟨?_, rfl⟩) (by assumption) ?_; (rfl); try simp only [Act.put, List.setIfInBounds_toArray, List.set_cons_zero, List.set_cons_succ]) | (refine wpAnyH_take (i := 4) (v := ?_) (by simp only [List.getElem?_toArray, List.getElem?_cons_succ, List.getElem?_cons_zero]; exact rfl) (by kernel_rfl) (by kernel_rfl) (by kernel_rfl) (fun _ _ _ h => h) (Or.inl ⟨?_, ?_⟩) (by assumption) ?_; rotate_left; (rfl); (focus (intro w hSw; (try dsimp only at hSw); go_simp; try with_reducible rfl)); try simp only [Act.put, List.setIfInBounds_toArray, List.set_cons_zero, List.set_cons_succ])
      first | (refine wpAnyH_take (i := 5) (v := undef) (by simp only [List.getElem?_toArray, List.getElem?_cons_succ, List.getElem?_cons_zero]; exact rfl) (by kernel_rfl) (by kernel_rfl) (by kernel_rfl) (fun _ _ _ h => h) (Or.inr ⟨?_, rfl⟩) (by assumption) ?_; (rfl); try simp only [Act.put, List.setIfInBounds_toArray, List.set_cons_zero, List.set_cons_succ]) | (refine wpAnyH_take (i := 5) (v := ?_) (by simp only [List.getElem?_toArray, List.getElem?_cons_succ, List.getElem?_cons_zero]; exact rfl) (by kernel_rfl) (by kernel_rfl) (by kernel_rfl) (fun _ _ _ h => h) (Or.inl ⟨?_, ?_⟩) (by assumption) ?_; rotate_left; (rfl); (focus (intro w hSw; (try dsimp only at hSw); go_simp; try with_reducible rfl)); try simp only [Act.put, List.setIfInBounds_toArray, List.set_cons_zero, List.set_cons_succ])
      first | (refine wpAnyH_take (i := 6) (v := undef) (by simp only [List.getElem?_toArray, List.getElem?_cons_succ, List.getElem?_cons_zero]; exact rfl) (by kernel_rfl) (by kernel_rfl) (by kernel_rfl) (fun _ _ _ h => h) (Or.inr ⟨?_, rfl⟩) (by assumption) ?_; (rfl); try simp only [Act.put, List.setIfInBounds_toArray, List.set_cons_zero, List.set_cons_succ]) | (refine wpAnyH_take (i := 6) (v := ?_) (by simp only [List.getElem?_toArray, List.getElem?_cons_succ, List.getElem?_cons_zero]; exact rfl) (by kernel_rfl) (by kernel_rfl) (by kernel_rfl) (fun _ _ _ h => h) (Or.inl ⟨?_, ?_⟩) (by assumption) ?_; rotate_left; (rfl); (focus (intro w hSw; (try dsimp only at hSw); go_simp; try with_reducible rfl)); try simp only [Act.put, List.setIfInBounds_toArray, List.set_cons_zero, List.set_cons_succ])
      first | (refine wpAnyH_take (i := 7) (v := undef) (by simp only [List.getElem?_toArray, List.getElem?_cons_succ, List.getElem?_cons_zero]; exact rfl) (by kernel_rfl) (by kernel_rfl) (by kernel_rfl) (fun _ _ _ h => h) (Or.inr ⟨?_, rfl⟩) (by assumption) ?_; (rfl); try simp only [Act.put, List.setIfInBounds_toArray, List.set_cons_zero, List.set_cons_succ]) | (refine wpAnyH_take (i := 7) (v := ?_) (by simp only [List.getElem?_toArray, List.getElem?_cons_succ, List.getElem?_cons_zero]; exact rfl) (by kernel_rfl) (by kernel_rfl) (by kernel_rfl) (fun _ _ _ h => h) (Or.inl ⟨?_, ?_⟩) (by assumption) ?_; rotate_left; (rfl); (focus (intro w hSw; (try dsimp only at hSw); go_simp; try with_reducible rfl)); try simp only [Act.put, List.setIfInBounds_toArray, List.set_cons_zero, List.set_cons_succ])
      refine wpAnyH_ready (rs := [9]) (by kernel_rfl) (by simp) ?_
      refine AllReadyH.cons rfl (fun K hK => ?_) AllReadyH.nil
      rw [if_pos (by kernel_rfl)]
      refine wp_store_row 47 (.tmp 11) (.tmp 89) (by rfl) gR dd.cs (by rfl) (by rfl) 47 #[.int .u8 0, .int .u8 0, .float .f64 0, .string ⟨#[]⟩, .int .i64 0, .int .u8 0, .float .f64 0, .string ⟨#[]⟩, .int .i64 0, .int .u8 0, .float .f64 0, .string ⟨#[]⟩, .int .i64 0, .bool false, .bool false, .bool false] (by exact RD_.out) (by kernel_rfl) (by rfl) (by exact (DI.one dd)) ?_
      replace RD_ := hidB (RD_.out.setRow dd.cs)
      replace hHeld := below_setRow hHeld hgB_gR dd.cs
      refine put_none_K (by first | rfl | kernel_rfl) ?_
      refine hK.out _ _ hHeld (fun _ => ?_)
      clear hK K
      generalize hWn : v3.setRow gR dd.cs = v4 at *
      clear hWn
      first | (refine wpAnyH_take (i := 10) (v := undef) (by simp only [List.getElem?_toArray, List.getElem?_cons_succ, List.getElem?_cons_zero]; exact rfl) (by kernel_rfl) (by kernel_rfl) (by kernel_rfl) (fun _ _ _ h => h) (Or.inr ⟨?_, rfl⟩) (by assumption) ?_; (rfl); try simp only [Act.put, List.setIfInBounds_toArray, List.set_cons_zero, List.set_cons_succ]) | (refine wpAnyH_take (i := 10) (v := ?_) (by simp only [List.getElem?_toArray, List.getElem?_cons_succ, List.getElem?_cons_zero]; exact rfl) (by kernel_rfl) (by kernel_rfl) (by kernel_rfl) (fun _ _ _ h => h) (Or.inl ⟨?_, ?_⟩) (by assumption) ?_; rotate_left; (rfl); (focus (intro w hSw; (try dsimp only at hSw); go_simp; try with_reducible rfl)); try simp only [Act.put, List.setIfInBounds_toArray, List.set_cons_zero, List.set_cons_succ])
      first | (refine wpAnyH_take (i := 11) (v := undef) (by simp only [List.getElem?_toArray, List.getElem?_cons_succ, List.getElem?_cons_zero]; exact rfl) (by kernel_rfl) (by kernel_rfl) (by kernel_rfl) (fun _ _ _ h => h) (Or.inr ⟨?_, rfl⟩) (by assumption) ?_; (rfl); try simp only [Act.put, List.setIfInBounds_toArray, List.set_cons_zero, List.set_cons_succ]) | (refine wpAnyH_take (i := 11) (v := ?_) (by simp only [List.getElem?_toArray, List.getElem?_cons_succ, List.getElem?_cons_zero]; exact rfl) (by kernel_rfl) (by kernel_rfl) (by kernel_rfl) (fun _ _ _ h => h) (Or.inl ⟨?_, ?_⟩) (by assumption) ?_; rotate_left; (rfl); (focus (intro w hSw; (try dsimp only at hSw); go_simp; try with_reducible rfl)); try simp only [Act.put, List.setIfInBounds_toArray, List.set_cons_zero, List.set_cons_succ])
      refine wpAnyH_done (by kernel_rfl) ?_ _
      refine NoPanic.normal ?_
      go_wp2_with fail
      go_meet
      case rel => exact ⟨_, rfl, rfl, rfl, RD_.out, hHeld⟩
    refine AllReadyH.cons rfl (fun K hK => ?_) AllReadyH.nil
    go_simp
    have RD_ := hidB (Bk.new wd 47 #[.int .u8 0, .int .u8 0, .float .f64 0, .string ⟨#[]⟩, .int .i64 0, .int .u8 0, .float .f64 0, .string ⟨#[]⟩, .int .i64 0, .int .u8 0, .float .f64 0, .string ⟨#[]⟩, .int .i64 0, .bool false, .bool false, .bool false])
    have hgB_gR := hHeld.size
    replace hHeld := hHeld.alloc hHeld.size (.cells #[.int .u8 0, .int .u8 0, .float .f64 0, .string ⟨#[]⟩, .int .i64 0, .int .u8 0, .float .f64 0, .string ⟨#[]⟩, .int .i64 0, .int .u8 0, .float .f64 0, .string ⟨#[]⟩, .int .i64 0, .bool false, .bool false, .bool false] 47)
    refine hK.out _ _ hHeld (fun _ => ?_)
    clear hK K
    try simp only [Act.put, List.setIfInBounds_toArray, List.set_cons_zero, List.set_cons_succ]
    generalize hWn : (wd.alloc (.cells #[.int .u8 0, .int .u8 0, .float .f64 0, .string ⟨#[]⟩, .int .i64 0, .int .u8 0, .float .f64 0, .string ⟨#[]⟩, .int .i64 0, .int .u8 0, .float .f64 0, .string ⟨#[]⟩, .int .i64 0, .bool false, .bool false, .bool false] 47)) = v1 at *
    clear hWn
    generalize hGn : wd.heap.size = gR at *
    clear hGn
    refine wpAnyH_ready (rs := [2]) (by kernel_rfl) (by simp) ?_
    refine AllReadyH.cons rfl (fun K hK => ?_) AllReadyH.nil
    go_simp
    refine (keyOf_any wConstructor _).mono ?_; rintro e v2 ⟨rfl, hb⟩
    replace RD_ := hidB (RD_.out.on hb)
    replace hHeld := hHeld.trans (hb.mono hHeld.size)
    clear hb
    refine hK.out _ _ hHeld (fun _ => ?_)
    clear hK K
    try simp only [Act.put, List.setIfInBounds_toArray, List.set_cons_zero, List.set_cons_succ]
    refine wpAnyH_ready (rs := [3]) (by kernel_rfl) (by simp) ?_
    refine AllReadyH.cons rfl (fun K hK => ?_) AllReadyH.nil
    go_simp
    refine (tfind_any (plI k) POK.out kCons (vs k) _ (RD.out _ hHeld)).mono ?_; rintro e v3 ⟨rfl, hb⟩
    rw [HDD.out]
    replace RD_ := hidB (RD_.out.on hb)
    replace hHeld := hHeld.trans (hb.mono hHeld.size)
    clear hb
    refine hK.out _ _ hHeld (fun _ => ?_)
    clear hK K
    try simp only [Act.put, List.setIfInBounds_toArray, List.set_cons_zero, List.set_cons_succ]
    first | (refine wpAnyH_take (i := 4) (v := undef) (by simp only [List.getElem?_toArray, List.getElem?_cons_succ, List.getElem?_cons_zero]; exact rfl) (by kernel_rfl) (by kernel_rfl) (by kernel_rfl) (fun _ _ _ h => h) (Or.inr ⟨?_, rfl⟩) (by assumption) ?_; (rfl); try simp only [Act.put, List.setIfInBounds_toArray, List.set_cons_zero, List.set_cons_succ]) | (refine wpAnyH_take (i := 4) (v := ?_) (by simp only [List.getElem?_toArray, List.getElem?_cons_succ, List.getElem?_cons_zero]; exact rfl) (by kernel_rfl) (by kernel_rfl) (by kernel_rfl) (fun _ _ _ h => h) (Or.inl ⟨?_, ?_⟩) (by assumption) ?_; rotate_left; (rfl); (focus (intro w hSw; (try dsimp only at hSw); go_simp; try with_reducible rfl)); try simp only [Act.put, List.setIfInBounds_toArray, List.set_cons_zero, List.set_cons_succ])
    first | (refine wpAnyH_take (i := 5) (v := undef) (by simp only [List.getElem?_toArray, List.getElem?_cons_succ, List.getElem?_cons_zero]; exact rfl) (by kernel_rfl) (by kernel_rfl) (by kernel_rfl) (fun _ _ _ h => h) (Or.inr ⟨?_, rfl⟩) (by assumption) ?_; (rfl); try simp only [Act.put, List.setIfInBounds_toArray, List.set_cons_zero, List.set_cons_succ]) | (refine wpAnyH_take (i := 5) (v := ?_) (by simp only [List.getElem?_toArray, List.getElem?_cons_succ, List.getElem?_cons_zero]; exact rfl) (by kernel_rfl) (by kernel_rfl) (by kernel_rfl) (fun _ _ _ h => h) (Or.inl ⟨?_, ?_⟩) (by assumption) ?_; rotate_left; (rfl); (focus (intro w hSw; (try dsimp only at hSw); go_simp; try with_reducible rfl)); try simp only [Act.put, List.setIfInBounds_toArray, List.set_cons_zero, List.set_cons_succ])
    first | (refine wpAnyH_take (i := 6) (v := undef) (by simp only [List.getElem?_toArray, List.getElem?_cons_succ, List.getElem?_cons_zero]; exact rfl) (by kernel_rfl) (by kernel_rfl) (by kernel_rfl) (fun _ _ _ h => h) (Or.inr ⟨?_, rfl⟩) (by assumption) ?_; (rfl); try simp only [Act.put, List.setIfInBounds_toArray, List.set_cons_zero, List.set_cons_succ]) | (refine wpAnyH_take (i := 6) (v := ?_) (by simp only [List.getElem?_toArray, List.getElem?_cons_succ, List.getElem?_cons_zero]; exact rfl) (by kernel_rfl) (by kernel_rfl) (by kernel_rfl) (fun _ _ _ h => h) (Or.inl ⟨?_, ?_⟩) (by assumption) ?_; rotate_left; (rfl); (focus (intro w hSw; (try dsimp only at hSw); go_simp; try with_reducible rfl)); try simp only [Act.put, List.setIfInBounds_toArray, List.set_cons_zero, List.set_cons_succ])
    first | (refine wpAnyH_take (i := 7) (v := undef) (by simp only [List.getElem?_toArray, List.getElem?_cons_succ, List.getElem?_cons_zero]; exact rfl) (by kernel_rfl) (by kernel_rfl) (by kernel_rfl) (fun _ _ _ h => h) (Or.inr ⟨?_, rfl⟩) (by assumption) ?_; (rfl); try simp only [Act.put, List.setIfInBounds_toArray, List.set_cons_zero, List.set_cons_succ]) | (refine wpAnyH_take (i := 7) (v := ?_) (by simp only [List.getElem?_toArray, List.getElem?_cons_succ, List.getElem?_cons_zero]; exact rfl) (by kernel_rfl) (by kernel_rfl) (by kernel_rfl) (fun _ _ _ h => h) (Or.inl ⟨?_, ?_⟩) (by assumption) ?_; rotate_left; (rfl); (focus (intro w hSw; (try dsimp only at hSw); go_simp; try with_reducible rfl)); try simp only [Act.put, List.setIfInBounds_toArray, List.set_cons_zero, List.set_cons_succ])
    refine wpAnyH_ready (rs := [9]) (by kernel_rfl) (by simp) ?_
    refine AllReadyH.cons rfl (fun K hK => ?_) AllReadyH.nil
    rw [if_pos (by kernel_rfl)]
    refine wp_store_row 47 (.tmp 11) (.tmp 89) (by rfl) gR dd.cs (by rfl) (by rfl) 47 #[.int .u8 0, .int .u8 0, .float .f64 0, .string ⟨#[]⟩, .int .i64 0, .int .u8 0, .float .f64 0, .string ⟨#[]⟩, .int .i64 0, .int .u8 0, .float .f64 0, .string ⟨#[]⟩, .int .i64 0, .bool false, .bool false, .bool false] (by exact RD_.out) (by kernel_rfl) (by rfl) (by exact (DI.one dd)) ?_
    replace RD_ := hidB (RD_.out.setRow dd.cs)
    replace hHeld := below_setRow hHeld hgB_gR dd.cs
    refine put_none_K (by first | rfl | kernel_rfl) ?_
    refine hK.out _ _ hHeld (fun _ => ?_)
    clear hK K
    generalize hWn : v3.setRow gR dd.cs = v4 at *
    clear hWn
    first | (refine wpAnyH_take (i := 10) (v := undef) (by simp only [List.getElem?_toArray, List.getElem?_cons_succ, List.getElem?_cons_zero]; exact rfl) (by kernel_rfl) (by kernel_rfl) (by kernel_rfl) (fun _ _ _ h => h) (Or.inr ⟨?_, rfl⟩) (by assumption) ?_; (rfl); try simp only [Act.put, List.setIfInBounds_toArray, List.set_cons_zero, List.set_cons_succ]) | (refine wpAnyH_take (i := 10) (v := ?_) (by simp only [List.getElem?_toArray, List.getElem?_cons_succ, List.getElem?_cons_zero]; exact rfl) (by kernel_rfl) (by kernel_rfl) (by kernel_rfl) (fun _ _ _ h => h) (Or.inl ⟨?_, ?_⟩) (by assumption) ?_; rotate_left; (rfl); (focus (intro w hSw; (try dsimp only at hSw); go_simp; try with_reducible rfl)); try simp only [Act.put, List.setIfInBounds_toArray, List.set_cons_zero, List.set_cons_succ])
    first | (refine wpAnyH_take (i := 11) (v := undef) (by simp only [List.getElem?_toArray, List.getElem?_cons_succ, List.getElem?_cons_zero]; exact rfl) (by kernel_rfl) (by kernel_rfl) (by kernel_rfl) (fun _ _ _ h => h) (Or.inr ⟨?_, rfl⟩) (by assumption) ?_; (rfl); try simp only [Act.put, List.setIfInBounds_toArray, List.set_cons_zero, List.set_cons_succ]) | (refine wpAnyH_take (i := 11) (v := ?_) (by simp only [List.getElem?_toArray, List.getElem?_cons_succ, List.getElem?_cons_zero]; exact rfl) (by kernel_rfl) (by kernel_rfl) (by kernel_rfl) (fun _ _ _ h => h) (Or.inl ⟨?_, ?_⟩) (by assumption) ?_; rotate_left; (rfl); (focus (intro w hSw; (try dsimp only at hSw); go_simp; try with_reducible rfl)); try simp only [Act.put, List.setIfInBounds_toArray, List.set_cons_zero, List.set_cons_succ])
    refine wpAnyH_done (by kernel_rfl) ?_ _
    refine NoPanic.normal ?_
    go_wp2_with fail
    go_meet
    case rel => exact ⟨_, rfl, rfl, rfl, RD_.out, hHeld⟩
  case rest =>
  obtain ⟨gd, rfl, rfl, rfl, hD, hb⟩ := hcut
  have D1 := hidB hD
  replace Y6 := hidB (Y6.out.on hb)
  replace BB := hidB (BB.out.trans (hb.mono (Nat.le_of_lt X.out.lt)))
  replace X := hidB (X.out.on hb)
  replace B6 := hidB (B6.out.trans (hb.mono B6.out.size))
  clear hb
  clear hD RD HXC HDD POK
  go_upto_if 94 with fail
  go_cut [14, 15, 16, 17] from 21 to 183 (fun s14 s15 s16 s17 wx => Bk wx gx 43 (ojR k (vs k)).cs ∧ Bk wx gh 38 #[(.slice (some ⟨g, 0, none⟩) 72 c)] ∧ Below w.heap.size w wx ∧ Below gx w5 wx)
  case first => as_aux_lemma =>
    cases bb
    · go_wp2_with fail
      go_meet
      case rel => exact ⟨X.out, Y6.out, B6.out, BB.out⟩
    have T := T4.out
    simp only [Bool.not_true, Bool.false_or, Bool.and_eq_true, decide_eq_true_eq] at T
    obtain ⟨hm0, hm72, hpd⟩ := T
    obtain ⟨m, hm⟩ : ∃ m : Nat, dd.v.r = (m : Int) := ⟨dd.v.r.toNat, by omega⟩
    rw [hm, Int.toNat_natCast] at hpd
    have hmk : m < 72 := by omega
    have d4 : wc.cell? ⟨gd, 4, none⟩ = some (.int .i64 (m : Int)) := hm ▸ D1.out.cell 4
    have HPD := hidB hpd
    clear hm hm0 hm72 hpd
    have hm0 : (0 : Int) ≤ (m : Int) := by omega
    have hm72 : (m : Int) < 72 := by omega
    have y0 : wc.cell? ⟨gh, 0, none⟩ = some (.slice (some ⟨g, 0, none⟩) 72 c) := Y6.out.cell 0
    go_upto_region 22 with fail
    clear d4 y0
    obtain ⟨⟨de, be, ef⟩, hde⟩ : ∃ d, findV (plI m) kProt = d := ⟨_, rfl⟩
    have HDE := hidB hde
    have T := HPD.out
    rw [hde] at T
    clear hde HPD
    unfold protD at T
    simp only [Bool.and_eq_true, decide_eq_true_eq, Bool.not_eq_true'] at T
    obtain ⟨rfl, rfl, hrn, hwr, hcf⟩ := T
    have HRN := hidB hrn
    have HWR := hidB hwr
    have HCF := hidB hcf
    clear hrn hwr hcf
    have POK := hidB (plI_ok hmk)
    have RD := hidB (fun W (hb : Below wc.heap.size wc W) => RDP.out m hmk W (BB.out.trans (hb.mono (Nat.le_of_lt X.out.lt))))
    have HMC := hidB (fun W (hb : Below wc.heap.size wc W) => (show W.cell? ⟨g, m * 18 + 6, none⟩ = some (vs m) from ROW.out m hmk W (BB.out.trans (hb.mono (Nat.le_of_lt X.out.lt))) 6 _ rfl))
    go_cut [15, 16, 17] from 21 to 183 (fun s15 s16 s17 wx => ∃ gd, s15 = .pointer (some ⟨gd, 0, none⟩) ∧ s16 = .bool true ∧ s17 = .int .i64 0 ∧ Bk wx gd 47 de.cs ∧ Below wc.heap.size wc wx)
    case first =>
      refine wp_region_noPanic ?_
      refine wp_region_held_drew (S := fun W => Below wc.heap.size wc W) (by kernel_rfl) ?_ (fun hHeld => ?_)
      · exact (Below.refl _ _).drew
      generalize hWd : wc.drew = wd at *
      clear hWd
      first | (refine wpAnyH_take (i := 0) (v := undef) (by simp only [List.getElem?_toArray, List.getElem?_cons_zero]; exact rfl) (by kernel_rfl) (by kernel_rfl) (by kernel_rfl) (fun _ _ _ h => h) (Or.inr ⟨?_, rfl⟩) (by assumption) ?_; (rfl); try simp only [Act.put, List.setIfInBounds_toArray, List.set_cons_zero, List.set_cons_succ]) | (refine wpAnyH_take (i := 0) (v := ?_) (by simp only [List.getElem?_toArray, List.getElem?_cons_zero]; exact rfl) (by kernel_rfl) (by kernel_rfl) (by kernel_rfl) (fun _ _ _ h => h) (Or.inl ⟨?_, ?_⟩) (by assumption) ?_; rotate_left; (rfl); (focus (intro w hSw; (try dsimp only at hSw); go_simp; try with_reducible rfl)); try simp only [Act.put, List.setIfInBounds_toArray, List.set_cons_zero, List.set_cons_succ])
      first | (refine wpAnyH_take (i := 1) (v := undef) (by simp only [List.getElem?_toArray, List.getElem?_cons_succ, List.getElem?_cons_zero]; exact rfl) (by kernel_rfl) (by kernel_rfl) (by kernel_rfl) (fun _ _ _ h => h) (Or.inr ⟨?_, rfl⟩) (by assumption) ?_; (rfl); try simp only [Act.put, List.setIfInBounds_toArray, List.set_cons_zero, List.set_cons_succ]) | (refine wpAnyH_take (i := 1) (v := ?_) (by simp only [List.getElem?_toArray, List.getElem?_cons_succ, List.getElem?_cons_zero]; exact rfl) (by kernel_rfl) (by kernel_rfl) (by kernel_rfl) (fun _ _ _ h => h) (Or.inl ⟨?_, ?_⟩) (by assumption) ?_; rotate_left; (rfl); (focus (intro W hSw; have hc0 := (show W.cell? ⟨gh, 0, none⟩ = some (.slice (some ⟨g, 0, none⟩) 72 c) from (Y6.out.on hSw).cell 0); clear hSw; go_simp; try with_reducible rfl)); try simp only [Act.put, List.setIfInBounds_toArray, List.set_cons_zero, List.set_cons_succ])
      first | (refine wpAnyH_take (i := 2) (v := undef) (by simp only [List.getElem?_toArray, List.getElem?_cons_succ, List.getElem?_cons_zero]; exact rfl) (by kernel_rfl) (by kernel_rfl) (by kernel_rfl) (fun _ _ _ h => h) (Or.inr ⟨?_, rfl⟩) (by assumption) ?_; (rfl); try simp only [Act.put, List.setIfInBounds_toArray, List.set_cons_zero, List.set_cons_succ]) | (refine wpAnyH_take (i := 2) (v := ?_) (by simp only [List.getElem?_toArray, List.getElem?_cons_succ, List.getElem?_cons_zero]; exact rfl) (by kernel_rfl) (by kernel_rfl) (by kernel_rfl) (fun _ _ _ h => h) (Or.inl ⟨?_, ?_⟩) (by assumption) ?_; rotate_left; (rfl); (focus (intro w hSw; (try dsimp only at hSw); go_simp; try with_reducible rfl)); try simp only [Act.put, List.setIfInBounds_toArray, List.set_cons_zero, List.set_cons_succ])
      first | (refine wpAnyH_take (i := 3) (v := undef) (by simp only [List.getElem?_toArray, List.getElem?_cons_succ, List.getElem?_cons_zero]; exact rfl) (by kernel_rfl) (by kernel_rfl) (by kernel_rfl) (fun _ _ _ h => h) (Or.inr ⟨?_, rfl⟩) (by assumption) ?_; (rfl); try simp only [Act.put, List.setIfInBounds_toArray, List.set_cons_zero, List.set_cons_succ]) | (refine wpAnyH_take (i := 3) (v := ?_) (by simp only [List.getElem?_toArray, List.getElem?_cons_succ, List.getElem?_cons_zero]; exact rfl) (by kernel_rfl) (by kernel_rfl) (by kernel_rfl) (fun _ _ _ h => h) (Or.inl ⟨?_, ?_⟩) (by assumption) ?_; rotate_left; (rfl); (focus (intro w hSw; (try dsimp only at hSw); go_simp; try with_reducible rfl)); try simp only [Act.put, List.setIfInBounds_toArray, List.set_cons_zero, List.set_cons_succ])
      first | (refine wpAnyH_take (i := 4) (v := undef) (by simp only [List.getElem?_toArray, List.getElem?_cons_succ, List.getElem?_cons_zero]; exact rfl) (by kernel_rfl) (by kernel_rfl) (by kernel_rfl) (fun _ _ _ h => h) (Or.inr ⟨?_, rfl⟩) (by assumption) ?_; (rfl); try simp only [Act.put, List.setIfInBounds_toArray, List.set_cons_zero, List.set_cons_succ]) | (refine wpAnyH_take (i := 4) (v := ?_) (by simp only [List.getElem?_toArray, List.getElem?_cons_succ, List.getElem?_cons_zero]; exact rfl) (by kernel_rfl) (by kernel_rfl) (by kernel_rfl) (fun _ _ _ h => h) (Or.inl ⟨?_, ?_⟩) (by assumption) ?_; rotate_left; (rfl); (focus (intro w hSw; (try dsimp only at hSw); go_simp; try with_reducible rfl)); try simp only [Act.put, List.setIfInBounds_toArray, List.set_cons_zero, List.set_cons_succ])
      first | (refine wpAnyH_take (i := 5) (v := undef) (by simp only [List.getElem?_toArray, List.getElem?_cons_succ, List.getElem?_cons_zero]; exact rfl) (by kernel_rfl) (by kernel_rfl) (by kernel_rfl) (fun _ _ _ h => h) (Or.inr ⟨?_, rfl⟩) (by assumption) ?_; (rfl); try simp only [Act.put, List.setIfInBounds_toArray, List.set_cons_zero, List.set_cons_succ]) | (refine wpAnyH_take (i := 5) (v := ?_) (by simp only [List.getElem?_toArray, List.getElem?_cons_succ, List.getElem?_cons_zero]; exact rfl) (by kernel_rfl) (by kernel_rfl) (by kernel_rfl) (fun _ _ _ h => h) (Or.inl ⟨?_, ?_⟩) (by assumption) ?_; rotate_left; (rfl); (focus (intro W hSw; have hc0 := (show W.cell? ⟨g, m * 18 + 6, none⟩ = some (vs m) from HMC.out W hSw); clear hSw; go_simp; try with_reducible rfl)); try simp only [Act.put, List.setIfInBounds_toArray, List.set_cons_zero, List.set_cons_succ])
      refine wpAnyH_ready (rs := [6, 12]) (by kernel_rfl) (by simp) ?_
      refine AllReadyH.cons rfl (fun K hK => ?_) ?_
      · skip
        go_simp
        refine (keyOf_any wPrototype _).mono ?_; rintro e v1 ⟨rfl, hb⟩
        replace hHeld := hHeld.trans (hb.mono hHeld.size)
        clear hb
        refine hK.out _ _ hHeld (fun _ => ?_)
        clear hK K
        try simp only [Act.put, List.setIfInBounds_toArray, List.set_cons_zero, List.set_cons_succ]
        refine wpAnyH_ready (rs := [7, 12]) (by kernel_rfl) (by simp) ?_
        refine AllReadyH.cons rfl (fun K hK => ?_) ?_
        · skip
          go_simp
          refine (tfind_any (plI m) POK.out kProt (vs m) _ (RD.out _ hHeld)).mono ?_; rintro e v2 ⟨rfl, hb⟩
          rw [HDE.out]
          replace hHeld := hHeld.trans (hb.mono hHeld.size)
          clear hb
          refine hK.out _ _ hHeld (fun _ => ?_)
          clear hK K
          try simp only [Act.put, List.setIfInBounds_toArray, List.set_cons_zero, List.set_cons_succ]
          first | (refine wpAnyH_take (i := 8) (v := undef) (by simp only [List.getElem?_toArray, List.getElem?_cons_succ, List.getElem?_cons_zero]; exact rfl) (by kernel_rfl) (by kernel_rfl) (by kernel_rfl) (fun _ _ _ h => h) (Or.inr ⟨?_, rfl⟩) (by assumption) ?_; (rfl); try simp only [Act.put, List.setIfInBounds_toArray, List.set_cons_zero, List.set_cons_succ]) | (refine wpAnyH_take (i := 8) (v := ?_) (by simp only [List.getElem?_toArray, List.getElem?_cons_succ, List.getElem?_cons_zero]; exact rfl) (by kernel_rfl) (by kernel_rfl) (by kernel_rfl) (fun _ _ _ h => h) (Or.inl ⟨?_, ?_⟩) (by assumption) ?_; rotate_left; (rfl); (focus (intro w hSw; (try dsimp only at hSw); go_simp; try with_reducible rfl)); try simp only [Act.put, List.setIfInBounds_toArray, List.set_cons_zero, List.set_cons_succ])
          first | (refine wpAnyH_take (i := 9) (v := undef) (by simp only [List.getElem?_toArray, List.getElem?_cons_succ, List.getElem?_cons_zero]; exact rfl) (by kernel_rfl) (by kernel_rfl) (by kernel_rfl) (fun _ _ _ h => h) (Or.inr ⟨?_, rfl⟩) (by assumption) ?_; (rfl); try simp only [Act.put, List.setIfInBounds_toArray, List.set_cons_zero, List.set_cons_succ]) | (refine wpAnyH_take (i := 9) (v := ?_) (by simp only [List.getElem?_toArray, List.getElem?_cons_succ, List.getElem?_cons_zero]; exact rfl) (by kernel_rfl) (by kernel_rfl) (by kernel_rfl) (fun _ _ _ h => h) (Or.inl ⟨?_, ?_⟩) (by assumption) ?_; rotate_left; (rfl); (focus (intro w hSw; (try dsimp only at hSw); go_simp; try with_reducible rfl)); try simp only [Act.put, List.setIfInBounds_toArray, List.set_cons_zero, List.set_cons_succ])
          first | (refine wpAnyH_take (i := 10) (v := undef) (by simp only [List.getElem?_toArray, List.getElem?_cons_succ, List.getElem?_cons_zero]; exact rfl) (by kernel_rfl) (by kernel_rfl) (by kernel_rfl) (fun _ _ _ h => h) (Or.inr ⟨?_, rfl⟩) (by assumption) ?_; (rfl); try simp only [Act.put, List.setIfInBounds_toArray, List.set_cons_zero, List.set_cons_succ]) | (refine wpAnyH_take (i := 10) (v := ?_) (by simp only [List.getElem?_toArray, List.getElem?_cons_succ, List.getElem?_cons_zero]; exact rfl) (by kernel_rfl) (by kernel_rfl) (by kernel_rfl) (fun _ _ _ h => h) (Or.inl ⟨?_, ?_⟩) (by assumption) ?_; rotate_left; (rfl); (focus (intro w hSw; (try dsimp only at hSw); go_simp; try with_reducible rfl)); try simp only [Act.put, List.setIfInBounds_toArray, List.set_cons_zero, List.set_cons_succ])
          first | (refine wpAnyH_take (i := 11) (v := undef) (by simp only [List.getElem?_toArray, List.getElem?_cons_succ, List.getElem?_cons_zero]; exact rfl) (by kernel_rfl) (by kernel_rfl) (by kernel_rfl) (fun _ _ _ h => h) (Or.inr ⟨?_, rfl⟩) (by assumption) ?_; (rfl); try simp only [Act.put, List.setIfInBounds_toArray, List.set_cons_zero, List.set_cons_succ]) | (refine wpAnyH_take (i := 11) (v := ?_) (by simp only [List.getElem?_toArray, List.getElem?_cons_succ, List.getElem?_cons_zero]; exact rfl) (by kernel_rfl) (by kernel_rfl) (by kernel_rfl) (fun _ _ _ h => h) (Or.inl ⟨?_, ?_⟩) (by assumption) ?_; rotate_left; (rfl); (focus (intro w hSw; (try dsimp only at hSw); go_simp; try with_reducible rfl)); try simp only [Act.put, List.setIfInBounds_toArray, List.set_cons_zero, List.set_cons_succ])
          refine wpAnyH_ready (rs := [12]) (by kernel_rfl) (by simp) ?_
          refine AllReadyH.cons rfl (fun K hK => ?_) AllReadyH.nil
          go_simp
          have RD_ := hidB (Bk.new v2 47 #[.int .u8 0, .int .u8 0, .float .f64 0, .string ⟨#[]⟩, .int .i64 0, .int .u8 0, .float .f64 0, .string ⟨#[]⟩, .int .i64 0, .int .u8 0, .float .f64 0, .string ⟨#[]⟩, .int .i64 0, .bool false, .bool false, .bool false])
          have hgB_gR := hHeld.size
          replace hHeld := hHeld.alloc hHeld.size (.cells #[.int .u8 0, .int .u8 0, .float .f64 0, .string ⟨#[]⟩, .int .i64 0, .int .u8 0, .float .f64 0, .string ⟨#[]⟩, .int .i64 0, .int .u8 0, .float .f64 0, .string ⟨#[]⟩, .int .i64 0, .bool false, .bool false, .bool false] 47)
          refine hK.out _ _ hHeld (fun _ => ?_)
          clear hK K
          try simp only [Act.put, List.setIfInBounds_toArray, List.set_cons_zero, List.set_cons_succ]
          generalize hWn : (v2.alloc (.cells #[.int .u8 0, .int .u8 0, .float .f64 0, .string ⟨#[]⟩, .int .i64 0, .int .u8 0, .float .f64 0, .string ⟨#[]⟩, .int .i64 0, .int .u8 0, .float .f64 0, .string ⟨#[]⟩, .int .i64 0, .bool false, .bool false, .bool false] 47)) = v3 at *
          clear hWn
          generalize hGn : v2.heap.size = gR at *
          clear hGn
          refine wpAnyH_ready (rs := [13]) (by kernel_rfl) (by simp) ?_
          refine AllReadyH.cons rfl (fun K hK => ?_) AllReadyH.nil
          rw [if_pos (by kernel_rfl)]
          refine wp_store_row 47 (.tmp 15) (.tmp 116) (by rfl) gR de.cs (by rfl) (by rfl) 47 #[.int .u8 0, .int .u8 0, .float .f64 0, .string ⟨#[]⟩, .int .i64 0, .int .u8 0, .float .f64 0, .string ⟨#[]⟩, .int .i64 0, .int .u8 0, .float .f64 0, .string ⟨#[]⟩, .int .i64 0, .bool false, .bool false, .bool false] (by exact RD_.out) (by kernel_rfl) (by rfl) (by exact (DI.one de)) ?_
          replace RD_ := hidB (RD_.out.setRow de.cs)
          replace hHeld := below_setRow hHeld hgB_gR de.cs
          refine put_none_K (by first | rfl | kernel_rfl) ?_
          refine hK.out _ _ hHeld (fun _ => ?_)
          clear hK K
          generalize hWn : v3.setRow gR de.cs = v4 at *
          clear hWn
          first | (refine wpAnyH_take (i := 14) (v := undef) (by simp only [List.getElem?_toArray, List.getElem?_cons_succ, List.getElem?_cons_zero]; exact rfl) (by kernel_rfl) (by kernel_rfl) (by kernel_rfl) (fun _ _ _ h => h) (Or.inr ⟨?_, rfl⟩) (by assumption) ?_; (rfl); try simp only [Act.put, List.setIfInBounds_toArray, List.set_cons_zero, List.set_cons_succ]) | (refine wpAnyH_take (i := 14) (v := ?_) (by simp only [List.getElem?_toArray, List.getElem?_cons_succ, List.getElem?_cons_zero]; exact rfl) (by kernel_rfl) (by kernel_rfl) (by kernel_rfl) (fun _ _ _ h => h) (Or.inl ⟨?_, ?_⟩) (by assumption) ?_; rotate_left; (rfl); (focus (intro w hSw; (try dsimp only at hSw); go_simp; try with_reducible rfl)); try simp only [Act.put, List.setIfInBounds_toArray, List.set_cons_zero, List.set_cons_succ])
          first | (refine wpAnyH_take (i := 15) (v := undef) (by simp only [List.getElem?_toArray, List.getElem?_cons_succ, List.getElem?_cons_zero]; exact rfl) (by kernel_rfl) (by kernel_rfl) (by kernel_rfl) (fun _ _ _ h => h) (Or.inr ⟨?_, rfl⟩) (by assumption) ?_; (rfl); try simp only [Act.put, List.setIfInBounds_toArray, List.set_cons_zero, List.set_cons_succ]) | (refine wpAnyH_take (i := 15) (v := ?_) (by simp only [List.getElem?_toArray, List.getElem?_cons_succ, List.getElem?_cons_zero]; exact rfl) (by kernel_rfl) (by kernel_rfl) (by kernel_rfl) (fun _ _ _ h => h) (Or.inl ⟨?_, ?_⟩) (by assumption) ?_; rotate_left; (rfl); (focus (intro w hSw; (try dsimp only at hSw); go_simp; try with_reducible rfl)); try simp only [Act.put, List.setIfInBounds_toArray, List.set_cons_zero, List.set_cons_succ])
          refine wpAnyH_done (by kernel_rfl) ?_ _
          refine NoPanic.normal ?_
          go_wp2_with fail
          go_meet
          case rel => exact ⟨_, rfl, rfl, rfl, RD_.out, hHeld⟩
        refine AllReadyH.cons rfl (fun K hK => ?_) AllReadyH.nil
        go_simp
        have RD_ := hidB (Bk.new v1 47 #[.int .u8 0, .int .u8 0, .float .f64 0, .string ⟨#[]⟩, .int .i64 0, .int .u8 0, .float .f64 0, .string ⟨#[]⟩, .int .i64 0, .int .u8 0, .float .f64 0, .string ⟨#[]⟩, .int .i64 0, .bool false, .bool false, .bool false])
        have hgB_gR := hHeld.size
        replace hHeld := hHeld.alloc hHeld.size (.cells #[.int .u8 0, .int .u8 0, .float .f64 0, .string ⟨#[]⟩, .int .i64 0, .int .u8 0, .float .f64 0, .string ⟨#[]⟩, .int .i64 0, .int .u8 0, .float .f64 0, .string ⟨#[]⟩, .int .i64 0, .bool false, .bool false, .bool false] 47)
        refine hK.out _ _ hHeld (fun _ => ?_)
        clear hK K
        try simp only [Act.put, List.setIfInBounds_toArray, List.set_cons_zero, List.set_cons_succ]
        generalize hWn : (v1.alloc (.cells #[.int .u8 0, .int .u8 0, .float .f64 0, .string ⟨#[]⟩, .int .i64 0, .int .u8 0, .float .f64 0, .string ⟨#[]⟩, .int .i64 0, .int .u8 0, .float .f64 0, .string ⟨#[]⟩, .int .i64 0, .bool false, .bool false, .bool false] 47)) = v2 at *
        clear hWn
        generalize hGn : v1.heap.size = gR at *
        clear hGn
        refine wpAnyH_ready (rs := [7]) (by kernel_rfl) (by simp) ?_
        refine AllReadyH.cons rfl (fun K hK => ?_) AllReadyH.nil
        go_simp
        refine (tfind_any (plI m) POK.out kProt (vs m) _ (RD.out _ hHeld)).mono ?_; rintro e v3 ⟨rfl, hb⟩
        rw [HDE.out]
        replace RD_ := hidB (RD_.out.on hb)
        replace hHeld := hHeld.trans (hb.mono hHeld.size)
        clear hb
        refine hK.out _ _ hHeld (fun _ => ?_)
        clear hK K
        try simp only [Act.put, List.setIfInBounds_toArray, List.set_cons_zero, List.set_cons_succ]
        first | (refine wpAnyH_take (i := 8) (v := undef) (by simp only [List.getElem?_toArray, List.getElem?_cons_succ, List.getElem?_cons_zero]; exact rfl) (by kernel_rfl) (by kernel_rfl) (by kernel_rfl) (fun _ _ _ h => h) (Or.inr ⟨?_, rfl⟩) (by assumption) ?_; (rfl); try simp only [Act.put, List.setIfInBounds_toArray, List.set_cons_zero, List.set_cons_succ]) | (refine wpAnyH_take (i := 8) (v := ?_) (by simp only [List.getElem?_toArray, List.getElem?_cons_succ, List.getElem?_cons_zero]; exact rfl) (by kernel_rfl) (by kernel_rfl) (by kernel_rfl) (fun _ _ _ h => h) (Or.inl ⟨?_, ?_⟩) (by assumption) ?_; rotate_left; (rfl); (focus (intro w hSw; (try dsimp only at hSw); go_simp; try with_reducible rfl)); try simp only [Act.put, List.setIfInBounds_toArray, List.set_cons_zero, List.set_cons_succ])
        first | (refine wpAnyH_take (i := 9) (v := undef) (by simp only [List.getElem?_toArray, List.getElem?_cons_succ, List.getElem?_cons_zero]; exact rfl) (by kernel_rfl) (by kernel_rfl) (by kernel_rfl) (fun _ _ _ h => h) (Or.inr ⟨?_, rfl⟩) (by assumption) ?_; (rfl); try simp only [Act.put, List.setIfInBounds_toArray, List.set_cons_zero, List.set_cons_succ]) | (refine wpAnyH_take (i := 9) (v := ?_) (by simp only [List.getElem?_toArray, List.getElem?_cons_succ, List.getElem?_cons_zero]; exact rfl) (by kernel_rfl) (by kernel_rfl) (by kernel_rfl) (fun _ _ _ h => h) (Or.inl ⟨?_, ?_⟩) (by assumption) ?_; rotate_left; (rfl); (focus (intro w hSw; (try dsimp only at hSw); go_simp; try with_reducible rfl)); try simp only [Act.put, List.setIfInBounds_toArray, List.set_cons_zero, List.set_cons_succ])
        first | (refine wpAnyH_take (i := 10) (v := undef) (by simp only [List.getElem?_toArray, List.getElem?_cons_succ, List.getElem?_cons_zero]; exact rfl) (by kernel_rfl) (by kernel_rfl) (by kernel_rfl) (fun _ _ _ h => h) (Or.inr ⟨?_, rfl⟩) (by assumption) ?_; (rfl); try simp only [Act.put, List.setIfInBounds_toArray, List.set_cons_zero, List.set_cons_succ]) | (refine wpAnyH_take (i := 10) (v := ?_) (by simp only [List.getElem?_toArray, List.getElem?_cons_succ, List.getElem?_cons_zero]; exact rfl) (by kernel_rfl) (by kernel_rfl) (by kernel_rfl) (fun _ _ _ h => h) (Or.inl ⟨?_, ?_⟩) (by assumption) ?_; rotate_left; (rfl); (focus (intro w hSw; (try dsimp only at hSw); go_simp; try with_reducible rfl)); try simp only [Act.put, List.setIfInBounds_toArray, List.set_cons_zero, List.set_cons_succ])
        first | (refine wpAnyH_take (i := 11) (v := undef) (by simp only [List.getElem?_toArray, List.getElem?_cons_succ, List.getElem?_cons_zero]; exact rfl) (by kernel_rfl) (by kernel_rfl) (by kernel_rfl) (fun _ _ _ h => h) (Or.inr ⟨?_, rfl⟩) (by assumption) ?_; (rfl); try simp only [Act.put, List.setIfInBounds_toArray, List.set_cons_zero, List.set_cons_succ]) | (refine wpAnyH_take (i := 11) (v := ?_) (by simp only [List.getElem?_toArray, List.getElem?_cons_succ, List.getElem?_cons_zero]; exact rfl) (by kernel_rfl) (by kernel_rfl) (by kernel_rfl) (fun _ _ _ h => h) (Or.inl ⟨?_, ?_⟩) (by assumption) ?_; rotate_left; (rfl); (focus (intro w hSw; (try dsimp only at hSw); go_simp; try with_reducible rfl)); try simp only [Act.put, List.setIfInBounds_toArray, List.set_cons_zero, List.set_cons_succ])
        refine wpAnyH_ready (rs := [13]) (by kernel_rfl) (by simp) ?_
        refine AllReadyH.cons rfl (fun K hK => ?_) AllReadyH.nil
        rw [if_pos (by kernel_rfl)]
        refine wp_store_row 47 (.tmp 15) (.tmp 116) (by rfl) gR de.cs (by rfl) (by rfl) 47 #[.int .u8 0, .int .u8 0, .float .f64 0, .string ⟨#[]⟩, .int .i64 0, .int .u8 0, .float .f64 0, .string ⟨#[]⟩, .int .i64 0, .int .u8 0, .float .f64 0, .string ⟨#[]⟩, .int .i64 0, .bool false, .bool false, .bool false] (by exact RD_.out) (by kernel_rfl) (by rfl) (by exact (DI.one de)) ?_
        replace RD_ := hidB (RD_.out.setRow de.cs)
        replace hHeld := below_setRow hHeld hgB_gR de.cs
        refine put_none_K (by first | rfl | kernel_rfl) ?_
        refine hK.out _ _ hHeld (fun _ => ?_)
        clear hK K
        generalize hWn : v3.setRow gR de.cs = v4 at *
        clear hWn
        first | (refine wpAnyH_take (i := 14) (v := undef) (by simp only [List.getElem?_toArray, List.getElem?_cons_succ, List.getElem?_cons_zero]; exact rfl) (by kernel_rfl) (by kernel_rfl) (by kernel_rfl) (fun _ _ _ h => h) (Or.inr ⟨?_, rfl⟩) (by assumption) ?_; (rfl); try simp only [Act.put, List.setIfInBounds_toArray, List.set_cons_zero, List.set_cons_succ]) | (refine wpAnyH_take (i := 14) (v := ?_) (by simp only [List.getElem?_toArray, List.getElem?_cons_succ, List.getElem?_cons_zero]; exact rfl) (by kernel_rfl) (by kernel_rfl) (by kernel_rfl) (fun _ _ _ h => h) (Or.inl ⟨?_, ?_⟩) (by assumption) ?_; rotate_left; (rfl); (focus (intro w hSw; (try dsimp only at hSw); go_simp; try with_reducible rfl)); try simp only [Act.put, List.setIfInBounds_toArray, List.set_cons_zero, List.set_cons_succ])
        first | (refine wpAnyH_take (i := 15) (v := undef) (by simp only [List.getElem?_toArray, List.getElem?_cons_succ, List.getElem?_cons_zero]; exact rfl) (by kernel_rfl) (by kernel_rfl) (by kernel_rfl) (fun _ _ _ h => h) (Or.inr ⟨?_, rfl⟩) (by assumption) ?_; (rfl); try simp only [Act.put, List.setIfInBounds_toArray, List.set_cons_zero, List.set_cons_succ]) | (refine wpAnyH_take (i := 15) (v := ?_) (by simp only [List.getElem?_toArray, List.getElem?_cons_succ, List.getElem?_cons_zero]; exact rfl) (by kernel_rfl) (by kernel_rfl) (by kernel_rfl) (fun _ _ _ h => h) (Or.inl ⟨?_, ?_⟩) (by assumption) ?_; rotate_left; (rfl); (focus (intro w hSw; (try dsimp only at hSw); go_simp; try with_reducible rfl)); try simp only [Act.put, List.setIfInBounds_toArray, List.set_cons_zero, List.set_cons_succ])
        refine wpAnyH_done (by kernel_rfl) ?_ _
        refine NoPanic.normal ?_
        go_wp2_with fail
        go_meet
        case rel => exact ⟨_, rfl, rfl, rfl, RD_.out, hHeld⟩
      refine AllReadyH.cons rfl (fun K hK => ?_) AllReadyH.nil
      go_simp
      have RD_ := hidB (Bk.new wd 47 #[.int .u8 0, .int .u8 0, .float .f64 0, .string ⟨#[]⟩, .int .i64 0, .int .u8 0, .float .f64 0, .string ⟨#[]⟩, .int .i64 0, .int .u8 0, .float .f64 0, .string ⟨#[]⟩, .int .i64 0, .bool false, .bool false, .bool false])
      have hgB_gR := hHeld.size
      replace hHeld := hHeld.alloc hHeld.size (.cells #[.int .u8 0, .int .u8 0, .float .f64 0, .string ⟨#[]⟩, .int .i64 0, .int .u8 0, .float .f64 0, .string ⟨#[]⟩, .int .i64 0, .int .u8 0, .float .f64 0, .string ⟨#[]⟩, .int .i64 0, .bool false, .bool false, .bool false] 47)
      refine hK.out _ _ hHeld (fun _ => ?_)
      clear hK K
      try simp only [Act.put, List.setIfInBounds_toArray, List.set_cons_zero, List.set_cons_succ]
      generalize hWn : (wd.alloc (.cells #[.int .u8 0, .int .u8 0, .float .f64 0, .string ⟨#[]⟩, .int .i64 0, .int .u8 0, .float .f64 0, .string ⟨#[]⟩, .int .i64 0, .int .u8 0, .float .f64 0, .string ⟨#[]⟩, .int .i64 0, .bool false, .bool false, .bool false] 47)) = v1 at *
      clear hWn
      generalize hGn : wd.heap.size = gR at *
      clear hGn
      refine wpAnyH_ready (rs := [6]) (by kernel_rfl) (by simp) ?_
      refine AllReadyH.cons rfl (fun K hK => ?_) AllReadyH.nil
      go_simp
      refine (keyOf_any wPrototype _).mono ?_; rintro e v2 ⟨rfl, hb⟩
      replace RD_ := hidB (RD_.out.on hb)
      replace hHeld := hHeld.trans (hb.mono hHeld.size)
      clear hb
      refine hK.out _ _ hHeld (fun _ => ?_)
      clear hK K
      try simp only [Act.put, List.setIfInBounds_toArray, List.set_cons_zero, List.set_cons_succ]
      refine wpAnyH_ready (rs := [7]) (by kernel_rfl) (by simp) ?_
      refine AllReadyH.cons rfl (fun K hK => ?_) AllReadyH.nil
      go_simp
      refine (tfind_any (plI m) POK.out kProt (vs m) _ (RD.out _ hHeld)).mono ?_; rintro e v3 ⟨rfl, hb⟩
      rw [HDE.out]
      replace RD_ := hidB (RD_.out.on hb)
      replace hHeld := hHeld.trans (hb.mono hHeld.size)
      clear hb
      refine hK.out _ _ hHeld (fun _ => ?_)
      clear hK K
      try simp only [Act.put, List.setIfInBounds_toArray, List.set_cons_zero, List.set_cons_succ]
      first | (refine wpAnyH_take (i := 8) (v := undef) (by simp only [List.getElem?_toArray, List.getElem?_cons_succ, List.getElem?_cons_zero]; exact rfl) (by kernel_rfl) (by kernel_rfl) (by kernel_rfl) (fun _ _ _ h => h) (Or.inr ⟨?_, rfl⟩) (by assumption) ?_; (rfl); try simp only [Act.put, List.setIfInBounds_toArray, List.set_cons_zero, List.set_cons_succ]) | (refine wpAnyH_take (i := 8) (v := ?_) (by simp only [List.getElem?_toArray, List.getElem?_cons_succ, List.getElem?_cons_zero]; exact rfl) (by kernel_rfl) (by kernel_rfl) (by kernel_rfl) (fun _ _ _ h => h) (Or.inl ⟨?_, ?_⟩) (by assumption) ?_; rotate_left; (rfl); (focus (intro w hSw; (try dsimp only at hSw); go_simp; try with_reducible rfl)); try simp only [Act.put, List.setIfInBounds_toArray, List.set_cons_zero, List.set_cons_succ])
      first | (refine wpAnyH_take (i := 9) (v := undef) (by simp only [List.getElem?_toArray, List.getElem?_cons_succ, List.getElem?_cons_zero]; exact rfl) (by kernel_rfl) (by kernel_rfl) (by kernel_rfl) (fun _ _ _ h => h) (Or.inr ⟨?_, rfl⟩) (by assumption) ?_; (rfl); try simp only [Act.put, List.setIfInBounds_toArray, List.set_cons_zero, List.set_cons_succ]) | (refine wpAnyH_take (i := 9) (v := ?_) (by simp only [List.getElem?_toArray, List.getElem?_cons_succ, List.getElem?_cons_zero]; exact rfl) (by kernel_rfl) (by kernel_rfl) (by kernel_rfl) (fun _ _ _ h => h) (Or.inl ⟨?_, ?_⟩) (by assumption) ?_; rotate_left; (rfl); (focus (intro w hSw; (try dsimp only at hSw); go_simp; try with_reducible rfl)); try simp only [Act.put, List.setIfInBounds_toArray, List.set_cons_zero, List.set_cons_succ])
      first | (refine wpAnyH_take (i := 10) (v := undef) (by simp only [List.getElem?_toArray, List.getElem?_cons_succ, List.getElem?_cons_zero]; exact rfl) (by kernel_rfl) (by kernel_rfl) (by kernel_rfl) (fun _ _ _ h => h) (Or.inr ⟨?_, rfl⟩) (by assumption) ?_; (rfl); try simp only [Act.put, List.setIfInBounds_toArray, List.set_cons_zero, List.set_cons_succ]) | (refine wpAnyH_take (i := 10) (v := ?_) (by simp only [List.getElem?_toArray, List.getElem?_cons_succ, List.getElem?_cons_zero]; exact rfl) (by kernel_rfl) (by kernel_rfl) (by kernel_rfl) (fun _ _ _ h => h) (Or.inl ⟨?_, ?_⟩) (by assumption) ?_; rotate_left; (rfl); (focus (intro w hSw; (try dsimp only at hSw); go_simp; try with_reducible rfl)); try simp only [Act.put, List.setIfInBounds_toArray, List.set_cons_zero, List.set_cons_succ])
      first | (refine wpAnyH_take (i := 11) (v := undef) (by simp only [List.getElem?_toArray, List.getElem?_cons_succ, List.getElem?_cons_zero]; exact rfl) (by kernel_rfl) (by kernel_rfl) (by kernel_rfl) (fun _ _ _ h => h) (Or.inr ⟨?_, rfl⟩) (by assumption) ?_; (rfl); try simp only [Act.put, List.setIfInBounds_toArray, List.set_cons_zero, List.set_cons_succ]) | (refine wpAnyH_take (i := 11) (v := ?_) (by simp only [List.getElem?_toArray, List.getElem?_cons_succ, List.getElem?_cons_zero]; exact rfl) (by kernel_rfl) (by kernel_rfl) (by kernel_rfl) (fun _ _ _ h => h) (Or.inl ⟨?_, ?_⟩) (by assumption) ?_; rotate_left; (rfl); (focus (intro w hSw; (try dsimp only at hSw); go_simp; try with_reducible rfl)); try simp only [Act.put, List.setIfInBounds_toArray, List.set_cons_zero, List.set_cons_succ])
      refine wpAnyH_ready (rs := [13]) (by kernel_rfl) (by simp) ?_
      refine AllReadyH.cons rfl (fun K hK => ?_) AllReadyH.nil
      rw [if_pos (by kernel_rfl)]
      refine wp_store_row 47 (.tmp 15) (.tmp 116) (by rfl) gR de.cs (by rfl) (by rfl) 47 #[.int .u8 0, .int .u8 0, .float .f64 0, .string ⟨#[]⟩, .int .i64 0, .int .u8 0, .float .f64 0, .string ⟨#[]⟩, .int .i64 0, .int .u8 0, .float .f64 0, .string ⟨#[]⟩, .int .i64 0, .bool false, .bool false, .bool false] (by exact RD_.out) (by kernel_rfl) (by rfl) (by exact (DI.one de)) ?_
      replace RD_ := hidB (RD_.out.setRow de.cs)
      replace hHeld := below_setRow hHeld hgB_gR de.cs
      refine put_none_K (by first | rfl | kernel_rfl) ?_
      refine hK.out _ _ hHeld (fun _ => ?_)
      clear hK K
      generalize hWn : v3.setRow gR de.cs = v4 at *
      clear hWn
      first | (refine wpAnyH_take (i := 14) (v := undef) (by simp only [List.getElem?_toArray, List.getElem?_cons_succ, List.getElem?_cons_zero]; exact rfl) (by kernel_rfl) (by kernel_rfl) (by kernel_rfl) (fun _ _ _ h => h) (Or.inr ⟨?_, rfl⟩) (by assumption) ?_; (rfl); try simp only [Act.put, List.setIfInBounds_toArray, List.set_cons_zero, List.set_cons_succ]) | (refine wpAnyH_take (i := 14) (v := ?_) (by simp only [List.getElem?_toArray, List.getElem?_cons_succ, List.getElem?_cons_zero]; exact rfl) (by kernel_rfl) (by kernel_rfl) (by kernel_rfl) (fun _ _ _ h => h) (Or.inl ⟨?_, ?_⟩) (by assumption) ?_; rotate_left; (rfl); (focus (intro w hSw; (try dsimp only at hSw); go_simp; try with_reducible rfl)); try simp only [Act.put, List.setIfInBounds_toArray, List.set_cons_zero, List.set_cons_succ])
      first | (refine wpAnyH_take (i := 15) (v := undef) (by simp only [List.getElem?_toArray, List.getElem?_cons_succ, List.getElem?_cons_zero]; exact rfl) (by kernel_rfl) (by kernel_rfl) (by kernel_rfl) (fun _ _ _ h => h) (Or.inr ⟨?_, rfl⟩) (by assumption) ?_; (rfl); try simp only [Act.put, List.setIfInBounds_toArray, List.set_cons_zero, List.set_cons_succ]) | (refine wpAnyH_take (i := 15) (v := ?_) (by simp only [List.getElem?_toArray, List.getElem?_cons_succ, List.getElem?_cons_zero]; exact rfl) (by kernel_rfl) (by kernel_rfl) (by kernel_rfl) (fun _ _ _ h => h) (Or.inl ⟨?_, ?_⟩) (by assumption) ?_; rotate_left; (rfl); (focus (intro w hSw; (try dsimp only at hSw); go_simp; try with_reducible rfl)); try simp only [Act.put, List.setIfInBounds_toArray, List.set_cons_zero, List.set_cons_succ])
      refine wpAnyH_done (by kernel_rfl) ?_ _
      refine NoPanic.normal ?_
      go_wp2_with fail
      go_meet
      case rel => exact ⟨_, rfl, rfl, rfl, RD_.out, hHeld⟩
    case rest =>
    obtain ⟨ge, rfl, rfl, rfl, hD, hb⟩ := hcut
    have D2 := hidB hD
    replace Y6 := hidB (Y6.out.on hb)
    replace BB := hidB (BB.out.trans (hb.mono (Nat.le_of_lt X.out.lt)))
    replace X := hidB (X.out.on hb)
    replace B6 := hidB (B6.out.trans (hb.mono B6.out.size))
    clear hb
    clear hD RD HMC HDE POK
    have f4 : wc.cell? ⟨ge, 4, none⟩ = some (.int .i64 (k : Int)) := HRN.out ▸ D2.out.cell 4
    have f13 : wc.cell? ⟨ge, 13, none⟩ = some (.bool false) := HWR.out ▸ D2.out.cell 13
    have f15 : wc.cell? ⟨ge, 15, none⟩ = some (.bool false) := HCF.out ▸ D2.out.cell 15
    go_wp2_with fail
    go_meet
    case rel => exact ⟨X.out, Y6.out, B6.out, BB.out⟩
  case rest =>
  obtain ⟨hX, hY, hb6, hbb⟩ := hcut
  replace X := hidB hX
  replace Y6 := hidB hY
  replace B6 := hidB hb6
  replace BB := hidB hbb
  clear hX hY hb6 hbb T4
  skip
  have HDK := hidB (dpt_le k)
  go_wp2_with fail
  go_loopg [18, 19] 5 (fun gn s18 s19 wr => ∃ i a : Nat, gn = 5 - i ∧ i ≤ 4 ∧ s19 = .int .i64 i ∧ s18 = .int .i64 a ∧ a < 72 ∧ dpt a + i ≤ 4 ∧ Bk wr gh 38 #[(.slice (some ⟨g, 0, none⟩) 72 c)] ∧ Below w.heap.size w wr ∧ Below gx w5 wr ∧ gx ≤ wr.heap.size)
  case atStart => exact ⟨0, k, rfl, by decide, rfl, rfl, hk, by have := HDK.out; omega, Y6.out, B6.out, BB.out, Nat.le_of_lt X.out.lt⟩
  case round =>
    clear X Y6 B6 BB
    obtain ⟨i, a, rfl, hi, rfl, rfl, ha, hd, hY, hb6, hbb, hgx⟩ := hrel
    have Y := hidB hY
    have B := hidB hb6
    have BB := hidB hbb
    have HGX := hidB hgx
    have HD := hidB hd
    clear hY hb6 hbb hgx hd
    have y0 : wr.cell? ⟨gh, 0, none⟩ = some (.slice (some ⟨g, 0, none⟩) 72 c) := Y.out.cell 0
    have hi0 : (0 : Int) ≤ (i : Int) := by omega
    have ha0 : (0 : Int) ≤ (a : Int) := by omega
    have ha72 : (a : Int) < 72 := by omega
    by_cases hz : a = 0
    · subst hz
      have r0 : wr.cell? ⟨g, 1, none⟩ = some (.int .u8 1) := ROW.out 0 (by decide) wr BB.out 1 _ rfl
      by_cases h4 : i < 4
      · have h4i : (i : Int) < 4 := by omega
        go_wp2_with fail
        go_ret
        exact ⟨rfl, B.out⟩
      · have h4i : ¬ (i : Int) < 4 := by omega
        go_wp2_with fail
        go_ret
        exact ⟨rfl, B.out⟩
    have h4 : i < 4 := by have := HD.out; have := dpt_pos hz; omega
    have h4i : (i : Int) < 4 := by omega
    have hz1 : ((a : Int) == 0) = false := by rw [beq_eq_false_iff_ne]; omega
    have hz2 : ((a : Int) != 0) = true := by rw [bne, hz1]; rfl
    have T := at24 st5 ha
    simp only [decide_eq_false hz, Bool.false_or, Bool.and_eq_true, decide_eq_true_eq] at T
    obtain ⟨t1, t2, t3, t4⟩ := T
    obtain ⟨b, hpb⟩ : ∃ b : Nat, pR (a : Int) = (b : Int) := ⟨(pR a).toNat, by omega⟩
    rw [hpb, Int.toNat_natCast] at t4
    have hb72 : b < 72 := by omega
    have T1 := hidB t1
    have T4 := hidB t4
    clear t1 t2 t3 t4 hz
    have HPR := hidB (show wr.rangeAt g (a * 18 + 1) (VI.mk (pK (a : Int)) 0 ⟨#[]⟩ (b : Int)).cells from fun j u hj => by rw [← hpb] at hj; have h1 := range_field (ROW.out a ha wr BB.out) 1 4; exact h1 j u hj)
    clear hpb
    generalize pK (a : Int) = kk at *
    have PX := hidB (show Bk (wr.alloc (.cells (VI.mk kk 0 ⟨#[]⟩ (b : Int)).cells.toArray 33)) wr.heap.size 33 (VI.mk kk 0 ⟨#[]⟩ (b : Int)).cells.toArray from Bk.new wr _ _)
    have hb := box_one wr (.cells (VI.mk kk 0 ⟨#[]⟩ (b : Int)).cells.toArray 33)
    have Y7 := hidB (Y.out.on hb)
    have B7 := hidB (B.out.trans (hb.mono B.out.size))
    have BB7 := hidB (BB.out.trans (hb.mono HGX.out))
    have HGX7 := hidB (Nat.le_trans HGX.out hb.size)
    clear hb Y B BB HGX
    go_upto_region 30 with (first | ((with_reducible refine ldId 33 (.tmp 153) ?_); refine wpList_load_mid (by rfl) 33 (.tmp 153) (by rfl) g (a * 18 + 1) (by rfl) (VI.mk kk 0 ⟨#[]⟩ (b : Int)).cells _ (by exact HPR.out) Try.underlying33 (by rfl) (by kernel_rfl) ?_) | ((with_reducible refine wpId ?_); refine wpList_store_new (by rfl) 33 (.tmp 20) (.tmp 154) (by rfl) (VI.mk kk 0 ⟨#[]⟩ (b : Int)).cells.toArray 33 _ (by rfl) (by rfl) (by kernel_rfl) (by rfl) (by rfl) ?_))
    clear y0 HPR
    generalize hW : (wr.alloc (.cells (VI.mk kk 0 ⟨#[]⟩ (b : Int)).cells.toArray 33)) = w7 at *
    generalize hG : wr.heap.size = gp at *
    clear hW hG
    go_wp2_with (first | ((with_reducible refine ldId 33 (.tmp 20) ?_); refine wpList_load_row (by rfl) 33 (.tmp 20) (by rfl) (gp) (by rfl) 33 ((VI.mk kk 0 ⟨#[]⟩ (b : Int)).cells.toArray) (0, 0) _ (by exact PX.out) Try.underlying33 (by rfl) (by kernel_rfl) ?_))
    refine (isObj_any kk 0 ⟨#[]⟩ (b : Int) _).mono ?_; rintro e w8 ⟨rfl, hb1⟩
    have hb := hb1 ▸ box_one w7 (.cells (VI.mk kk 0 ⟨#[]⟩ (b : Int)).cells.toArray 33)
    replace PX := hidB (PX.out.on hb)
    replace Y7 := hidB (Y7.out.on hb)
    replace B7 := hidB (B7.out.trans (hb.mono B7.out.size))
    replace BB7 := hidB (BB7.out.trans (hb.mono HGX7.out))
    replace HGX7 := hidB (Nat.le_trans HGX7.out hb.size)
    clear hb hb1
    rw [T1.out]
    have p3 : w8.cell? ⟨gp, 3, none⟩ = some (.int .i64 (b : Int)) := PX.out.cell 3
    have y0 : w8.cell? ⟨gh, 0, none⟩ = some (.slice (some ⟨g, 0, none⟩) 72 c) := Y7.out.cell 0
    have hb0 : (0 : Int) ≤ (b : Int) := by omega
    have hb72i : (b : Int) < 72 := by omega
    go_wp2_with fail
    go_roundg (5 - (i + 1))
    case measure => omega
    case rel => exact ⟨i + 1, b, rfl, by omega, by go_num, rfl, hb72, by have := HD.out; have := T4.out; omega, Y7.out, B7.out, BB7.out, HGX7.out⟩

end Go.Proofs.Ytchpkopeblgifaa
