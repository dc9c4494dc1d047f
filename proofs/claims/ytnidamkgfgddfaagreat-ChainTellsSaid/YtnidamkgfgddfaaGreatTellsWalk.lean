/-
  The walk of ChainTells.
-/
import Derived.Test.YtnidamkgfgddfaaGreatRefRev
namespace Go.Proofs.YtnidamkgfgddfaaGreat
open Go.RowKit

/-- What is made; its number; what is revoked; what is told. -/
def heapM (H : HI) (n m : Int) : HI := if mkE H n m = 0 then H ++ [(prxO H n.toNat m.toNat, [])] else []
def numM (H : HI) (n m : Int) : Int := if mkE H n m = 0 then (H.length : Int) else 0
def heapV (H : HI) (n : Int) : HI := if rvE H n = 0 then revH H n.toNat else []
def dwnV (H : HI) (n : Int) : List Nat := if askE H [n] = 0 then dwn H n.toNat else []
def cutV (H : HI) (n : Int) : Bool := if askE H [n] = 0 then cutB H n.toNat else false
theorem FrB.nil (B : Nat) (w : World) : FrB B [] (.slice none 0 0) w := ⟨[], rfl, FreshH.nil _ _⟩
theorem MakeF.form {H : HI} {n m : Int} {w w' : World} {e : Ending} (q : MakeF H n m w e w') : ∃ v, e = .returned (.tuple #[.agg #[v], .int .i64 (numM H n m), .int .i64 (mkE H n m)]) ∧ FrB w.heap.size (heapM H n m) v w' ∧ Below w.heap.size w w' := by
  obtain ⟨hb, ⟨h1, rfl⟩ | ⟨h1, v, rfl, hf⟩⟩ := q
  · exact ⟨_, by unfold numM; rw [if_neg h1], by unfold heapM; rw [if_neg h1]; exact FrB.nil _ _, hb⟩
  · exact ⟨v, by unfold numM; rw [if_pos h1, h1], by unfold heapM; rw [if_pos h1]; exact hf, hb⟩
theorem RevF.form {H : HI} {n : Int} {w w' : World} {e : Ending} (q : RevF H n w e w') : ∃ v, e = .returned (.tuple #[.agg #[v], .int .i64 (rvE H n)]) ∧ FrB w.heap.size (heapV H n) v w' ∧ Below w.heap.size w w' := by
  obtain ⟨hb, ⟨h1, rfl⟩ | ⟨h1, v, rfl, hf⟩⟩ := q
  · exact ⟨_, rfl, by unfold heapV; rw [if_neg h1]; exact FrB.nil _ _, hb⟩
  · exact ⟨v, by rw [h1], by unfold heapV; rw [if_pos h1]; exact hf, hb⟩
theorem DownQ.form {H : HI} {n : Int} {w w' : World} {e : Ending} (q : DownQ H n w e w') : ∃ v, e = .returned (.tuple #[v, .bool (cutV H n), .int .i64 (askE H [n])]) ∧ RdN (dwnV H n) v w' ∧ Below w.heap.size w w' := by
  obtain ⟨hb, ⟨h1, rfl⟩ | ⟨h1, v, rfl, hf⟩⟩ := q
  · exact ⟨_, by unfold cutV; rw [if_neg h1], by unfold dwnV; rw [if_neg h1]; exact RdN.nil _, hb⟩
  · exact ⟨v, by unfold cutV; rw [if_pos h1, h1], by unfold dwnV; rw [if_pos h1]; exact RdN.own hf, hb⟩
theorem RdN.form {l : List Nat} {v : Value} {w : World} (h : RdN l v w) : ∃ p c, v = .slice p l.length c := by
  obtain ⟨p, c, e, _⟩ := h
  exact ⟨p, c, e⟩
theorem FrB.form {B : Nat} {H : HI} {v : Value} {w : World} (f : FrB B H v w) : ∃ p c, v = .slice p H.length c := f.rd.form
theorem FrB.short {B : Nat} {H : HI} {v : Value} {w : World} (f : FrB B H v w) : H.length ≤ 9223372036854775807 := by
  obtain ⟨h, e, r⟩ := f.rd
  obtain ⟨_, _, _, h1, h2, _⟩ := r.rd
  have := bareH_length e
  unfold maxLen at h2
  omega
theorem FrB.block {B : Nat} {H : HI} {p : Option Addr} {c : Nat} {w : World} (f : FrB B H (.slice p H.length c) w) : 0 < H.length → ∃ ga cur, p = some ⟨ga, 0, none⟩ ∧ B ≤ ga ∧ Bk w ga 46 cur ∧ H.length * 18 ≤ cur.size := fun h0 => by
  obtain ⟨h, e, f⟩ := f
  have hl := bareH_length e
  rcases f.own.2 with ⟨hv, hz⟩ | ⟨g, cap, cur, hv, hb, hg, hc, hm, hs, ht⟩
  · omega
  · simp only [Value.slice.injEq] at hv
    exact ⟨g, cur, hv.1, hb, hg, by rw [hs]; exact Nat.mul_le_mul_right 18 (by omega)⟩
/-- What large tells. -/
def LgQ (h : HI) (w : World) (e : Ending) (w' : World) : Prop := ∃ b, e = .returned (.bool b) ∧ (b = false → h.length ≤ 5000 ∧ ∀ e ∈ h, e.2.length ≤ 100) ∧ Below w.heap.size w w'
theorem LgQ.mk {h : HI} {w w' : World} (b : Bool) (hq : b = false → h.length ≤ 5000 ∧ ∀ e ∈ h, e.2.length ≤ 100) (hb : Below w.heap.size w w') : LgQ h w (.returned (.bool b)) w' := ⟨b, rfl, hq, hb⟩
set_option maxHeartbeats 8000000 in
set_option maxRecDepth 100000 in
theorem rlarge_any (h : HI) (hv : Value) (w : World) (hr : RdH h hv w) : Calls Tryz.prog 4 #[.agg #[hv]] w (LgQ h w) := by
  have HPR := hidB hr.props
  obtain ⟨⟨pa, c, rfl, h1, h2, h3⟩, _⟩ := hr
  unfold maxLen at h2
  have hlm : h.length ≤ 9223372036854775807 := by omega
  have HC := hidB h3
  clear h3 h1
  have Y := hidB (show Bk (w.alloc (.cells (#[(.slice pa h.length c)]) 24)) (w.heap.size) 24 (#[(.slice pa h.length c)]) from Bk.new w _ _)
  have B := hidB (show Below w.heap.size w (w.alloc (.cells (#[(.slice pa h.length c)]) 24)) from box_one w _)
  go_enter Tryz.func4, Tryz.ntmps4
  go_upto_region 1 with fail
  generalize hW : (w.alloc (.cells (#[(.slice pa h.length c)]) 24)) = w1 at *
  clear hW
  have y0 : w1.cell? ⟨w.heap.size, 0, none⟩ = some (.slice pa h.length c) := Y.out.cell 0
  go_cut [19] from 4 to 19 (fun s19 wx => ∃ q, s19 = .bool q ∧ (q = false → h.length ≤ 5000) ∧ w1 = wx)
  case first =>
    have hh : (120 < h.length ∧ h.length ≤ 4096) ∨ (5000 < h.length ∨ (h.length ≤ 5000 ∧ (h.length ≤ 120 ∨ 4096 < h.length))) := by omega
    rcases hh with ⟨a1, a2⟩ | a1 | ⟨a1, a2 | a2⟩
    · have b1 : (120 : Int) < (h.length : Int) := (by omega); have b2 : (h.length : Int) ≤ (4096 : Int) := (by omega)
      go_wp2_with fail
      all_goals first | (exfalso; omega) | (go_meet; (case rel => exact ⟨_, rfl, fun h0 => (by first | omega | cases h0), rfl⟩))
    · have b1 : (120 : Int) < (h.length : Int) := (by omega); have b2 : (4096 : Int) < (h.length : Int) := (by omega); have b3 : (5000 : Int) < (h.length : Int) := (by omega)
      go_wp2_with fail
      all_goals first | (exfalso; omega) | (go_meet; (case rel => exact ⟨_, rfl, fun h0 => (by first | omega | cases h0), rfl⟩))
    · have b1 : (h.length : Int) ≤ (120 : Int) := (by omega); have b3 : (h.length : Int) ≤ (5000 : Int) := (by omega)
      go_wp2_with fail
      all_goals first | (exfalso; omega) | (go_meet; (case rel => exact ⟨_, rfl, fun h0 => (by first | omega | cases h0), rfl⟩))
    · have b1 : (120 : Int) < (h.length : Int) := (by omega); have b2 : (4096 : Int) < (h.length : Int) := (by omega); have b3 : (h.length : Int) ≤ (5000 : Int) := (by omega)
      go_wp2_with fail
      all_goals first | (exfalso; omega) | (go_meet; (case rel => exact ⟨_, rfl, fun h0 => (by first | omega | cases h0), rfl⟩))
  case rest =>
  obtain ⟨q, rfl, hq, rfl⟩ := hcut
  have HQ := hidB hq
  clear hq y0
  cases q
  rotate_left
  · go_wp2_with fail
    go_ret
    exact LgQ.mk true (fun h0 => by cases h0) B.out
  have HL5 := hidB (HQ.out rfl)
  go_wp2_with fail
  go_loopw [3] (fun s3 wr => ∃ i : Nat, i ≤ h.length ∧ s3 = .int .i64 i ∧ (∀ j (hj : j < h.length), j < i → (h[j]'hj).2.length ≤ 100) ∧ Bk wr w.heap.size 24 #[(.slice pa h.length c)] ∧ Below w.heap.size w wr) (fun i _ => h.length - (intOf i).toNat)
  case atStart => exact ⟨0, by omega, rfl, fun j hj h0 => absurd h0 (by omega), Y.out, B.out⟩
  case round =>
    obtain ⟨i, hi, rfl, ha, hy, hb⟩ := hrel
    have HA := hidB ha
    replace Y := hidB hy
    replace B := hidB hb
    clear ha hy hb
    have hx2 : (0 : Int) ≤ (i : Int) := by omega
    have y0 : wr.cell? ⟨w.heap.size, 0, none⟩ = some (.slice pa h.length c) := Y.out.cell 0
    by_cases hlt : i < h.length
    rotate_left
    · obtain rfl : i = h.length := by omega
      have hx4 : ¬ ((h.length : Int) < (h.length : Int)) := by omega
      have HAL : Hid (∀ e ∈ h, e.2.length ≤ 100) := hidB (fun e he => by obtain ⟨j, hj, rfl⟩ := List.getElem_of_mem he; exact HA.out j hj hj)
      clear HA HC hi hlt
      go_wp2_with fail
      go_ret
      exact LgQ.mk false (fun _ => ⟨HL5.out, HAL.out⟩) B.out
    have hx1 : (i : Int) < (h.length : Int) := by omega
    obtain ⟨g, o, rfl, hgl, hrow⟩ := HC.out (by omega)
    have HP := HPR.out _ (List.getElem_mem hlt)
    obtain ⟨p1, c1, hpp, hl1, hl2, hl4⟩ := HP
    unfold maxLen at hl2
    have z6 : wr.cell? ⟨g, o + i * 18 + 6, none⟩ = some (.slice p1 (h[i]'hlt).2.length c1) := by rw [← hpp]; exact rangeOn B.out hgl (hrow i hlt) 6 _ rfl
    have hl3 : (h[i]'hlt).2.length ≤ 9223372036854775807 := by omega
    have HN : Hid ((h[i]'hlt).2.length ≤ 100 → ∀ j (hj : j < h.length), j < i + 1 → (h[j]'hj).2.length ≤ 100) := hidB (fun hn j hj hji => (Nat.lt_or_ge j i).elim (fun h5 => HA.out j hj h5) (fun h5 => by have e : j = i := (by omega); subst e; exact hn))
    clear hgl hrow hpp hl1 hl2 hl4 HA
    generalize (h[i]'hlt).2.length = k at *
    by_cases hk : k ≤ 100
    rotate_left
    · have hki : (100 : Int) < (k : Int) := by omega
      go_wp2_with fail
      go_ret
      exact LgQ.mk true (fun h0 => by cases h0) B.out
    have hki : (k : Int) ≤ (100 : Int) := by omega
    have HN2 := hidB (HN.out hk)
    clear HN hk
    go_wp2_with fail
    all_goals first | (exfalso; omega) | (go_roundw; (case rel => exact ⟨i + 1, by omega, by go_num, HN2.out, Y.out, B.out⟩); (case measure => simp [intOf]; omega))
set_option maxHeartbeats 8000000 in
set_option maxRecDepth 100000 in
theorem law_tells (h : HI) (hok : HOk h) (hk : HKeys h) (hby : HBytes h) (hv : Value) (n m : Int) (w : World) (hr : RdH h hv w) : Calls Tryz.prog 3 #[.agg #[hv], .int .i64 n, .int .i64 m] w fun e w' => e = .returned (.bool true) ∧ Below w.heap.size w w' := by
  have HRD := hidB (fun W (hb : Below w.heap.size w W) => hr.on hb)
  have HOK := hidB hok
  have HKY := hidB hk
  have HBY := hidB hby
  clear hok hk hby hr
  have Y := hidB (show Bk (w.alloc (.cells (#[hv]) 24)) (w.heap.size) 24 (#[hv]) from Bk.new w _ _)
  have B := hidB (show Below w.heap.size w (w.alloc (.cells (#[hv]) 24)) from box_one w _)
  go_enter Tryz.func3, Tryz.ntmps3
  go_upto_region 1 with fail
  generalize hW : (w.alloc (.cells (#[hv]) 24)) = w1 at *
  clear hW
  go_wp2_with (first | ((with_reducible refine ldId 24 (.tmp 3) ?_); refine wpList_load_row (by rfl) 24 (.tmp 3) (by rfl) (w.heap.size) (by rfl) 24 (#[hv]) (0, 0) _ (by exact Y.out) Tryz.underlying24 (by rfl) (by kernel_rfl) ?_))
  refine (rlarge_any h hv _ (HRD.out _ B.out)).mono ?_; rintro e w2 ⟨b, rfl, hq, hb⟩
  replace Y := hidB (Y.out.on hb); replace B := hidB (B.out.trans (hb.mono B.out.size)); clear hb
  have HQ := hidB hq
  clear hq
  cases b
  rotate_left
  · go_wp2_with fail
    go_ret
    exact ⟨rfl, B.out⟩
  have HL := hidB (HQ.out rfl)
  clear HQ
  go_wp2_with (first | ((with_reducible refine ldId 24 (.tmp 3) ?_); refine wpList_load_row (by rfl) 24 (.tmp 3) (by rfl) (w.heap.size) (by rfl) 24 (#[hv]) (0, 0) _ (by exact Y.out) Tryz.underlying24 (by rfl) (by kernel_rfl) ?_))
  refine (rtwin_any h hv _ (HRD.out _ B.out) (fun e he => Nat.le_trans (HL.out.2 e he) (by decide)) (Nat.le_trans HL.out.1 (by decide))).mono ?_; rintro e w3 ⟨tv, rfl, hfr, hb⟩
  replace Y := hidB (Y.out.on hb)
  replace B := hidB (B.out.trans (Below.mono hb B.out.size))
  clear hb
  have FO := hidB hfr.rd
  clear hfr
  obtain ⟨qo, co, hvo⟩ := FO.out.form
  subst hvo
  have hb2 := box_one w3 (.cells #[(.slice qo h.length co)] 24)
  replace Y := hidB (Y.out.on hb2)
  replace FO := hidB (FO.out.on hb2)
  replace B := hidB (B.out.trans (Below.mono hb2 B.out.size))
  have O := hidB (Bk.new w3 24 #[(.slice qo h.length co)])
  clear hb2
  go_upto_region 4 with (first | ((with_reducible refine wpId ?_); refine wpList_store_new (by rfl) 24 (.tmp 7) (.tmp 42) (by rfl) #[(.slice qo h.length co)] 24 _ (by rfl) (by rfl) (by kernel_rfl) (by rfl) (by rfl) ?_))
  generalize (w3.alloc (.cells #[(.slice qo h.length co)] 24)) = w4 at *
  generalize w3.heap.size = b7 at *
  have HOWN := hidB (fun W (hb : Below w4.heap.size w4 W) => FO.out.on hb)
  have B4 := hidB (Below.refl w4.heap.size w4)
  have HWW := hidB B.out.size
  clear FO
  go_wp2_with (first | ((with_reducible refine ldId 24 (.tmp 7) ?_); refine wpList_load_row (by rfl) 24 (.tmp 7) (by rfl) (b7) (by rfl) 24 (#[(.slice qo h.length co)]) (0, 0) _ (by exact O.out) Tryz.underlying24 (by rfl) (by kernel_rfl) ?_))
  refine (make_fr HOK.out HKY.out (HOWN.out _ B4.out) n m).mono ?_; intro e u0 hq
  obtain ⟨v, rfl, hf, hb⟩ := hq.form
  replace Y := hidB (Y.out.on hb)
  replace O := hidB (O.out.on hb)
  replace B := hidB (B.out.trans (Below.mono hb B.out.size))
  replace B4 := hidB (B4.out.trans (Below.mono hb B4.out.size))
  clear hb
  have FA := hidB hf
  clear hf
  obtain ⟨q0, c0, hv0⟩ := FA.out.form
  subst hv0
  have HLA := hidB (FA.out.low (Nat.le_refl _))
  clear HLA
  have hb2 := box_one u0 (.cells #[(.slice q0 (heapM h n m).length c0)] 24)
  replace Y := hidB (Y.out.on hb2)
  replace O := hidB (O.out.on hb2)
  replace FA := hidB (FA.out.on hb2)
  replace B := hidB (B.out.trans (Below.mono hb2 B.out.size))
  replace B4 := hidB (B4.out.trans (Below.mono hb2 B4.out.size))
  have A := hidB (Bk.new u0 24 #[(.slice q0 (heapM h n m).length c0)])
  clear hb2
  go_upto_region 5 with (first | ((with_reducible refine wpId ?_); refine wpList_store_new (by rfl) 24 (.tmp 8) (.tmp 48) (by rfl) #[(.slice q0 (heapM h n m).length c0)] 24 _ (by rfl) (by rfl) (by kernel_rfl) (by rfl) (by rfl) ?_))
  generalize (u0.alloc (.cells #[(.slice q0 (heapM h n m).length c0)] 24)) = w5 at *
  generalize u0.heap.size = b8 at *
  go_wp2_with (first | ((with_reducible refine ldId 24 (.tmp 3) ?_); refine wpList_load_row (by rfl) 24 (.tmp 3) (by rfl) (w.heap.size) (by rfl) 24 (#[hv]) (0, 0) _ (by exact Y.out) Tryz.underlying24 (by rfl) (by kernel_rfl) ?_))
  refine (rmake_any h HOK.out HKY.out HBY.out hv n m _ (HRD.out _ B.out)).mono ?_; intro e u1 hq
  obtain ⟨v, rfl, hf, hb⟩ := hq.form
  replace Y := hidB (Y.out.on hb)
  replace O := hidB (O.out.on hb)
  replace FA := hidB (FA.out.on hb)
  replace A := hidB (A.out.on hb)
  replace B := hidB (B.out.trans (Below.mono hb B.out.size))
  replace B4 := hidB (B4.out.trans (Below.mono hb B4.out.size))
  clear hb
  have FB_ := hidB hf
  clear hf
  obtain ⟨q1, c1, hv1⟩ := FB_.out.form
  subst hv1
  have hb2 := box_one u1 (.cells #[(.slice q1 (heapM h n m).length c1)] 24)
  replace Y := hidB (Y.out.on hb2)
  replace O := hidB (O.out.on hb2)
  replace FA := hidB (FA.out.on hb2)
  replace A := hidB (A.out.on hb2)
  replace FB_ := hidB (FB_.out.on hb2)
  replace B := hidB (B.out.trans (Below.mono hb2 B.out.size))
  replace B4 := hidB (B4.out.trans (Below.mono hb2 B4.out.size))
  have A2 := hidB (Bk.new u1 24 #[(.slice q1 (heapM h n m).length c1)])
  clear hb2
  go_upto_region 6 with (first | ((with_reducible refine wpId ?_); refine wpList_store_new (by rfl) 24 (.tmp 11) (.tmp 56) (by rfl) #[(.slice q1 (heapM h n m).length c1)] 24 _ (by rfl) (by rfl) (by kernel_rfl) (by rfl) (by rfl) ?_))
  generalize (u1.alloc (.cells #[(.slice q1 (heapM h n m).length c1)] 24)) = w6 at *
  generalize u1.heap.size = b11 at *
  go_wp2_with (first | ((with_reducible refine ldId 24 (.tmp 7) ?_); refine wpList_load_row (by rfl) 24 (.tmp 7) (by rfl) (b7) (by rfl) 24 (#[(.slice qo h.length co)]) (0, 0) _ (by exact O.out) Tryz.underlying24 (by rfl) (by kernel_rfl) ?_))
  refine (revoke_fr HOK.out HKY.out (HOWN.out _ B4.out) n).mono ?_; intro e u2 hq
  obtain ⟨v, rfl, hf, hb⟩ := hq.form
  replace Y := hidB (Y.out.on hb)
  replace O := hidB (O.out.on hb)
  replace FA := hidB (FA.out.on hb)
  replace A := hidB (A.out.on hb)
  replace FB_ := hidB (FB_.out.on hb)
  replace A2 := hidB (A2.out.on hb)
  replace B := hidB (B.out.trans (Below.mono hb B.out.size))
  replace B4 := hidB (B4.out.trans (Below.mono hb B4.out.size))
  clear hb
  have FC := hidB hf
  clear hf
  obtain ⟨q2, c2, hv2⟩ := FC.out.form
  subst hv2
  have hb2 := box_one u2 (.cells #[(.slice q2 (heapV h n).length c2)] 24)
  replace Y := hidB (Y.out.on hb2)
  replace O := hidB (O.out.on hb2)
  replace FA := hidB (FA.out.on hb2)
  replace A := hidB (A.out.on hb2)
  replace FB_ := hidB (FB_.out.on hb2)
  replace A2 := hidB (A2.out.on hb2)
  replace FC := hidB (FC.out.on hb2)
  replace B := hidB (B.out.trans (Below.mono hb2 B.out.size))
  replace B4 := hidB (B4.out.trans (Below.mono hb2 B4.out.size))
  have C := hidB (Bk.new u2 24 #[(.slice q2 (heapV h n).length c2)])
  clear hb2
  go_upto_region 7 with (first | ((with_reducible refine wpId ?_); refine wpList_store_new (by rfl) 24 (.tmp 14) (.tmp 63) (by rfl) #[(.slice q2 (heapV h n).length c2)] 24 _ (by rfl) (by rfl) (by kernel_rfl) (by rfl) (by rfl) ?_))
  generalize (u2.alloc (.cells #[(.slice q2 (heapV h n).length c2)] 24)) = w7 at *
  generalize u2.heap.size = b14 at *
  go_wp2_with (first | ((with_reducible refine ldId 24 (.tmp 3) ?_); refine wpList_load_row (by rfl) 24 (.tmp 3) (by rfl) (w.heap.size) (by rfl) 24 (#[hv]) (0, 0) _ (by exact Y.out) Tryz.underlying24 (by rfl) (by kernel_rfl) ?_))
  refine (rrevoke_any h HOK.out HKY.out HBY.out hv n _ (HRD.out _ B.out)).mono ?_; intro e u3 hq
  obtain ⟨v, rfl, hf, hb⟩ := hq.form
  replace Y := hidB (Y.out.on hb)
  replace O := hidB (O.out.on hb)
  replace FA := hidB (FA.out.on hb)
  replace A := hidB (A.out.on hb)
  replace FB_ := hidB (FB_.out.on hb)
  replace A2 := hidB (A2.out.on hb)
  replace FC := hidB (FC.out.on hb)
  replace C := hidB (C.out.on hb)
  replace B := hidB (B.out.trans (Below.mono hb B.out.size))
  replace B4 := hidB (B4.out.trans (Below.mono hb B4.out.size))
  clear hb
  have FD := hidB hf
  clear hf
  obtain ⟨q3, c3, hv3⟩ := FD.out.form
  subst hv3
  have hb2 := box_one u3 (.cells #[(.slice q3 (heapV h n).length c3)] 24)
  replace Y := hidB (Y.out.on hb2)
  replace O := hidB (O.out.on hb2)
  replace FA := hidB (FA.out.on hb2)
  replace A := hidB (A.out.on hb2)
  replace FB_ := hidB (FB_.out.on hb2)
  replace A2 := hidB (A2.out.on hb2)
  replace FC := hidB (FC.out.on hb2)
  replace C := hidB (C.out.on hb2)
  replace FD := hidB (FD.out.on hb2)
  replace B := hidB (B.out.trans (Below.mono hb2 B.out.size))
  replace B4 := hidB (B4.out.trans (Below.mono hb2 B4.out.size))
  have C2 := hidB (Bk.new u3 24 #[(.slice q3 (heapV h n).length c3)])
  clear hb2
  go_upto_region 8 with (first | ((with_reducible refine wpId ?_); refine wpList_store_new (by rfl) 24 (.tmp 16) (.tmp 69) (by rfl) #[(.slice q3 (heapV h n).length c3)] 24 _ (by rfl) (by rfl) (by kernel_rfl) (by rfl) (by rfl) ?_))
  generalize (u3.alloc (.cells #[(.slice q3 (heapV h n).length c3)] 24)) = w8 at *
  generalize u3.heap.size = b16 at *
  go_wp2_with (first | ((with_reducible refine ldId 24 (.tmp 7) ?_); refine wpList_load_row (by rfl) 24 (.tmp 7) (by rfl) (b7) (by rfl) 24 (#[(.slice qo h.length co)]) (0, 0) _ (by exact O.out) Tryz.underlying24 (by rfl) (by kernel_rfl) ?_))
  refine (down_fr HOK.out HKY.out (HOWN.out _ B4.out) n).mono ?_; intro e x0 hq
  obtain ⟨v, rfl, hf, hb⟩ := hq.form
  replace Y := hidB (Y.out.on hb)
  replace O := hidB (O.out.on hb)
  replace FA := hidB (FA.out.on hb)
  replace A := hidB (A.out.on hb)
  replace FB_ := hidB (FB_.out.on hb)
  replace A2 := hidB (A2.out.on hb)
  replace FC := hidB (FC.out.on hb)
  replace C := hidB (C.out.on hb)
  replace FD := hidB (FD.out.on hb)
  replace C2 := hidB (C2.out.on hb)
  replace B := hidB (B.out.trans (Below.mono hb B.out.size))
  replace B4 := hidB (B4.out.trans (Below.mono hb B4.out.size))
  clear hb
  have LA := hidB hf
  clear hf
  obtain ⟨r0, d0, hv0⟩ := LA.out.form
  subst hv0
  go_wp2_with (first | ((with_reducible refine ldId 24 (.tmp 3) ?_); refine wpList_load_row (by rfl) 24 (.tmp 3) (by rfl) (w.heap.size) (by rfl) 24 (#[hv]) (0, 0) _ (by exact Y.out) Tryz.underlying24 (by rfl) (by kernel_rfl) ?_))
  refine (rDown_any h HOK.out HKY.out HBY.out hv n _ (HRD.out _ B.out)).mono ?_; intro e x1 hq
  obtain ⟨v, rfl, hf, hb⟩ := hq.form
  replace Y := hidB (Y.out.on hb)
  replace O := hidB (O.out.on hb)
  replace FA := hidB (FA.out.on hb)
  replace A := hidB (A.out.on hb)
  replace FB_ := hidB (FB_.out.on hb)
  replace A2 := hidB (A2.out.on hb)
  replace FC := hidB (FC.out.on hb)
  replace C := hidB (C.out.on hb)
  replace FD := hidB (FD.out.on hb)
  replace C2 := hidB (C2.out.on hb)
  replace LA := hidB (LA.out.on hb)
  replace B := hidB (B.out.trans (Below.mono hb B.out.size))
  replace B4 := hidB (B4.out.trans (Below.mono hb B4.out.size))
  clear hb
  have LB := hidB hf
  clear hf
  obtain ⟨r1, d1, hv1⟩ := LB.out.form
  subst hv1
  go_wp2_with (first | ((with_reducible refine ldId 24 (.tmp 7) ?_); refine wpList_load_row (by rfl) 24 (.tmp 7) (by rfl) (b7) (by rfl) 24 (#[(.slice qo h.length co)]) (0, 0) _ (by exact O.out) Tryz.underlying24 (by rfl) (by kernel_rfl) ?_))
  refine (isarr_fr HOK.out HKY.out (HOWN.out _ B4.out) n).mono ?_; intro e y0 hq
  obtain ⟨rfl, hb⟩ := hq
  replace Y := hidB (Y.out.on hb)
  replace O := hidB (O.out.on hb)
  replace FA := hidB (FA.out.on hb)
  replace A := hidB (A.out.on hb)
  replace FB_ := hidB (FB_.out.on hb)
  replace A2 := hidB (A2.out.on hb)
  replace FC := hidB (FC.out.on hb)
  replace C := hidB (C.out.on hb)
  replace FD := hidB (FD.out.on hb)
  replace C2 := hidB (C2.out.on hb)
  replace LA := hidB (LA.out.on hb)
  replace LB := hidB (LB.out.on hb)
  replace B := hidB (B.out.trans (Below.mono hb B.out.size))
  replace B4 := hidB (B4.out.trans (Below.mono hb B4.out.size))
  clear hb
  go_wp2_with (first | ((with_reducible refine ldId 24 (.tmp 3) ?_); refine wpList_load_row (by rfl) 24 (.tmp 3) (by rfl) (w.heap.size) (by rfl) 24 (#[hv]) (0, 0) _ (by exact Y.out) Tryz.underlying24 (by rfl) (by kernel_rfl) ?_))
  refine (risarr_any h HOK.out HKY.out HBY.out hv n _ (HRD.out _ B.out)).mono ?_; intro e y1 hq
  obtain ⟨rfl, hb⟩ := hq
  replace Y := hidB (Y.out.on hb)
  replace O := hidB (O.out.on hb)
  replace FA := hidB (FA.out.on hb)
  replace A := hidB (A.out.on hb)
  replace FB_ := hidB (FB_.out.on hb)
  replace A2 := hidB (A2.out.on hb)
  replace FC := hidB (FC.out.on hb)
  replace C := hidB (C.out.on hb)
  replace FD := hidB (FD.out.on hb)
  replace C2 := hidB (C2.out.on hb)
  replace LA := hidB (LA.out.on hb)
  replace LB := hidB (LB.out.on hb)
  replace B := hidB (B.out.trans (Below.mono hb B.out.size))
  replace B4 := hidB (B4.out.trans (Below.mono hb B4.out.size))
  clear hb
  go_wp2_with (first | ((with_reducible refine ldId 24 (.tmp 7) ?_); refine wpList_load_row (by rfl) 24 (.tmp 7) (by rfl) (b7) (by rfl) 24 (#[(.slice qo h.length co)]) (0, 0) _ (by exact O.out) Tryz.underlying24 (by rfl) (by kernel_rfl) ?_))
  refine (deep_fr HOK.out HKY.out (HOWN.out _ B4.out) n).mono ?_; intro e y2 hq
  obtain ⟨rfl, hb⟩ := hq
  replace Y := hidB (Y.out.on hb)
  replace O := hidB (O.out.on hb)
  replace FA := hidB (FA.out.on hb)
  replace A := hidB (A.out.on hb)
  replace FB_ := hidB (FB_.out.on hb)
  replace A2 := hidB (A2.out.on hb)
  replace FC := hidB (FC.out.on hb)
  replace C := hidB (C.out.on hb)
  replace FD := hidB (FD.out.on hb)
  replace C2 := hidB (C2.out.on hb)
  replace LA := hidB (LA.out.on hb)
  replace LB := hidB (LB.out.on hb)
  replace B := hidB (B.out.trans (Below.mono hb B.out.size))
  replace B4 := hidB (B4.out.trans (Below.mono hb B4.out.size))
  clear hb
  go_wp2_with (first | ((with_reducible refine ldId 24 (.tmp 3) ?_); refine wpList_load_row (by rfl) 24 (.tmp 3) (by rfl) (w.heap.size) (by rfl) 24 (#[hv]) (0, 0) _ (by exact Y.out) Tryz.underlying24 (by rfl) (by kernel_rfl) ?_))
  refine (rdeep_any h HOK.out HKY.out HBY.out hv n _ (HRD.out _ B.out)).mono ?_; intro e y3 hq
  obtain ⟨rfl, hb⟩ := hq
  replace Y := hidB (Y.out.on hb)
  replace O := hidB (O.out.on hb)
  replace FA := hidB (FA.out.on hb)
  replace A := hidB (A.out.on hb)
  replace FB_ := hidB (FB_.out.on hb)
  replace A2 := hidB (A2.out.on hb)
  replace FC := hidB (FC.out.on hb)
  replace C := hidB (C.out.on hb)
  replace FD := hidB (FD.out.on hb)
  replace C2 := hidB (C2.out.on hb)
  replace LA := hidB (LA.out.on hb)
  replace LB := hidB (LB.out.on hb)
  replace B := hidB (B.out.trans (Below.mono hb B.out.size))
  replace B4 := hidB (B4.out.trans (Below.mono hb B4.out.size))
  clear hb
  go_wp2_with (first | ((with_reducible refine ldId 24 (.tmp 7) ?_); refine wpList_load_row (by rfl) 24 (.tmp 7) (by rfl) (b7) (by rfl) 24 (#[(.slice qo h.length co)]) (0, 0) _ (by exact O.out) Tryz.underlying24 (by rfl) (by kernel_rfl) ?_))
  refine (live_fr HOK.out HKY.out (HOWN.out _ B4.out) n).mono ?_; intro e y4 hq
  obtain ⟨rfl, hb⟩ := hq
  replace Y := hidB (Y.out.on hb)
  replace O := hidB (O.out.on hb)
  replace FA := hidB (FA.out.on hb)
  replace A := hidB (A.out.on hb)
  replace FB_ := hidB (FB_.out.on hb)
  replace A2 := hidB (A2.out.on hb)
  replace FC := hidB (FC.out.on hb)
  replace C := hidB (C.out.on hb)
  replace FD := hidB (FD.out.on hb)
  replace C2 := hidB (C2.out.on hb)
  replace LA := hidB (LA.out.on hb)
  replace LB := hidB (LB.out.on hb)
  replace B := hidB (B.out.trans (Below.mono hb B.out.size))
  replace B4 := hidB (B4.out.trans (Below.mono hb B4.out.size))
  clear hb
  go_wp2_with (first | ((with_reducible refine ldId 24 (.tmp 3) ?_); refine wpList_load_row (by rfl) 24 (.tmp 3) (by rfl) (w.heap.size) (by rfl) 24 (#[hv]) (0, 0) _ (by exact Y.out) Tryz.underlying24 (by rfl) (by kernel_rfl) ?_))
  refine (rLive_any h HOK.out HKY.out HBY.out hv n _ (HRD.out _ B.out)).mono ?_; intro e y5 hq
  obtain ⟨rfl, hb⟩ := hq
  replace Y := hidB (Y.out.on hb)
  replace O := hidB (O.out.on hb)
  replace FA := hidB (FA.out.on hb)
  replace A := hidB (A.out.on hb)
  replace FB_ := hidB (FB_.out.on hb)
  replace A2 := hidB (A2.out.on hb)
  replace FC := hidB (FC.out.on hb)
  replace C := hidB (C.out.on hb)
  replace FD := hidB (FD.out.on hb)
  replace C2 := hidB (C2.out.on hb)
  replace LA := hidB (LA.out.on hb)
  replace LB := hidB (LB.out.on hb)
  replace B := hidB (B.out.trans (Below.mono hb B.out.size))
  replace B4 := hidB (B4.out.trans (Below.mono hb B4.out.size))
  clear hb
  go_upto_region 16 with fail
  have HMH : Hid (heapM h n m = heapM h n m) := hidB rfl
  go_upto_region 17 with (first | ((with_reducible refine ldId 24 (.tmp 8) ?_); refine wpList_wload_row 24 (.tmp 8) (by rfl) (by rfl) (b8) (by rfl) 24 (#[(.slice q0 (heapM h n m).length c0)]) (0, 0) _ (by exact A.out) Tryz.underlying24 (by rfl) (by kernel_rfl) ?_) | ((with_reducible refine ldId 24 (.tmp 11) ?_); refine wpList_wload_row 24 (.tmp 11) (by rfl) (by rfl) (b11) (by rfl) 24 (#[(.slice q1 (heapM h n m).length c1)]) (0, 0) _ (by exact A2.out) Tryz.underlying24 (by rfl) (by kernel_rfl) ?_) | ((with_reducible refine ldId 24 (.tmp 14) ?_); refine wpList_wload_row 24 (.tmp 14) (by rfl) (by rfl) (b14) (by rfl) 24 (#[(.slice q2 (heapV h n).length c2)]) (0, 0) _ (by exact C.out) Tryz.underlying24 (by rfl) (by kernel_rfl) ?_) | ((with_reducible refine ldId 24 (.tmp 16) ?_); refine wpList_wload_row 24 (.tmp 16) (by rfl) (by rfl) (b16) (by rfl) 24 (#[(.slice q3 (heapV h n).length c3)]) (0, 0) _ (by exact C2.out) Tryz.underlying24 (by rfl) (by kernel_rfl) ?_) | (go_at_call 18; with_reducible refine (rsameB_self (heapM h n m) _ _ _ FA.out.rd FB_.out.rd).mono ?_; rintro e z1 ⟨rfl, hb⟩; replace Y := hidB (Y.out.on hb); replace O := hidB (O.out.on hb); replace FA := hidB (FA.out.on hb); replace A := hidB (A.out.on hb); replace FB_ := hidB (FB_.out.on hb); replace A2 := hidB (A2.out.on hb); replace FC := hidB (FC.out.on hb); replace C := hidB (C.out.on hb); replace FD := hidB (FD.out.on hb); replace C2 := hidB (C2.out.on hb); replace LA := hidB (LA.out.on hb); replace LB := hidB (LB.out.on hb); replace B := hidB (B.out.trans (Below.mono hb B.out.size)); replace B4 := hidB (B4.out.trans (Below.mono hb B4.out.size)); clear hb) | (go_at_call 18; with_reducible refine (rsameB_self (heapV h n) _ _ _ FC.out.rd FD.out.rd).mono ?_; rintro e z1 ⟨rfl, hb⟩; replace Y := hidB (Y.out.on hb); replace O := hidB (O.out.on hb); replace FA := hidB (FA.out.on hb); replace A := hidB (A.out.on hb); replace FB_ := hidB (FB_.out.on hb); replace A2 := hidB (A2.out.on hb); replace FC := hidB (FC.out.on hb); replace C := hidB (C.out.on hb); replace FD := hidB (FD.out.on hb); replace C2 := hidB (C2.out.on hb); replace LA := hidB (LA.out.on hb); replace LB := hidB (LB.out.on hb); replace B := hidB (B.out.trans (Below.mono hb B.out.size)); replace B4 := hidB (B4.out.trans (Below.mono hb B4.out.size)); clear hb))
  go_upto_region 18 with (first | (go_at_call 19; refine (rints_self (dwnV h n) _ _ _ LA.out LB.out).mono ?_; rintro e z2 ⟨rfl, hb⟩; replace Y := hidB (Y.out.on hb); replace O := hidB (O.out.on hb); replace FA := hidB (FA.out.on hb); replace A := hidB (A.out.on hb); replace FB_ := hidB (FB_.out.on hb); replace A2 := hidB (A2.out.on hb); replace FC := hidB (FC.out.on hb); replace C := hidB (C.out.on hb); replace FD := hidB (FD.out.on hb); replace C2 := hidB (C2.out.on hb); replace LA := hidB (LA.out.on hb); replace LB := hidB (LB.out.on hb); replace B := hidB (B.out.trans (Below.mono hb B.out.size)); replace B4 := hidB (B4.out.trans (Below.mono hb B4.out.size)); clear hb))
  skip
  have HBK := hidB FA.out.block
  have hla : (heapM h n m).length ≤ 9223372036854775807 := FrB.short FA.out
  clear FA FB_ FC FD LA LB A2 C C2 HMH
  generalize (heapM h n m).length = la at *
  go_wp2_with fail
  go_loopw [38] (fun s38 wr => ∃ i : Nat, i ≤ la ∧ s38 = .int .i64 i ∧ (0 < la → ∃ ga cur, q0 = some ⟨ga, 0, none⟩ ∧ w4.heap.size ≤ ga ∧ Bk wr ga 46 cur ∧ la * 18 ≤ cur.size) ∧ Bk wr b8 24 #[(.slice q0 la c0)] ∧ Bk wr w.heap.size 24 #[hv] ∧ Bk wr b7 24 #[(.slice qo h.length co)] ∧ Below w.heap.size w wr ∧ Below w4.heap.size w4 wr) (fun i _ => la - (intOf i).toNat)
  case atStart => exact ⟨0, by omega, rfl, fun h0 => (HBK.out h0).elim fun ga a => a.elim fun cur b => ⟨ga, cur, b.1, b.2.1, b.2.2.1, b.2.2.2⟩, A.out, Y.out, O.out, B.out, B4.out⟩
  case round =>
    clear A Y O B B4 HBK
    obtain ⟨i, hi, rfl, hbk, hA, hY, hO, hb, hb4⟩ := hrel
    have HBK := hidB hbk
    have A := hidB hA
    have Y := hidB hY
    have O := hidB hO
    have B := hidB hb
    have B4 := hidB hb4
    clear hbk hA hY hO hb hb4
    have hx2 : (0 : Int) ≤ (i : Int) := by omega
    have a0 : wr.cell? ⟨b8, 0, none⟩ = some (.slice q0 la c0) := A.out.cell 0
    by_cases hlt : i < la
    rotate_left
    · obtain rfl : i = la := by omega
      have hx4 : ¬ ((i : Int) < (i : Int)) := by omega
      go_wp2_with (first | ((with_reducible refine ldId 24 (.tmp 7) ?_); refine wpList_wload_row 24 (.tmp 7) (by rfl) (by rfl) (b7) (by rfl) 24 (#[(.slice qo h.length co)]) (0, 0) _ (by exact O.out) Tryz.underlying24 (by rfl) (by kernel_rfl) ?_) | ((with_reducible refine ldId 24 (.tmp 3) ?_); refine wpList_wload_row 24 (.tmp 3) (by rfl) (by rfl) (w.heap.size) (by rfl) 24 (#[hv]) (0, 0) _ (by exact Y.out) Tryz.underlying24 (by rfl) (by kernel_rfl) ?_) | (go_at_call 18; refine (rsameB_self h _ _ _ (HOWN.out _ B4.out) ⟨h, rfl, HRD.out _ B.out⟩).mono ?_; rintro e z3 ⟨rfl, hb⟩; replace B := hidB (B.out.trans (hb.mono B.out.size)); clear hb))
      go_ret
      exact ⟨rfl, B.out⟩
    have hx1 : (i : Int) < (la : Int) := by omega
    have HLT := hidB hlt
    obtain ⟨ga, cur, rfl, hga, hbkk, hsz⟩ := HBK.out (by omega)
    have BK := hidB hbkk
    have HSZ := hidB (show i * 18 + 18 ≤ cur.size by omega)
    have HSZ2 := hidB hsz
    have HGA := hidB hga
    clear hbkk hsz hga
    have far := setCells_heap wr ga (i * 18) ([.int .u8 0, .int .u8 0, .float .f64 0, .string ⟨#[]⟩, .int .i64 0, .bool false, .slice none 0 0, .int .u8 0, .float .f64 0, .string ⟨#[]⟩, .int .i64 0, .int .u8 0, .float .f64 0, .string ⟨#[]⟩, .int .i64 0, .string ⟨#[]⟩, .bool false, .bool false] : List Value)
    have BK2 := hidB (show Bk (wr.setCells ga (i * 18) ([.int .u8 0, .int .u8 0, .float .f64 0, .string ⟨#[]⟩, .int .i64 0, .bool false, .slice none 0 0, .int .u8 0, .float .f64 0, .string ⟨#[]⟩, .int .i64 0, .int .u8 0, .float .f64 0, .string ⟨#[]⟩, .int .i64 0, .string ⟨#[]⟩, .bool false, .bool false] : List Value)) ga 46 (cur.toList.take (i * 18) ++ (([.int .u8 0, .int .u8 0, .float .f64 0, .string ⟨#[]⟩, .int .i64 0, .bool false, .slice none 0 0, .int .u8 0, .float .f64 0, .string ⟨#[]⟩, .int .i64 0, .int .u8 0, .float .f64 0, .string ⟨#[]⟩, .int .i64 0, .string ⟨#[]⟩, .bool false, .bool false] : List Value) ++ cur.toList.drop (i * 18 + 18))).toArray from Bk.setCells2 BK.out ([.int .u8 0, .int .u8 0, .float .f64 0, .string ⟨#[]⟩, .int .i64 0, .bool false, .slice none 0 0, .int .u8 0, .float .f64 0, .string ⟨#[]⟩, .int .i64 0, .int .u8 0, .float .f64 0, .string ⟨#[]⟩, .int .i64 0, .string ⟨#[]⟩, .bool false, .bool false] : List Value) (i * 18) HSZ.out rfl)
    have A1 := hidB (show Bk (wr.setCells ga (i * 18) ([.int .u8 0, .int .u8 0, .float .f64 0, .string ⟨#[]⟩, .int .i64 0, .bool false, .slice none 0 0, .int .u8 0, .float .f64 0, .string ⟨#[]⟩, .int .i64 0, .int .u8 0, .float .f64 0, .string ⟨#[]⟩, .int .i64 0, .string ⟨#[]⟩, .bool false, .bool false] : List Value)) b8 24 #[(.slice (some ⟨ga, 0, none⟩) la c0)] from (far.2 _ (A.out.neT BK.out (by decide))).trans A.out)
    have Y1 := hidB (show Bk (wr.setCells ga (i * 18) ([.int .u8 0, .int .u8 0, .float .f64 0, .string ⟨#[]⟩, .int .i64 0, .bool false, .slice none 0 0, .int .u8 0, .float .f64 0, .string ⟨#[]⟩, .int .i64 0, .int .u8 0, .float .f64 0, .string ⟨#[]⟩, .int .i64 0, .string ⟨#[]⟩, .bool false, .bool false] : List Value)) w.heap.size 24 #[hv] from (far.2 _ (Y.out.neT BK.out (by decide))).trans Y.out)
    have O1 := hidB (show Bk (wr.setCells ga (i * 18) ([.int .u8 0, .int .u8 0, .float .f64 0, .string ⟨#[]⟩, .int .i64 0, .bool false, .slice none 0 0, .int .u8 0, .float .f64 0, .string ⟨#[]⟩, .int .i64 0, .int .u8 0, .float .f64 0, .string ⟨#[]⟩, .int .i64 0, .string ⟨#[]⟩, .bool false, .bool false] : List Value)) b7 24 #[(.slice qo h.length co)] from (far.2 _ (O.out.neT BK.out (by decide))).trans O.out)
    have B1 := hidB (show Below w.heap.size w (wr.setCells ga (i * 18) ([.int .u8 0, .int .u8 0, .float .f64 0, .string ⟨#[]⟩, .int .i64 0, .bool false, .slice none 0 0, .int .u8 0, .float .f64 0, .string ⟨#[]⟩, .int .i64 0, .int .u8 0, .float .f64 0, .string ⟨#[]⟩, .int .i64 0, .string ⟨#[]⟩, .bool false, .bool false] : List Value)) from below_setCells (Nat.le_trans HWW.out HGA.out) _ _ B.out)
    have B41 := hidB (show Below w4.heap.size w4 (wr.setCells ga (i * 18) ([.int .u8 0, .int .u8 0, .float .f64 0, .string ⟨#[]⟩, .int .i64 0, .bool false, .slice none 0 0, .int .u8 0, .float .f64 0, .string ⟨#[]⟩, .int .i64 0, .int .u8 0, .float .f64 0, .string ⟨#[]⟩, .int .i64 0, .string ⟨#[]⟩, .bool false, .bool false] : List Value)) from below_setCells HGA.out _ _ B4.out)
    have HS2 := hidB (show la * 18 ≤ (cur.toList.take (i * 18) ++ (([.int .u8 0, .int .u8 0, .float .f64 0, .string ⟨#[]⟩, .int .i64 0, .bool false, .slice none 0 0, .int .u8 0, .float .f64 0, .string ⟨#[]⟩, .int .i64 0, .int .u8 0, .float .f64 0, .string ⟨#[]⟩, .int .i64 0, .string ⟨#[]⟩, .bool false, .bool false] : List Value) ++ cur.toList.drop (i * 18 + 18))).toArray.size by have := HSZ.out; have := HSZ2.out; rw [List.size_toArray, List.length_append, List.length_append, List.length_take, List.length_drop, Array.length_toList]; show la * 18 ≤ min (i * 18) cur.size + (18 + (cur.size - (i * 18 + 18))); omega)
    go_wp2_with (first | ((with_reducible refine wpId ?_); refine wpList_build_to (by rfl) 46 _ (by rfl) (#[.int .u8 0, .int .u8 0, .float .f64 0, .string ⟨#[]⟩, .int .i64 0, .bool false, .slice none 0 0, .int .u8 0, .float .f64 0, .string ⟨#[]⟩, .int .i64 0, .int .u8 0, .float .f64 0, .string ⟨#[]⟩, .int .i64 0, .string ⟨#[]⟩, .bool false, .bool false]) (by kernel_rfl) ?_) | ((with_reducible refine stId 46 (.tmp 198) (.tmp 197) ?_); refine wpList_store_mid (by rfl) 46 (.tmp 198) (.tmp 197) (by rfl) ga (i * 18) #[.int .u8 0, .int .u8 0, .float .f64 0, .string ⟨#[]⟩, .int .i64 0, .bool false, .slice none 0 0, .int .u8 0, .float .f64 0, .string ⟨#[]⟩, .int .i64 0, .int .u8 0, .float .f64 0, .string ⟨#[]⟩, .int .i64 0, .string ⟨#[]⟩, .bool false, .bool false] (by rfl) (by rfl) (by exact Bk.there BK.out (i * 18) 18 HSZ.out) (by kernel_rfl) (by kernel_rfl) ?_))
    go_roundw
    case rel => exact ⟨i + 1, by have := HLT.out; omega, by go_num, fun _ => ⟨ga, _, rfl, HGA.out, BK2.out, HS2.out⟩, A1.out, Y1.out, O1.out, B1.out, B41.out⟩
    case measure => have := HLT.out; simp [intOf]; omega

end Go.Proofs.YtnidamkgfgddfaaGreat
