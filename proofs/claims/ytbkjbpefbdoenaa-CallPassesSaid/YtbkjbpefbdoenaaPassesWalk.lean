/-
  The walk of CallPasses.
-/
import Derived.Test.YtbkjbpefbdoenaaMakesPlain
namespace Go.Proofs.Ytbkjbpefbdoenaa
open Go.RowKit

/-- What is given in the end: done or thrown. -/
def ansO (v : VI) (t : Bool) : OI := { doneI v with kd := if t then 2 else 1 }
theorem fits_ans {v : VI} (t : Bool) (h : v.may = true) : fitsB 1 12 (ansO v t) [] = true := by
  have e2 : bad2 (ansO v t) = false := by
    show bad2 (doneI VI.zero) = false
    kernel_rfl
  unfold fitsB
  rw [e2]
  unfold bad1 bad3 ansO doneI
  have et : (⟨#[]⟩ : ByteArray).toList = [] := by rw [ByteArray.toList_eq]
  simp only [h, et]
  cases t <;> rfl
theorem wrong_may {args l : List VI} (h : wrongE args l = 0) : (∀ v ∈ l, v.may = true) ∧ ∀ v ∈ args, v.may = true := by
  unfold wrongE at h
  split at h
  · cases h
  · rename_i h1
    split at h
    · cases h
    · split at h
      · cases h
      · rename_i h2
        simp only [badL, Bool.not_eq_true, List.any_eq_false, Bool.not_eq_eq_eq_not, Bool.not_true, Bool.not_eq_false] at h1 h2
        exact ⟨h1, h2⟩
theorem start_end {f th : VI} {args : List VI} {v : VI} (t : Bool) (hc : isCal f.k = true) : ∃ y, startS f th args [((ansO v t).put vNil, [])] = .out y [] ∧ y.kd = (if t then 2 else 1) ∧ y.v = v := by
  unfold startS
  rw [if_pos hc]
  unfold askR onlyR ansO doneI
  cases t
  · exact ⟨_, rfl, rfl, rfl⟩
  · exact ⟨_, rfl, rfl, rfl⟩

set_option maxHeartbeats 8000000 in
set_option maxRecDepth 100000 in
theorem law_passes (f th an : VI) (args : List VI) (thr : Bool) (va : Value) (w : World) (hf : 0 ≤ f.k) (hth : 0 ≤ th.k) (han : 0 ≤ an.k) (ha : okV args) (ra : RdL VI.cells 4 args va w) : Calls Try.prog 6 #[f.a, th.a, va, an.a, .bool thr] w fun e w' => e = .returned (.bool true) ∧ Below w.heap.size w w' := by
  have BA := hidB (fun W (hb : Below w.heap.size w W) => start_any f th args hf hth ha va W (ra.on hb))
  have RA := hidB (fun W (hb : Below w.heap.size w W) => ra.on hb)
  have HAN := hidB han
  have HTH := hidB hth
  have HOA := hidB ha
  obtain ⟨pa, ca, rfl, _, ha2, _⟩ := ra
  unfold maxLen at ha2
  have hlm : args.length ≤ 9223372036854775807 := by omega
  clear hf hth han ha ha2
  have X0 := hidB (show Bk (((w.alloc (.cells (f.cells.toArray) 24)).alloc (.cells (th.cells.toArray) 24)).alloc (.cells (an.cells.toArray) 24)) (w.heap.size) 24 (f.cells.toArray) from ((Bk.new w _ _).alloc _).alloc _)
  have X1 := hidB (show Bk (((w.alloc (.cells (f.cells.toArray) 24)).alloc (.cells (th.cells.toArray) 24)).alloc (.cells (an.cells.toArray) 24)) (w.heap.size + 1) 24 (th.cells.toArray) from (Bk.new2 w _ _ _).alloc _)
  have X2 := hidB (show Bk (((w.alloc (.cells (f.cells.toArray) 24)).alloc (.cells (th.cells.toArray) 24)).alloc (.cells (an.cells.toArray) 24)) (w.heap.size + 1 + 1) 24 (an.cells.toArray) from Bk.new3 w _ _ _ _)
  have B := hidB (show Below w.heap.size w (((w.alloc (.cells (f.cells.toArray) 24)).alloc (.cells (th.cells.toArray) 24)).alloc (.cells (an.cells.toArray) 24)) from ((box_one w _).alloc (by simp) _).alloc (by simp <;> omega) _)
  go_enter Try.func6, Try.ntmps6
  go_upto_region 1 with fail
  generalize hW : (((w.alloc (.cells (f.cells.toArray) 24)).alloc (.cells (th.cells.toArray) 24)).alloc (.cells (an.cells.toArray) 24)) = w1 at *
  clear hW
  go_wp2_with fail
  refine (alive_any _).mono ?_; rintro e w2 ⟨rfl, hb⟩
  replace X0 := hidB (X0.out.on hb)
  replace X1 := hidB (X1.out.on hb)
  replace X2 := hidB (X2.out.on hb)
  replace B := hidB (B.out.trans (hb.mono B.out.size))
  clear hb
  go_wp2_with (first | ((with_reducible refine ldId 24 (.tmp 5) ?_); refine wpList_load_row (by rfl) 24 (.tmp 5) (by rfl) (w.heap.size) (by rfl) 24 (f.cells.toArray) (0, 0) _ (by exact X0.out) Try.underlying24 (by rfl) (by kernel_rfl) ?_) | ((with_reducible refine ldId 24 (.tmp 6) ?_); refine wpList_load_row (by rfl) 24 (.tmp 6) (by rfl) (w.heap.size + 1) (by rfl) 24 (th.cells.toArray) (0, 0) _ (by exact X1.out) Try.underlying24 (by rfl) (by kernel_rfl) ?_))
  refine (BA.out _ B.out).mono ?_; rintro e w3 (⟨hne, rfl, hb⟩ | ⟨her, T, A, rfl, hT, hb, hA⟩)
  · replace B := hidB (B.out.trans (hb.mono B.out.size))
    clear hb BA RA X0 X1 X2
    have hb1 : (wrongE args [f, th] != 0) = true := by rw [bne_iff_ne]; exact hne
    have hb2 : (wrongE args [f, th] == 0) = false := by rw [beq_eq_false_iff_ne]; exact hne
    generalize wrongE args [f, th] = er at *
    clear hne
    go_wp2_with fail
    go_ret
    exact ⟨rfl, B.out⟩
  have HT := hidB hT
  have HER := hidB (wrong_may her)
  have HAX := hidB hA
  have HSZ3 := hidB (show w.heap.size + 3 ≤ w2.heap.size from X2.out.lt)
  have HA := hidB (fun j hj => Nat.le_trans B.out.size (hA j hj))
  replace X0 := hidB (X0.out.on hb)
  replace X1 := hidB (X1.out.on hb)
  replace X2 := hidB (X2.out.on hb)
  replace B := hidB (B.out.trans (hb.mono B.out.size))
  clear hb hT hA BA her
  obtain ⟨p0, p1, p2, p3, _⟩ := X2.out.four
  go_wp2_with (first | ((with_reducible refine ldId 24 (.tmp 8) ?_); refine wpList_wload_mid 24 (.tmp 8) (by rfl) (by rfl) (w.heap.size + 1 + 1) 0 (by rfl) (an.cells) _ (by exact Bk.mid X2.out 0 _ rfl) Try.underlying24 (by rfl) (by kernel_rfl) ?_))
  refine (vmay_any an.k an.x an.s an.r HAN.out _).mono ?_; rintro e w4 ⟨rfl, hb⟩
  have HB4 := hidB hb
  have HSZ4 := hidB hb.size
  replace X0 := hidB (X0.out.on hb)
  replace X1 := hidB (X1.out.on hb)
  replace X2 := hidB (X2.out.on hb)
  replace B := hidB (B.out.trans (hb.mono B.out.size))
  clear hb
  replace HT := hidB (HT.out.keep (Nat.le_trans (Nat.le_refl _) HSZ4.out) (fun k hk => HB4.out.block k (HT.out.lt k hk)))
  clear p0 p1 p2 p3
  cases hm : mayV an.k an.x an.s an.r
  · clear hm
    go_wp2_with fail
    go_ret
    exact ⟨rfl, B.out⟩
  have HM := hidB (show an.may = true from hm)
  clear hm HB4 HSZ4
  go_wp2_with (first | ((with_reducible refine wpId ?_); refine wpList_build_to (by rfl) 36 _ (by rfl) (OI.zero.cs) (by kernel_rfl) ?_))
  refine (task_next (startS f th args) T .fresh A OI.zero [] w4 HT.out trivial ⟨by decide, by decide, by decide⟩ (by decide) (RdL.nil _ _ _)).mono ?_
  rintro e w5 ⟨wt, n, rfl, hone, hnx⟩
  obtain ⟨rfl, mid, hm, hw, hk, hT5⟩ : n = 0 ∧ ∃ mid, w4.heap.size ≤ mid ∧ WantR (startS f th args []) mid wt w5 ∧ Kept A w4 w5 ∧ TaskW (startS f th args) T ((startS f th args []).q []) (fun k => A k ∨ (w4.heap.size ≤ k ∧ k < mid)) w5 := hnx
  have HONE := hidB hone
  have R := hidB (show Bk (w5.alloc (.cells Try.zeroCells45 45)) w5.heap.size 45 WI.zero.cs from Bk.new w5 _ _)
  have hkb : Below w.heap.size w4 w5 := hk.toBelow B.out.size HA.out
  have HA3 := hidB (fun j hj => show w.heap.size + 3 ≤ j from Nat.le_trans HSZ3.out (HAX.out j hj))
  have HB4S := hidB B.out.size
  have HG5 := hidB (show w.heap.size + 1 + 1 < w5.heap.size from Nat.lt_of_lt_of_le X2.out.lt hk.size)
  have HNX0 := hidB (show ∀ mid, ¬ (A (w.heap.size + 1 + 1) ∨ (w4.heap.size ≤ w.heap.size + 1 + 1 ∧ w.heap.size + 1 + 1 < mid)) from fun mid h => by have h1 := X2.out.lt; rcases h with h | h; (have := HA3.out _ h; omega); omega)
  have HNX := hidB (HNX0.out mid)
  clear HNX0
  have HXK := hidB (fun (j : Nat) (t : TypeId) (cs : Array Value) (hj : ¬ A j) (h : Bk w4 j t cs) => (show Bk ((w5.alloc (.cells Try.zeroCells45 45)).setRow w5.heap.size wt.cs) j t cs from ((h.kept hk hj).alloc _).setRow_far (Nat.ne_of_gt (Nat.lt_of_lt_of_le h.lt hk.size)) _))
  replace X0 := hidB (HXK.out _ _ _ (fun h => by have := HA3.out _ h; omega) X0.out)
  replace X1 := hidB (HXK.out _ _ _ (fun h => by have := HA3.out _ h; omega) X1.out)
  replace X2 := hidB (HXK.out _ _ _ (fun h => by have := HA3.out _ h; omega) X2.out)
  replace B := hidB (show Below w.heap.size w ((w5.alloc (.cells Try.zeroCells45 45)).setRow w5.heap.size wt.cs) from below_setRow ((B.out.trans hkb).alloc (Nat.le_trans B.out.size hk.size) _) (Nat.le_trans B.out.size hk.size) _)
  have HT8 := hidB (hT5.keep (w' := ((w5.alloc (.cells Try.zeroCells45 45)).setRow w5.heap.size wt.cs)) (by simp [World.setRow]) (fun k hk => (heap_setRow _ (Nat.ne_of_lt (hT5.lt k hk)) _).trans (Below.heap_alloc w5 _ k (hT5.lt k hk))))
  have HW8 := hidB (hw.keep (w' := ((w5.alloc (.cells Try.zeroCells45 45)).setRow w5.heap.size wt.cs)) (fun k hk => (heap_setRow _ (Nat.ne_of_lt hk) _).trans (Below.heap_alloc w5 _ k hk)))
  have HA8 := hidB (show ∀ j, (A j ∨ (w4.heap.size ≤ j ∧ j < mid)) → w.heap.size ≤ j from fun j h => by rcases h with h | h; exact HA.out j h; exact Nat.le_trans HB4S.out h.1)
  have HLT8 := hidB (show ∀ j, (A j ∨ (w4.heap.size ≤ j ∧ j < mid)) → j < w5.heap.size from hT5.lt)
  clear hm hw hk hT5 hone HT HXK HA3
  go_upto_region 8 with (first | ((with_reducible refine stId 45 (.tmp 14) (.tmp 44) ?_); refine wpList_store_row (by rfl) 45 (.tmp 14) (.tmp 44) (by rfl) (w5.heap.size) (wt.cs) (by rfl) (by rfl) 45 (WI.zero.cs) (by exact R.out) (by kernel_rfl) (by rfl) (by exact HONE.out) ?_))
  have W8 := hidB (show Bk ((w5.alloc (.cells Try.zeroCells45 45)).setRow w5.heap.size wt.cs) w5.heap.size 45 wt.cs from R.out.setRow _)
  have HG14X := hidB (show w.heap.size + 1 + 1 < w5.heap.size from HG5.out)
  clear R HONE hkb
  generalize hW : ((w5.alloc (.cells Try.zeroCells45 45)).setRow w5.heap.size wt.cs) = w8 at *
  clear hW
  generalize hG : w5.heap.size = g14 at *
  clear hG
  go_wp2_with (first | ((with_reducible refine ldId 24 (.tmp 5) ?_); refine wpList_load_row (by rfl) 24 (.tmp 5) (by rfl) (w.heap.size) (by rfl) 24 (f.cells.toArray) (0, 0) _ (by exact X0.out) Try.underlying24 (by rfl) (by kernel_rfl) ?_))
  refine (isCal_any f _).mono ?_; rintro e w9 ⟨rfl, hb⟩
  have HB9 := hidB hb
  replace X0 := hidB (X0.out.on hb)
  replace X1 := hidB (X1.out.on hb)
  replace X2 := hidB (X2.out.on hb)
  replace W8 := hidB (W8.out.on hb)
  replace B := hidB (B.out.trans (hb.mono B.out.size))
  clear hb
  replace HT8 := hidB (HT8.out.on HB9.out)
  replace HW8 := hidB (HW8.out.keep (fun k hk => HB9.out.block k hk))
  clear HB9
  cases hc : isCal f.k
  · have hs : startS f th args [] = .out typeI [] := if_neg (by rw [hc]; decide)
    have hw := HW8.out
    rw [hs] at hw
    obtain ⟨_, _, kv, hwt, _⟩ := hw
    subst hwt
    have x0 : w9.cell? ⟨g14, 0, none⟩ = some (.int .u8 7) := W8.out.cell 0
    have x1 : w9.cell? ⟨g14, 85, none⟩ = some (.int .u8 1) := W8.out.cell 85
    clear hs hc HW8 HT8 RA
    go_wp2_with fail
    go_ret
    exact ⟨rfl, B.out⟩
  have hs : startS f th args [] = .want (fun av => methW (callA 12 f th av)) args := if_pos hc
  have HC := hidB hc
  have hw := HW8.out
  rw [hs] at hw
  obtain ⟨av, hwt, hown⟩ := hw
  subst hwt
  obtain ⟨q1, c1, hav⟩ := own_slice hown
  subst hav
  have HQ := hidB (show ((startS f th args []).q []) = .wait [] by rw [hs]; rfl)
  rw [HQ.out] at HT8
  have HO := hidB hown
  clear hs hc hown HW8
  have x0 : w9.cell? ⟨g14, 0, none⟩ = some (.int .u8 1) := W8.out.cell 0
  have x1 : w9.cell? ⟨g14, 1, none⟩ = some (.int .u8 12) := W8.out.cell 1
  have x2 : w9.cell? ⟨g14, 2, none⟩ = some (.int .i64 f.r) := W8.out.cell 2
  have x29 : w9.cell? ⟨g14, 29, none⟩ = some (.slice q1 args.length c1) := W8.out.cell 29
  have z3 : w9.cell? ⟨w.heap.size, 3, none⟩ = some (.int .i64 f.r) := X0.out.cell 3
  go_wp2_with (first | ((with_reducible refine ldId 24 (.tmp 88) ?_); refine wpList_wload_mid 24 (.tmp 88) (by rfl) (by rfl) (g14) 21 (by rfl) (th.cells) _ (by exact Bk.mid W8.out 21 _ rfl) Try.underlying24 (by rfl) (by kernel_rfl) ?_) | ((with_reducible refine ldId 24 (.tmp 6) ?_); refine wpList_wload_mid 24 (.tmp 6) (by rfl) (by rfl) (w.heap.size + 1) 0 (by rfl) (th.cells) _ (by exact Bk.mid X1.out 0 _ rfl) Try.underlying24 (by rfl) (by kernel_rfl) ?_))
  refine (same_any th.k th.x th.s th.r th.k th.x th.s th.r HTH.out _).mono ?_; rintro e w10 ⟨rfl, hb⟩
  rw [sameV_refl (HER.out.1 th (by simp))]
  have HB9 := hidB hb
  replace X0 := hidB (X0.out.on hb)
  replace X1 := hidB (X1.out.on hb)
  replace X2 := hidB (X2.out.on hb)
  replace W8 := hidB (W8.out.on hb)
  replace B := hidB (B.out.trans (hb.mono B.out.size))
  clear hb
  replace HT8 := hidB (HT8.out.on HB9.out)
  replace HO := hidB (own_on HO.out HB9.out)
  replace x29 : w10.cell? ⟨g14, 29, none⟩ = some (.slice q1 args.length c1) := W8.out.cell 29
  clear HB9 x0 x1 x2 z3
  go_wp2_with fail
  go_loopw [16] (fun s16 wr => ∃ k : Nat, k ≤ args.length ∧ s16 = .int .i64 k ∧ Bk wr g14 45 (methW (callA 12 f th (.slice q1 args.length c1))).cs ∧ Bk wr (w.heap.size + 1 + 1) 24 an.cells.toArray ∧ TaskW (startS f th args) T (.wait []) (fun k => A k ∨ (w4.heap.size ≤ k ∧ k < mid)) wr ∧ wr.ownsRow mid 24 4 (.slice q1 args.length c1) args.length (args.flatMap VI.cells) ∧ Below w.heap.size w wr) (fun i _ => args.length - (intOf i).toNat)
  case atStart => exact ⟨0, by omega, rfl, W8.out, X2.out, HT8.out, HO.out, B.out⟩
  case round =>
    obtain ⟨k, hk, rfl, hW, hX, hT, hO, hb⟩ := hrel
    replace W8 := hidB hW
    replace X2 := hidB hX
    replace HT8 := hidB hT
    replace HO := hidB hO
    replace B := hidB hb
    clear hW hX hT hO hb X0 X1 x29
    have hx2 : (0 : Int) ≤ (k : Int) := by omega
    by_cases hlt : k < args.length
    · have hx1 : (k : Int) < (args.length : Int) := by omega
      have hRA := RA.out wr B.out
      obtain ⟨_, _, e0, _, _, hcell⟩ := hRA
      obtain ⟨g, o, rfl, hg, hcell⟩ := hcell (by omega)
      injection e0 with e1 e2 e3
      subst e1
      have HR := hidB (hcell k hlt)
      obtain ⟨_, _, e4, _, _, hcell2⟩ := own_rd VI.cells_len HO.out
      obtain ⟨g2, o2, rfl, hg2, hcell2⟩ := hcell2 (by omega)
      injection e4 with e6 e7 e8
      subst e6
      skip
      have HR2 := hidB (hcell2 k hlt)
      have HMAY := hidB (HER.out.2 args[k] (List.getElem_mem hlt))
      have HNN := hidB (HOA.out args[k] (List.getElem_mem hlt))
      have HG1 := hidB hg
      have HG2 := hidB hg2
      clear hcell hcell2 hg hg2 e2 e3 e7 e8
      generalize args[k]'hlt = v0 at *
      go_upto_region 15 with fail
      refine wp_region_noPanic ?_
      refine wp_region_held_drew (S := fun W => Below w.heap.size w W ∧ Below wr.heap.size wr W ∧ Bk W g14 45 (methW (callA 12 f th (.slice (some ⟨g2, o2, none⟩) args.length c1))).cs) (by kernel_rfl) ?_ (fun hHeld => ?_)
      · exact ⟨B.out.drew, (Below.refl _ _).drew, W8.out.drew⟩
      generalize hWd : wr.drew = wd at *
      clear hWd
      first | (refine wpAnyH_take (i := 0) (v := undef) (by simp only [List.getElem?_toArray, List.getElem?_cons_zero]; exact rfl) (by kernel_rfl) (by kernel_rfl) (by kernel_rfl) (fun _ _ _ h => h) (Or.inr ⟨?_, rfl⟩) (by assumption) ?_; (rfl); try simp only [Act.put, List.setIfInBounds_toArray, List.set_cons_zero, List.set_cons_succ]) | (refine wpAnyH_take (i := 0) (v := ?_) (by simp only [List.getElem?_toArray, List.getElem?_cons_zero]; exact rfl) (by kernel_rfl) (by kernel_rfl) (by kernel_rfl) (fun _ _ _ h => h) (Or.inl ⟨?_, ?_⟩) (by assumption) ?_; rotate_left; (rfl); (focus (intro w hSw; (try dsimp only at hSw); go_simp; try with_reducible rfl)); try simp only [Act.put, List.setIfInBounds_toArray, List.set_cons_zero, List.set_cons_succ])
      first | (refine wpAnyH_take (i := 1) (v := undef) (by simp only [List.getElem?_toArray, List.getElem?_cons_succ, List.getElem?_cons_zero]; exact rfl) (by kernel_rfl) (by kernel_rfl) (by kernel_rfl) (fun _ _ _ h => h) (Or.inr ⟨?_, rfl⟩) (by assumption) ?_; (rfl); try simp only [Act.put, List.setIfInBounds_toArray, List.set_cons_zero, List.set_cons_succ]) | (refine wpAnyH_take (i := 1) (v := ?_) (by simp only [List.getElem?_toArray, List.getElem?_cons_succ, List.getElem?_cons_zero]; exact rfl) (by kernel_rfl) (by kernel_rfl) (by kernel_rfl) (fun _ _ _ h => h) (Or.inl ⟨?_, ?_⟩) (by assumption) ?_; rotate_left; (rfl); (focus (intro w hSw; (try dsimp only at hSw); go_simp; try with_reducible rfl)); try simp only [Act.put, List.setIfInBounds_toArray, List.set_cons_zero, List.set_cons_succ])
      first | (refine wpAnyH_take (i := 2) (v := undef) (by simp only [List.getElem?_toArray, List.getElem?_cons_succ, List.getElem?_cons_zero]; exact rfl) (by kernel_rfl) (by kernel_rfl) (by kernel_rfl) (fun _ _ _ h => h) (Or.inr ⟨?_, rfl⟩) (by assumption) ?_; (rfl); try simp only [Act.put, List.setIfInBounds_toArray, List.set_cons_zero, List.set_cons_succ]) | (refine wpAnyH_take (i := 2) (v := ?_) (by simp only [List.getElem?_toArray, List.getElem?_cons_succ, List.getElem?_cons_zero]; exact rfl) (by kernel_rfl) (by kernel_rfl) (by kernel_rfl) (fun _ _ _ h => h) (Or.inl ⟨?_, ?_⟩) (by assumption) ?_; rotate_left; (rfl); (focus (intro W hSw; have hc0 := (show W.cell? ⟨g14, 29, none⟩ = some (.slice (some ⟨g2, o2, none⟩) args.length c1) from hSw.2.2.cell 29); clear hSw; go_simp; try with_reducible rfl)); try simp only [Act.put, List.setIfInBounds_toArray, List.set_cons_zero, List.set_cons_succ])
      first | (refine wpAnyH_take (i := 3) (v := undef) (by simp only [List.getElem?_toArray, List.getElem?_cons_succ, List.getElem?_cons_zero]; exact rfl) (by kernel_rfl) (by kernel_rfl) (by kernel_rfl) (fun _ _ _ h => h) (Or.inr ⟨?_, rfl⟩) (by assumption) ?_; (rfl); try simp only [Act.put, List.setIfInBounds_toArray, List.set_cons_zero, List.set_cons_succ]) | (refine wpAnyH_take (i := 3) (v := ?_) (by simp only [List.getElem?_toArray, List.getElem?_cons_succ, List.getElem?_cons_zero]; exact rfl) (by kernel_rfl) (by kernel_rfl) (by kernel_rfl) (fun _ _ _ h => h) (Or.inl ⟨?_, ?_⟩) (by assumption) ?_; rotate_left; (rfl); (focus (intro w hSw; (try dsimp only at hSw); go_simp; try with_reducible rfl)); try simp only [Act.put, List.setIfInBounds_toArray, List.set_cons_zero, List.set_cons_succ])
      first | (refine wpAnyH_take (i := 4) (v := undef) (by simp only [List.getElem?_toArray, List.getElem?_cons_succ, List.getElem?_cons_zero]; exact rfl) (by kernel_rfl) (by kernel_rfl) (by kernel_rfl) (fun _ _ _ h => h) (Or.inr ⟨?_, rfl⟩) (by assumption) ?_; (rfl); try simp only [Act.put, List.setIfInBounds_toArray, List.set_cons_zero, List.set_cons_succ]) | (refine wpAnyH_take (i := 4) (v := ?_) (by simp only [List.getElem?_toArray, List.getElem?_cons_succ, List.getElem?_cons_zero]; exact rfl) (by kernel_rfl) (by kernel_rfl) (by kernel_rfl) (fun _ _ _ h => h) (Or.inl ⟨?_, ?_⟩) (by assumption) ?_; rotate_left; (rfl); (focus (intro w hSw; (try dsimp only at hSw); go_simp; try with_reducible rfl)); try simp only [Act.put, List.setIfInBounds_toArray, List.set_cons_zero, List.set_cons_succ])
      (refine wpAnyH_take (i := 5) (v := v0.a) (by simp only [List.getElem?_toArray, List.getElem?_cons_succ, List.getElem?_cons_zero]; exact rfl) (by kernel_rfl) (by kernel_rfl) (by kernel_rfl) (fun _ _ _ h => h) (yieldsIf_load_mid (by rfl) 24 (.tmp 113) (by rfl) (g2) (o2 + k * 4) (by rfl) (v0.cells) _ (fun W hS => rangeOn hS.2.1 HG2.out HR2.out) Try.underlying24 (by rfl) (by kernel_rfl)) (by assumption) ?_; try simp only [Act.put, List.setIfInBounds_toArray, List.set_cons_zero, List.set_cons_succ])
      first | (refine wpAnyH_take (i := 6) (v := undef) (by simp only [List.getElem?_toArray, List.getElem?_cons_succ, List.getElem?_cons_zero]; exact rfl) (by kernel_rfl) (by kernel_rfl) (by kernel_rfl) (fun _ _ _ h => h) (Or.inr ⟨?_, rfl⟩) (by assumption) ?_; (rfl); try simp only [Act.put, List.setIfInBounds_toArray, List.set_cons_zero, List.set_cons_succ]) | (refine wpAnyH_take (i := 6) (v := ?_) (by simp only [List.getElem?_toArray, List.getElem?_cons_succ, List.getElem?_cons_zero]; exact rfl) (by kernel_rfl) (by kernel_rfl) (by kernel_rfl) (fun _ _ _ h => h) (Or.inl ⟨?_, ?_⟩) (by assumption) ?_; rotate_left; (rfl); (focus (intro w hSw; (try dsimp only at hSw); go_simp; try with_reducible rfl)); try simp only [Act.put, List.setIfInBounds_toArray, List.set_cons_zero, List.set_cons_succ])
      first | (refine wpAnyH_take (i := 7) (v := undef) (by simp only [List.getElem?_toArray, List.getElem?_cons_succ, List.getElem?_cons_zero]; exact rfl) (by kernel_rfl) (by kernel_rfl) (by kernel_rfl) (fun _ _ _ h => h) (Or.inr ⟨?_, rfl⟩) (by assumption) ?_; (rfl); try simp only [Act.put, List.setIfInBounds_toArray, List.set_cons_zero, List.set_cons_succ]) | (refine wpAnyH_take (i := 7) (v := ?_) (by simp only [List.getElem?_toArray, List.getElem?_cons_succ, List.getElem?_cons_zero]; exact rfl) (by kernel_rfl) (by kernel_rfl) (by kernel_rfl) (fun _ _ _ h => h) (Or.inl ⟨?_, ?_⟩) (by assumption) ?_; rotate_left; (rfl); (focus (intro w hSw; (try dsimp only at hSw); go_simp; try with_reducible rfl)); try simp only [Act.put, List.setIfInBounds_toArray, List.set_cons_zero, List.set_cons_succ])
      first | (refine wpAnyH_take (i := 8) (v := undef) (by simp only [List.getElem?_toArray, List.getElem?_cons_succ, List.getElem?_cons_zero]; exact rfl) (by kernel_rfl) (by kernel_rfl) (by kernel_rfl) (fun _ _ _ h => h) (Or.inr ⟨?_, rfl⟩) (by assumption) ?_; (rfl); try simp only [Act.put, List.setIfInBounds_toArray, List.set_cons_zero, List.set_cons_succ]) | (refine wpAnyH_take (i := 8) (v := ?_) (by simp only [List.getElem?_toArray, List.getElem?_cons_succ, List.getElem?_cons_zero]; exact rfl) (by kernel_rfl) (by kernel_rfl) (by kernel_rfl) (fun _ _ _ h => h) (Or.inl ⟨?_, ?_⟩) (by assumption) ?_; rotate_left; (rfl); (focus (intro w hSw; (try dsimp only at hSw); go_simp; try with_reducible rfl)); try simp only [Act.put, List.setIfInBounds_toArray, List.set_cons_zero, List.set_cons_succ])
      (refine wpAnyH_take (i := 9) (v := v0.a) (by simp only [List.getElem?_toArray, List.getElem?_cons_succ, List.getElem?_cons_zero]; exact rfl) (by kernel_rfl) (by kernel_rfl) (by kernel_rfl) (fun _ _ _ h => h) (yieldsIf_load_mid (by rfl) 24 (.tmp 117) (by rfl) (g) (o + k * 4) (by rfl) (v0.cells) _ (fun W hS => rangeOn hS.2.1 HG1.out HR.out) Try.underlying24 (by rfl) (by kernel_rfl)) (by assumption) ?_; try simp only [Act.put, List.setIfInBounds_toArray, List.set_cons_zero, List.set_cons_succ])
      refine wpAnyH_ready (rs := [10]) (by kernel_rfl) (by simp) ?_
      refine AllReadyH.cons rfl (fun K hK => ?_) AllReadyH.nil
      go_simp
      refine (same_any v0.k v0.x v0.s v0.r v0.k v0.x v0.s v0.r HNN.out _).mono ?_; rintro e w12 ⟨rfl, hb⟩
      rw [sameV_refl HMAY.out]
      replace hHeld := And.intro (hHeld.1.trans (hb.mono hHeld.1.size)) (And.intro (hHeld.2.1.trans (hb.mono hHeld.2.1.size)) (hHeld.2.2.on hb))
      clear hb
      refine hK.out _ _ hHeld (fun _ => ?_)
      clear hK K
      try simp only [Act.put, List.setIfInBounds_toArray, List.set_cons_zero, List.set_cons_succ]
      first | (refine wpAnyH_take (i := 11) (v := undef) (by simp only [List.getElem?_toArray, List.getElem?_cons_succ, List.getElem?_cons_zero]; exact rfl) (by kernel_rfl) (by kernel_rfl) (by kernel_rfl) (fun _ _ _ h => h) (Or.inr ⟨?_, rfl⟩) (by assumption) ?_; (rfl); try simp only [Act.put, List.setIfInBounds_toArray, List.set_cons_zero, List.set_cons_succ]) | (refine wpAnyH_take (i := 11) (v := ?_) (by simp only [List.getElem?_toArray, List.getElem?_cons_succ, List.getElem?_cons_zero]; exact rfl) (by kernel_rfl) (by kernel_rfl) (by kernel_rfl) (fun _ _ _ h => h) (Or.inl ⟨?_, ?_⟩) (by assumption) ?_; rotate_left; (rfl); (focus (intro w hSw; (try dsimp only at hSw); go_simp; try with_reducible rfl)); try simp only [Act.put, List.setIfInBounds_toArray, List.set_cons_zero, List.set_cons_succ])
      refine wpAnyH_done (by kernel_rfl) ?_ _
      refine NoPanic.normal ?_
      go_wp2_with fail
      go_roundw
      case rel => exact ⟨k + 1, by omega, by go_num, hHeld.2.2, X2.out.on hHeld.2.1, HT8.out.on hHeld.2.1, own_on HO.out hHeld.2.1, hHeld.1⟩
      case measure => simp [intOf]; omega
    · obtain rfl : k = args.length := by omega
      have hx4 : ¬ ((args.length : Int) < (args.length : Int)) := by omega
      clear hlt hk RA
      have R := hidB (show Bk (wr.alloc (.cells #[.int .u8 0, .int .u8 0, .float .f64 0, .string ⟨#[]⟩, .int .i64 0, .bool false, .bool false, .int .u8 0, .int .u8 0, .float .f64 0, .string ⟨#[]⟩, .int .i64 0, .int .u8 0, .float .f64 0, .string ⟨#[]⟩, .int .i64 0, .int .u8 0, .float .f64 0, .string ⟨#[]⟩, .int .i64 0, .bool false, .bool false, .bool false, .slice none 0 0, .int .u8 0, .string ⟨#[]⟩] 36)) wr.heap.size 36 OI.zero.cs from Bk.new wr _ _)
      go_upto_region 18 with (first | ((with_reducible refine ldId 24 (.tmp 8) ?_); refine wpList_load_row (by rfl) 24 (.tmp 8) (by rfl) (w.heap.size + 1 + 1) (by rfl) 24 (an.cells.toArray) (0, 0) _ (by exact X2.out) Try.underlying24 (by rfl) (by kernel_rfl) ?_) | ((with_reducible refine wpId ?_); refine wpList_build_to (by rfl) 36 _ (by rfl) ((doneI an).cs) (by kernel_rfl) ?_) | ((with_reducible refine stId 36 (.tmp 17) (.tmp 122) ?_); refine wpList_store_row (by rfl) 36 (.tmp 17) (.tmp 122) (by rfl) (wr.heap.size) ((doneI an).cs) (by rfl) (by rfl) 36 (OI.zero.cs) (by exact R.out) (by kernel_rfl) (by rfl) (by exact OI.one _ rfl) ?_))
      have HFE := hidB (fun k (hk : k < wr.heap.size) => (heap_setRow (g := wr.heap.size) (wr.alloc (.cells #[.int .u8 0, .int .u8 0, .float .f64 0, .string ⟨#[]⟩, .int .i64 0, .bool false, .bool false, .int .u8 0, .int .u8 0, .float .f64 0, .string ⟨#[]⟩, .int .i64 0, .int .u8 0, .float .f64 0, .string ⟨#[]⟩, .int .i64 0, .int .u8 0, .float .f64 0, .string ⟨#[]⟩, .int .i64 0, .bool false, .bool false, .bool false, .slice none 0 0, .int .u8 0, .string ⟨#[]⟩] 36)) (Nat.ne_of_lt hk) (doneI an).cs).trans (Below.heap_alloc wr _ k hk))
      have HGW := hidB W8.out.lt
      have HX2L := hidB X2.out.lt
      have HTL := hidB HT8.out.lt
      replace W8 := hidB (show Bk ((wr.alloc (.cells #[.int .u8 0, .int .u8 0, .float .f64 0, .string ⟨#[]⟩, .int .i64 0, .bool false, .bool false, .int .u8 0, .int .u8 0, .float .f64 0, .string ⟨#[]⟩, .int .i64 0, .int .u8 0, .float .f64 0, .string ⟨#[]⟩, .int .i64 0, .int .u8 0, .float .f64 0, .string ⟨#[]⟩, .int .i64 0, .bool false, .bool false, .bool false, .slice none 0 0, .int .u8 0, .string ⟨#[]⟩] 36)).setRow wr.heap.size (doneI an).cs) g14 45 (methW (callA 12 f th (.slice q1 args.length c1))).cs from (HFE.out _ W8.out.lt).trans W8.out)
      replace X2 := hidB (show Bk ((wr.alloc (.cells #[.int .u8 0, .int .u8 0, .float .f64 0, .string ⟨#[]⟩, .int .i64 0, .bool false, .bool false, .int .u8 0, .int .u8 0, .float .f64 0, .string ⟨#[]⟩, .int .i64 0, .int .u8 0, .float .f64 0, .string ⟨#[]⟩, .int .i64 0, .int .u8 0, .float .f64 0, .string ⟨#[]⟩, .int .i64 0, .bool false, .bool false, .bool false, .slice none 0 0, .int .u8 0, .string ⟨#[]⟩] 36)).setRow wr.heap.size (doneI an).cs) (w.heap.size + 1 + 1) 24 an.cells.toArray from (HFE.out _ X2.out.lt).trans X2.out)
      replace HT8 := hidB (HT8.out.keep (w' := ((wr.alloc (.cells #[.int .u8 0, .int .u8 0, .float .f64 0, .string ⟨#[]⟩, .int .i64 0, .bool false, .bool false, .int .u8 0, .int .u8 0, .float .f64 0, .string ⟨#[]⟩, .int .i64 0, .int .u8 0, .float .f64 0, .string ⟨#[]⟩, .int .i64 0, .int .u8 0, .float .f64 0, .string ⟨#[]⟩, .int .i64 0, .bool false, .bool false, .bool false, .slice none 0 0, .int .u8 0, .string ⟨#[]⟩] 36)).setRow wr.heap.size (doneI an).cs)) (by simp [World.setRow]) (fun k hk => HFE.out k (HT8.out.lt k hk)))
      have HZ := hidB B.out.size
      replace B := hidB (show Below w.heap.size w ((wr.alloc (.cells #[.int .u8 0, .int .u8 0, .float .f64 0, .string ⟨#[]⟩, .int .i64 0, .bool false, .bool false, .int .u8 0, .int .u8 0, .float .f64 0, .string ⟨#[]⟩, .int .i64 0, .int .u8 0, .float .f64 0, .string ⟨#[]⟩, .int .i64 0, .int .u8 0, .float .f64 0, .string ⟨#[]⟩, .int .i64 0, .bool false, .bool false, .bool false, .slice none 0 0, .int .u8 0, .string ⟨#[]⟩] 36)).setRow wr.heap.size (doneI an).cs) from below_setRow (B.out.alloc B.out.size _) B.out.size _)
      replace R := hidB (R.out.setRow (doneI an).cs)
      clear HFE HO
      generalize hW : ((wr.alloc (.cells #[.int .u8 0, .int .u8 0, .float .f64 0, .string ⟨#[]⟩, .int .i64 0, .bool false, .bool false, .int .u8 0, .int .u8 0, .float .f64 0, .string ⟨#[]⟩, .int .i64 0, .int .u8 0, .float .f64 0, .string ⟨#[]⟩, .int .i64 0, .int .u8 0, .float .f64 0, .string ⟨#[]⟩, .int .i64 0, .bool false, .bool false, .bool false, .slice none 0 0, .int .u8 0, .string ⟨#[]⟩] 36)).setRow wr.heap.size (doneI an).cs) = w13 at *
      clear hW
      generalize hG : wr.heap.size = g17 at *
      clear hG
      have HG14 := hidB (show g14 ≠ w.heap.size + 1 + 1 from Nat.ne_of_gt HG14X.out)
      have HG14B := hidB (show w.heap.size ≤ g14 from by have := HG14X.out; omega)
      cases thr
      · skip
        go_wp2_with (first | ((with_reducible refine ldId 36 (.tmp 17) ?_); refine wpList_load_row (by rfl) 36 (.tmp 17) (by rfl) (g17) (by rfl) 36 ((ansO an false).cs) (0, 0) _ (by exact R.out) Try.underlying36 (by rfl) (by kernel_rfl) ?_))
        refine (task_next (startS f th args) T (.wait []) (fun k => A k ∨ (w4.heap.size ≤ k ∧ k < mid)) (ansO an false) [] _ HT8.out (show (0 : Nat) < 899 by decide) ⟨show (0 : Int) ≤ 0 by decide, show (0 : Int) ≤ 0 by decide, show (0 : Int) ≤ 0 by decide⟩ HAN.out (RdL.nil _ _ _)).mono ?_
        rintro e w15 ⟨wt, n, rfl, hone, hnx⟩
        have hN : nextQ (startS f th args) (ansO an false) [] (.wait []) = some [((ansO an false).put vNil, [])] := by
          show (if fitsB (startS f th args []).km.1 (startS f th args []).km.2 (ansO an false) [] = true then _ else _) = _
          rw [show startS f th args [] = .want (fun av => methW (callA 12 f th av)) args from if_pos HC.out]
          exact if_pos (fits_ans false HM.out)
        unfold TNextC at hnx
        rw [hN] at hnx
        obtain ⟨rfl, mid2, hm2, hw2, hk2, hT2⟩ := hnx
        obtain ⟨y, hy, hy1, hy2⟩ := start_end (f := f) (th := th) (args := args) (v := an) false HC.out
        rw [hy] at hw2
        obtain ⟨_, _, kv, hwt, hown⟩ := hw2
        subst hwt
        have HONE := hidB hone
        have HY2 := hidB hy2
        have hNA : ∀ j, j < mid → w4.heap.size ≤ j → A j ∨ (w4.heap.size ≤ j ∧ j < mid) := fun j h1 h2 => .inr ⟨h2, h1⟩
        have W9 := hidB (show Bk w15 g14 45 (methW (callA 12 f th (.slice q1 args.length c1))).cs from W8.out.kept hk2 (fun h => Nat.lt_irrefl _ (HLT8.out g14 h)))
        have R9 := hidB (show Bk w15 g17 36 (ansO an false).cs from R.out.kept hk2 (fun h => by have h1 := HTL.out _ h; omega))
        have X9 := hidB (show Bk w15 (w.heap.size + 1 + 1) 24 an.cells.toArray from X2.out.kept hk2 (fun h => HNX.out h))
        have B9 := hidB (show Below w.heap.size w w15 from B.out.trans (hk2.toBelow B.out.size (fun j hj => HA8.out j hj)))
        clear hone hy hy2 hown hk2 hm2 hT2 hN hNA HT8 W8 R X2 B
        go_upto_region 21 with (first | ((with_reducible refine stId 45 (.tmp 14) (.tmp 129) ?_); refine wpList_store_row (by rfl) 45 (.tmp 14) (.tmp 129) (by rfl) (g14) ((endW (y.put kv)).cs) (by rfl) (by rfl) 45 ((methW (callA 12 f th (.slice q1 args.length c1))).cs) (by exact W9.out) (by kernel_rfl) (by rfl) (by exact HONE.out) ?_))
        have W10 := hidB (show Bk (w15.setRow g14 (endW (y.put kv)).cs) g14 45 (endW (y.put kv)).cs from W9.out.setRow _)
        have R10 := hidB (show Bk (w15.setRow g14 (endW (y.put kv)).cs) g17 36 (ansO an false).cs from R9.out.setRow_far (Nat.ne_of_lt HGW.out) _)
        have X10 := hidB (show Bk (w15.setRow g14 (endW (y.put kv)).cs) (w.heap.size + 1 + 1) 24 an.cells.toArray from X9.out.setRow_far HG14.out _)
        have B10 := hidB (show Below w.heap.size w (w15.setRow g14 (endW (y.put kv)).cs) from below_setRow B9.out HG14B.out _)
        clear W9 R9 X9 B9 HONE
        generalize hW : (w15.setRow g14 (endW (y.put kv)).cs) = w16 at *
        clear hW
        have x0 : w16.cell? ⟨g14, 0, none⟩ = some (.int .u8 7) := W10.out.cell 0
        have x61 : w16.cell? ⟨g14, 61, none⟩ = some (.int .u8 1) := by rw [show (1 : Int) = y.kd from hy1.symm]; exact W10.out.cell 61
        have d0 : w16.cell? ⟨g17, 0, none⟩ = some (.int .u8 1) := R10.out.cell 0
        clear hy1
        go_wp2_with (first | ((with_reducible refine ldId 24 (.tmp 151) ?_); refine wpList_wload_mid 24 (.tmp 151) (by rfl) (by rfl) (g14) 62 (by rfl) (y.v.cells) _ (by exact Bk.mid W10.out 62 _ rfl) Try.underlying24 (by rfl) (by kernel_rfl) ?_) | ((with_reducible refine ldId 24 (.tmp 8) ?_); refine wpList_wload_mid 24 (.tmp 8) (by rfl) (by rfl) (w.heap.size + 1 + 1) 0 (by rfl) (an.cells) _ (by exact Bk.mid X10.out 0 _ rfl) Try.underlying24 (by rfl) (by kernel_rfl) ?_))
        rw [HY2.out]
        refine (same_any an.k an.x an.s an.r an.k an.x an.s an.r HAN.out _).mono ?_; rintro e w17 ⟨rfl, hb⟩
        rw [sameV_refl HM.out]
        replace B10 := hidB (B10.out.trans (hb.mono B10.out.size))
        clear hb
        go_wp2_with fail
        go_ret
        exact ⟨rfl, B10.out⟩
      · have d0 : w13.cell? ⟨g17, 0, none⟩ = some (.int .u8 1) := R.out.cell 0
        have f0 : w13.frozen? ⟨g17, 0, none⟩ = false := R.out.free 0
        go_upto_region 20 with fail
        have HFC := hidB (fun k (hk : k ≠ g17) => Below.heap_setCell w13 ⟨g17, 0, none⟩ (.int .u8 2) k hk)
        replace W8 := hidB (show Bk (w13.setCell ⟨g17, 0, none⟩ (.int .u8 2)) g14 45 (methW (callA 12 f th (.slice q1 args.length c1))).cs from (HFC.out _ (Nat.ne_of_lt HGW.out)).trans W8.out)
        replace X2 := hidB (show Bk (w13.setCell ⟨g17, 0, none⟩ (.int .u8 2)) (w.heap.size + 1 + 1) 24 an.cells.toArray from (HFC.out _ (Nat.ne_of_lt HX2L.out)).trans X2.out)
        replace HT8 := hidB (HT8.out.keep (w' := (w13.setCell ⟨g17, 0, none⟩ (.int .u8 2))) (by simp [World.setCell]) (fun k hk => HFC.out k (Nat.ne_of_lt (HTL.out k hk))))
        replace B := hidB (show Below w.heap.size w (w13.setCell ⟨g17, 0, none⟩ (.int .u8 2)) from B.out.setCell (p := ⟨g17, 0, none⟩) HZ.out _)
        replace R := hidB (show Bk (w13.setCell ⟨g17, 0, none⟩ (.int .u8 2)) g17 36 (ansO an true).cs from R.out.set 0 _)
        clear HFC d0 f0
        generalize hW : (w13.setCell ⟨g17, 0, none⟩ (.int .u8 2)) = w14 at *
        clear hW
        go_wp2_with (first | ((with_reducible refine ldId 36 (.tmp 17) ?_); refine wpList_load_row (by rfl) 36 (.tmp 17) (by rfl) (g17) (by rfl) 36 ((ansO an true).cs) (0, 0) _ (by exact R.out) Try.underlying36 (by rfl) (by kernel_rfl) ?_))
        refine (task_next (startS f th args) T (.wait []) (fun k => A k ∨ (w4.heap.size ≤ k ∧ k < mid)) (ansO an true) [] _ HT8.out (show (0 : Nat) < 899 by decide) ⟨show (0 : Int) ≤ 0 by decide, show (0 : Int) ≤ 0 by decide, show (0 : Int) ≤ 0 by decide⟩ HAN.out (RdL.nil _ _ _)).mono ?_
        rintro e w15 ⟨wt, n, rfl, hone, hnx⟩
        have hN : nextQ (startS f th args) (ansO an true) [] (.wait []) = some [((ansO an true).put vNil, [])] := by
          show (if fitsB (startS f th args []).km.1 (startS f th args []).km.2 (ansO an true) [] = true then _ else _) = _
          rw [show startS f th args [] = .want (fun av => methW (callA 12 f th av)) args from if_pos HC.out]
          exact if_pos (fits_ans true HM.out)
        unfold TNextC at hnx
        rw [hN] at hnx
        obtain ⟨rfl, mid2, hm2, hw2, hk2, hT2⟩ := hnx
        obtain ⟨y, hy, hy1, hy2⟩ := start_end (f := f) (th := th) (args := args) (v := an) true HC.out
        rw [hy] at hw2
        obtain ⟨_, _, kv, hwt, hown⟩ := hw2
        subst hwt
        have HONE := hidB hone
        have HY2 := hidB hy2
        have hNA : ∀ j, j < mid → w4.heap.size ≤ j → A j ∨ (w4.heap.size ≤ j ∧ j < mid) := fun j h1 h2 => .inr ⟨h2, h1⟩
        have W9 := hidB (show Bk w15 g14 45 (methW (callA 12 f th (.slice q1 args.length c1))).cs from W8.out.kept hk2 (fun h => Nat.lt_irrefl _ (HLT8.out g14 h)))
        have R9 := hidB (show Bk w15 g17 36 (ansO an true).cs from R.out.kept hk2 (fun h => by have h1 := HTL.out _ h; omega))
        have X9 := hidB (show Bk w15 (w.heap.size + 1 + 1) 24 an.cells.toArray from X2.out.kept hk2 (fun h => HNX.out h))
        have B9 := hidB (show Below w.heap.size w w15 from B.out.trans (hk2.toBelow B.out.size (fun j hj => HA8.out j hj)))
        clear hone hy hy2 hown hk2 hm2 hT2 hN hNA HT8 W8 R X2 B
        go_upto_region 21 with (first | ((with_reducible refine stId 45 (.tmp 14) (.tmp 129) ?_); refine wpList_store_row (by rfl) 45 (.tmp 14) (.tmp 129) (by rfl) (g14) ((endW (y.put kv)).cs) (by rfl) (by rfl) 45 ((methW (callA 12 f th (.slice q1 args.length c1))).cs) (by exact W9.out) (by kernel_rfl) (by rfl) (by exact HONE.out) ?_))
        have W10 := hidB (show Bk (w15.setRow g14 (endW (y.put kv)).cs) g14 45 (endW (y.put kv)).cs from W9.out.setRow _)
        have R10 := hidB (show Bk (w15.setRow g14 (endW (y.put kv)).cs) g17 36 (ansO an true).cs from R9.out.setRow_far (Nat.ne_of_lt HGW.out) _)
        have X10 := hidB (show Bk (w15.setRow g14 (endW (y.put kv)).cs) (w.heap.size + 1 + 1) 24 an.cells.toArray from X9.out.setRow_far HG14.out _)
        have B10 := hidB (show Below w.heap.size w (w15.setRow g14 (endW (y.put kv)).cs) from below_setRow B9.out HG14B.out _)
        clear W9 R9 X9 B9 HONE
        generalize hW : (w15.setRow g14 (endW (y.put kv)).cs) = w16 at *
        clear hW
        have x0 : w16.cell? ⟨g14, 0, none⟩ = some (.int .u8 7) := W10.out.cell 0
        have x61 : w16.cell? ⟨g14, 61, none⟩ = some (.int .u8 2) := by rw [show (2 : Int) = y.kd from hy1.symm]; exact W10.out.cell 61
        have d0 : w16.cell? ⟨g17, 0, none⟩ = some (.int .u8 2) := R10.out.cell 0
        clear hy1
        go_wp2_with (first | ((with_reducible refine ldId 24 (.tmp 151) ?_); refine wpList_wload_mid 24 (.tmp 151) (by rfl) (by rfl) (g14) 62 (by rfl) (y.v.cells) _ (by exact Bk.mid W10.out 62 _ rfl) Try.underlying24 (by rfl) (by kernel_rfl) ?_) | ((with_reducible refine ldId 24 (.tmp 8) ?_); refine wpList_wload_mid 24 (.tmp 8) (by rfl) (by rfl) (w.heap.size + 1 + 1) 0 (by rfl) (an.cells) _ (by exact Bk.mid X10.out 0 _ rfl) Try.underlying24 (by rfl) (by kernel_rfl) ?_))
        rw [HY2.out]
        refine (same_any an.k an.x an.s an.r an.k an.x an.s an.r HAN.out _).mono ?_; rintro e w17 ⟨rfl, hb⟩
        rw [sameV_refl HM.out]
        replace B10 := hidB (B10.out.trans (hb.mono B10.out.size))
        clear hb
        go_wp2_with fail
        go_ret
        exact ⟨rfl, B10.out⟩

end Go.Proofs.Ytbkjbpefbdoenaa
