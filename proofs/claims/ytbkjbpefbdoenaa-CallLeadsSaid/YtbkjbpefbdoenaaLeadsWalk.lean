/-
  CallLeads, the walk: a task of any kind, begun, its own arguments overwritten, led by any answers.
-/
import Derived.Test.YtbkjbpefbdoenaaCLeads
namespace Go.Proofs.Ytbkjbpefbdoenaa
open Go.RowKit

theorem info_valB : (Try.prog.info? 24).map (fun i => (i.zero, i.size, i.bytes)) = some (some (.agg #[.int .u8 0, .float .f64 0, .string ⟨#[]⟩, .int .i64 0]), 4, 40) := by kernel_rfl
theorem okV_ones : ∀ x : VI, ∀ u ∈ x.cells, u.oneCell' = true := fun x u hu => by
  simp only [VI.cells, List.mem_cons, List.not_mem_nil, or_false] at hu
  rcases hu with rfl | rfl | rfl | rfl <;> rfl
theorem rem_three {k : Int} (_ : 0 ≤ k) : k % 3 = 0 ∨ k % 3 = 1 ∨ k % 3 = 2 := by
  omega

set_option maxHeartbeats 8000000 in
set_option maxRecDepth 100000 in
theorem law_leads (k0 : Int) (hk0 : 0 ≤ k0) (hk1 : k0 ≤ 255) (f' v' pr : VI) (args : List VI) (L0 : List (OI × List KI)) (va vl : Value) (w : World) (hf : 0 ≤ f'.k) (hv : 0 ≤ v'.k) (hp : 0 ≤ pr.k) (ha : okV args) (ra : RdL VI.cells 4 args va w) (rl : RdO L0 vl w) (hok : ∀ e ∈ L0, OutOkB e w) (hl0 : L0.length ≤ 4611686018427387904) : Calls Try.prog 4 #[.int .u8 k0, f'.a, v'.a, pr.a, va, vl] w fun e w' => e = .returned (.bool true) ∧ Below w.heap.size w w' := by
  have RA := hidB (fun W (hb : Below w.heap.size w W) => ra.on hb)
  have RAW := hidB ra
  have RLW := hidB rl
  have HOK := hidB hok
  have HL0 := hidB hl0
  have HF := hidB hf
  have HV := hidB hv
  have HP := hidB hp
  have HOA := hidB ha
  obtain ⟨pa, ca, rfl, _, ha2, _⟩ := ra
  obtain ⟨pl, cl, rfl, _, hl2, _⟩ := rl
  unfold maxLen at ha2 hl2
  have hla : args.length ≤ 9223372036854775807 := by omega
  clear hok hl0 hf hv hp ha ha2 hl2
  have XF := hidB (show Bk (((w.alloc (.cells (f'.cells.toArray) 24)).alloc (.cells (v'.cells.toArray) 24)).alloc (.cells (pr.cells.toArray) 24)) (w.heap.size) 24 (f'.cells.toArray) from ((Bk.new w _ _).alloc _).alloc _)
  have XV := hidB (show Bk (((w.alloc (.cells (f'.cells.toArray) 24)).alloc (.cells (v'.cells.toArray) 24)).alloc (.cells (pr.cells.toArray) 24)) (w.heap.size + 1) 24 (v'.cells.toArray) from (Bk.new2 w _ _ _).alloc _)
  have XP := hidB (show Bk (((w.alloc (.cells (f'.cells.toArray) 24)).alloc (.cells (v'.cells.toArray) 24)).alloc (.cells (pr.cells.toArray) 24)) (w.heap.size + 1 + 1) 24 (pr.cells.toArray) from Bk.new3 w _ _ _ _)
  have B := hidB (show Below w.heap.size w (((w.alloc (.cells (f'.cells.toArray) 24)).alloc (.cells (v'.cells.toArray) 24)).alloc (.cells (pr.cells.toArray) 24)) from ((box_one w _).alloc (by simp) _).alloc (by simp <;> omega) _)
  go_enter Try.func4, Try.ntmps4
  go_upto_region 1 with fail
  generalize hW : (((w.alloc (.cells (f'.cells.toArray) 24)).alloc (.cells (v'.cells.toArray) 24)).alloc (.cells (pr.cells.toArray) 24)) = w1 at *
  clear hW
  have HXL := hidB (show w.heap.size + 1 + 1 < w1.heap.size from XP.out.lt)
  by_cases h200 : 200 < args.length
  · have hx : (200 : Int) < (args.length : Int) := by omega
    go_wp2_with fail
    all_goals first | (exfalso; omega) | (go_ret; exact ⟨rfl, B.out⟩)
  have hx : ¬ ((200 : Int) < (args.length : Int)) := by omega
  have H200 := hidB (show args.length ≤ 200 by omega)
  clear h200
  have HKD := hidB (rem_three hk0)
  skip
  go_upto_region 4 with fail
  all_goals first | (exfalso; omega) | skip
  generalize hKD : k0 % 3 = kd at *
  clear hKD hk0 hk1
  obtain ⟨i0, hi0, hz0, hz1, hz2⟩ := info_parts info_valB
  skip
  go_upto_region 6 with (first | (at_builtin; refine wpList_append_rd (by rfl) VI.cells_len okV_ones args (.slice pa args.length ca) (RA.out _ B.out) (.tmp 22) (.tmp 23) 25 (by rfl) w1.heap.size 24 i0 _ 40 Try.underlying25 hi0 hz0 hz1 hz2 (by rfl) (by decide) (.slice none 0 0) 0 [] (by rfl) (by rfl) (World.ownsRow_nil _ _ _ _) (by unfold maxLen; have := H200.out; omega) (by have := H200.out; omega) (Nat.le_refl _) ?_; intro v2 w2 hown hgrow _))
  rw [Nat.zero_add, List.nil_append] at hown
  obtain ⟨q2, c2, rfl⟩ := own_slice hown
  replace XF := hidB (XF.out.grown hgrow (fun h => by cases h))
  replace XV := hidB (XV.out.grown hgrow (fun h => by cases h))
  replace XP := hidB (XP.out.grown hgrow (fun h => by cases h))
  have HW1 := hidB B.out.size
  have HW2 := hidB hgrow.size
  replace B := hidB (below_grown B.out (Nat.le_refl _) hgrow (fun k hk => by cases hk))
  have HO := hidB hown
  clear hown hgrow hi0 hz0 hz1 hz2
  have HLO2 := hidB HO.out.lt
  go_wp2_with (first | ((with_reducible refine ldId 24 (.tmp 7) ?_); refine wpList_load_row (by rfl) 24 (.tmp 7) (by rfl) (w.heap.size) (by rfl) 24 (f'.cells.toArray) (0, 0) _ (by exact XF.out) Try.underlying24 (by rfl) (by kernel_rfl) ?_) | ((with_reducible refine ldId 24 (.tmp 8) ?_); refine wpList_load_row (by rfl) 24 (.tmp 8) (by rfl) (w.heap.size + 1) (by rfl) 24 (v'.cells.toArray) (0, 0) _ (by exact XV.out) Try.underlying24 (by rfl) (by kernel_rfl) ?_) | ((with_reducible refine ldId 24 (.tmp 9) ?_); refine wpList_load_row (by rfl) 24 (.tmp 9) (by rfl) (w.heap.size + 1 + 1) (by rfl) 24 (pr.cells.toArray) (0, 0) _ (by exact XP.out) Try.underlying24 (by rfl) (by kernel_rfl) ?_))
  refine (begun_any kd HKD.out f' v' pr args HF.out HV.out HP.out HOA.out _ w2 (own_rd VI.cells_len HO.out)).mono ?_
  have HE := hidB (refE_task HKD.out f' v' pr args)
  rintro e w3 (⟨hne, rfl, hb⟩ | ⟨her, T, A, rfl, hT, hb, hA⟩)
  · skip
    replace XF := hidB (XF.out.on hb)
    replace XV := hidB (XV.out.on hb)
    replace XP := hidB (XP.out.on hb)
    replace HO := hidB (own_on HO.out hb)
    replace B := hidB (B.out.trans (hb.mono B.out.size))
    clear hb
    go_wp2_with (first | ((with_reducible refine ldId 24 (.tmp 7) ?_); refine wpList_load_row (by rfl) 24 (.tmp 7) (by rfl) (w.heap.size) (by rfl) 24 (f'.cells.toArray) (0, 0) _ (by exact XF.out) Try.underlying24 (by rfl) (by kernel_rfl) ?_) | ((with_reducible refine ldId 24 (.tmp 8) ?_); refine wpList_load_row (by rfl) 24 (.tmp 8) (by rfl) (w.heap.size + 1) (by rfl) 24 (v'.cells.toArray) (0, 0) _ (by exact XV.out) Try.underlying24 (by rfl) (by kernel_rfl) ?_) | ((with_reducible refine ldId 24 (.tmp 9) ?_); refine wpList_load_row (by rfl) 24 (.tmp 9) (by rfl) (w.heap.size + 1 + 1) (by rfl) 24 (pr.cells.toArray) (0, 0) _ (by exact XP.out) Try.underlying24 (by rfl) (by kernel_rfl) ?_))
    refine (rcheck_any kd HKD.out f' v' pr args HF.out HV.out HP.out HOA.out _ w3 (RA.out _ B.out)).mono ?_; rintro e w4 ⟨rfl, hb⟩
    rw [HE.out]
    replace B := hidB (B.out.trans (hb.mono B.out.size))
    clear hb HE RA XF XV XP HO
    have hb1 : (taskE kd f' v' pr args != 0) = true := by rw [bne_iff_ne]; exact hne
    have hb2 : (taskE kd f' v' pr args == 0) = false := by rw [beq_eq_false_iff_ne]; exact hne
    generalize taskE kd f' v' pr args = er at *
    clear hne
    go_wp2_with fail
    all_goals first | (go_ret; exact ⟨rfl, B.out⟩) | skip
  have HA := hidB hA
  have HTW := hidB hT
  replace XF := hidB (XF.out.on hb)
  replace XV := hidB (XV.out.on hb)
  replace XP := hidB (XP.out.on hb)
  replace HO := hidB (own_on HO.out hb)
  replace B := hidB (B.out.trans (hb.mono B.out.size))
  have HSZ2 := hidB hb.size
  clear hb hT hA
  go_wp2_with (first | ((with_reducible refine ldId 24 (.tmp 7) ?_); refine wpList_load_row (by rfl) 24 (.tmp 7) (by rfl) (w.heap.size) (by rfl) 24 (f'.cells.toArray) (0, 0) _ (by exact XF.out) Try.underlying24 (by rfl) (by kernel_rfl) ?_) | ((with_reducible refine ldId 24 (.tmp 8) ?_); refine wpList_load_row (by rfl) 24 (.tmp 8) (by rfl) (w.heap.size + 1) (by rfl) 24 (v'.cells.toArray) (0, 0) _ (by exact XV.out) Try.underlying24 (by rfl) (by kernel_rfl) ?_) | ((with_reducible refine ldId 24 (.tmp 9) ?_); refine wpList_load_row (by rfl) 24 (.tmp 9) (by rfl) (w.heap.size + 1 + 1) (by rfl) 24 (pr.cells.toArray) (0, 0) _ (by exact XP.out) Try.underlying24 (by rfl) (by kernel_rfl) ?_))
  refine (rcheck_any kd HKD.out f' v' pr args HF.out HV.out HP.out HOA.out _ w3 (RA.out _ B.out)).mono ?_; rintro e w4 ⟨rfl, hb⟩
  rw [HE.out, her]
  clear her HE
  replace XF := hidB (XF.out.on hb)
  replace XV := hidB (XV.out.on hb)
  replace XP := hidB (XP.out.on hb)
  replace HO := hidB (own_on HO.out hb)
  replace B := hidB (B.out.trans (hb.mono B.out.size))
  replace HTW := hidB (HTW.out.on hb)
  clear hb
  have HLO := hidB HO.out.lt
  go_upto_region 11 with fail
  have HZ0 := hidB (show OwnZ args.length q2 w1.heap.size w2.heap.size w4 from fun h0 => by obtain ⟨g, cur, e, a, b, c, d⟩ := (OwnZ.of HO.out (Nat.le_refl _)) h0; exact ⟨g, cur, e, a, (HLO2.out g (by rw [e]; rfl)).2, c, d⟩)
  have ZZ := hidB (show ZW w1.heap.size w2.heap.size args.length q2 0 none w4 w4 from ⟨Kept.refl _ _, HZ0.out, OwnZ.none _ _ _ _⟩)
  clear HZ0 HO
  go_wp2_with fail
  go_loopw [16] (fun s16 wr => ∃ k : Nat, k ≤ args.length ∧ s16 = .int .i64 k ∧ ZW w1.heap.size w2.heap.size args.length q2 0 none w4 wr) (fun s16 _ => args.length - (intOf s16).toNat)
  case atStart => exact ⟨0, Nat.zero_le _, rfl, ZZ.out⟩
  case round =>
    clear ZZ
    obtain ⟨k, hk, rfl, hZ⟩ := hrel
    have ZZ := hidB hZ
    clear hZ
    have hx2 : (0 : Int) ≤ (k : Int) := by omega
    by_cases hlt : k < args.length
    · have hx1 : (k : Int) < (args.length : Int) := by omega
      have HLT := hidB hlt
      obtain ⟨gz, cur, hq, hlo, hhi, hbk, hsz⟩ := ZZ.out.r1 (by omega)
      subst hq
      have TH := hidB (OwnZ.there hbk hsz hlt)
      have HLO3 := hidB hlo
      have HHI := hidB hhi
      clear hlo hhi hbk hsz
      go_wp2_with (first | ((with_reducible refine wpId ?_); refine wpList_build_to (by rfl) 24 _ (by rfl) (#[.int .u8 77, .float .f64 0, .string ⟨#[]⟩, .int .i64 0]) (by kernel_rfl) ?_) | ((with_reducible refine stId 24 (.tmp 60) (.tmp 59) ?_); refine wpList_store_mid (by rfl) 24 (.tmp 60) (.tmp 59) (by rfl) gz (k * 4) #[.int .u8 77, .float .f64 0, .string ⟨#[]⟩, .int .i64 0] (by rfl) (by rfl) (by exact TH.out) (by kernel_rfl) (by kernel_rfl) ?_))
      go_roundw
      case rel => exact ⟨k + 1, by have := HLT.out; omega, by go_num, ZZ.out.set ⟨HLO3.out, HHI.out⟩ _ _⟩
      case measure => have := HLT.out; simp [intOf]; omega
    have hx4 : ¬ ((k : Int) < (args.length : Int)) := by omega
    clear hk hlt
    have HKK := hidB ZZ.out.k
    clear ZZ
    replace XF := hidB (XF.out.kept HKK.out (fun h => absurd (show w1.heap.size ≤ w.heap.size from h.1) (by have := HXL.out; omega)))
    replace XV := hidB (XV.out.kept HKK.out (fun h => absurd (show w1.heap.size ≤ w.heap.size + 1 from h.1) (by have := HXL.out; omega)))
    replace XP := hidB (XP.out.kept HKK.out (fun h => absurd (show w1.heap.size ≤ w.heap.size + 1 + 1 from h.1) (by have := HXL.out; omega)))
    replace HTW := hidB (HTW.out.keep HKK.out.size (fun k hk => HKK.out.block k (HTW.out.lt k hk) (fun h => absurd (show k < w2.heap.size from h.2) (by have := HA.out k hk; omega))))
    replace B := hidB (B.out.trans (HKK.out.toBelow B.out.size (fun k hk => Nat.le_trans HW1.out (show w1.heap.size ≤ k from hk.1))))
    go_wp2_with (first | ((with_reducible refine ldId 24 (.tmp 7) ?_); refine wpList_load_row (by rfl) 24 (.tmp 7) (by rfl) (w.heap.size) (by rfl) 24 (f'.cells.toArray) (0, 0) _ (by exact XF.out) Try.underlying24 (by rfl) (by kernel_rfl) ?_) | ((with_reducible refine ldId 24 (.tmp 8) ?_); refine wpList_load_row (by rfl) 24 (.tmp 8) (by rfl) (w.heap.size + 1) (by rfl) 24 (v'.cells.toArray) (0, 0) _ (by exact XV.out) Try.underlying24 (by rfl) (by kernel_rfl) ?_) | ((with_reducible refine ldId 24 (.tmp 9) ?_); refine wpList_load_row (by rfl) 24 (.tmp 9) (by rfl) (w.heap.size + 1 + 1) (by rfl) 24 (pr.cells.toArray) (0, 0) _ (by exact XP.out) Try.underlying24 (by rfl) (by kernel_rfl) ?_))
    all_goals first | (exfalso; omega) | skip
    refine (leads_any kd HKD.out f' v' pr args L0 w _ _ RAW.out RLW.out HOK.out HL0.out T A wr B.out (fun k hk => Nat.le_trans (Nat.le_trans HW1.out HW2.out) (HA.out k hk)) HTW.out).mono ?_; rintro e w5 ⟨rfl, hb⟩
    go_wp2_with fail
    go_ret
    exact ⟨rfl, hb⟩

end Go.Proofs.Ytbkjbpefbdoenaa
