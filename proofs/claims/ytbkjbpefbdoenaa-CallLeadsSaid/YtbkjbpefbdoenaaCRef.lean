/-
  What is wrong with what is begun, and all that it wants: the reference.
-/
import Derived.Test.YtbkjbpefbdoenaaCRun
namespace Go.Proofs.Ytbkjbpefbdoenaa
open Go.RowKit

def listE (args : List VI) : Int := if 64 < args.length then 4 else if badL args then 9 else 0
theorem ret_i64 {a b : Int} (h : a = b) : Ending.returned (.int .i64 a) = .returned (.int .i64 b) := h ▸ rfl
def refE (kd : Int) (f v pr : VI) (args : List VI) : Int := if !f.may || (!v.may || (((kd == 2) && (!pr.may || (!isObj pr.k || !(f.k == 8)))) || ((kd > 0) && !(v.k == 8)))) then 9 else listE args
theorem badL_take (l : List VI) (i : Nat) (h : i < l.length) (h0 : badL (l.take i) = false) (hm : (l[i]).may = true) : badL (l.take (i + 1)) = false := by
  unfold badL at h0 ⊢
  rw [List.take_succ_eq_append_getElem h, List.any_append, h0]
  simp [hm]
theorem badL_mem (l : List VI) (i : Nat) (h : i < l.length) (hm : (l[i]).may = false) : badL l = true := by
  unfold badL
  rw [List.any_eq_true]
  exact ⟨l[i], List.getElem_mem h, by rw [hm]; rfl⟩
set_option maxHeartbeats 8000000 in
set_option maxRecDepth 100000 in
theorem rlisted_any (args : List VI) (h0 : okV args) (v : Value) (w : World) (hr : RdL VI.cells 4 args v w) : Calls Try.prog 33 #[v] w fun e w' => e = .returned (.int .i64 (listE args)) ∧ Below w.heap.size w w' := by
  obtain ⟨pa, c, rfl, a1, a2, a3⟩ := hr
  unfold maxLen at a2
  have hlm : args.length ≤ 9223372036854775807 := by omega
  have HA := hidB a3
  have H0 := hidB h0
  clear a3 h0
  go_enter Try.func33, Try.ntmps33
  by_cases hl : 64 < args.length
  · have hli : (64 : Int) < (args.length : Int) := by omega
    have HL := hidB hl
    clear hl
    go_wp2_with fail
    go_ret
    exact ⟨ret_i64 (a := 4) (by unfold listE; rw [if_pos HL.out]), Below.refl _ _⟩
  have hli : ¬ (64 : Int) < (args.length : Int) := by omega
  have HL := hidB hl
  clear hl
  go_wp2_with fail
  go_loopw [3] (fun s3 wr => ∃ i : Nat, i ≤ args.length ∧ s3 = .int .i64 i ∧ badL (args.take i) = false ∧ Below w.heap.size w wr) (fun i _ => args.length - (intOf i).toNat)
  case atStart => exact ⟨0, by omega, rfl, by rw [List.take_zero]; rfl, Below.refl _ _⟩
  case round =>
    obtain ⟨i, hi, rfl, hbad, hb⟩ := hrel
    have B := hidB hb
    have HBD := hidB hbad
    clear hb hbad
    have hx2 : (0 : Int) ≤ (i : Int) := by omega
    by_cases hlt : i < args.length
    rotate_left
    · obtain rfl : i = args.length := by omega
      have hx4 : ¬ ((args.length : Int) < (args.length : Int)) := by omega
      rw [List.take_length] at HBD
      clear HA hi hlt
      go_wp2_with fail
      go_ret
      exact ⟨ret_i64 (a := 0) (by unfold listE; rw [if_neg HL.out, HBD.out]; rfl), B.out⟩
    have hx1 : (i : Int) < (args.length : Int) := by omega
    obtain ⟨g, o, rfl, hg, hrow⟩ := HA.out (by omega)
    have HRW := hidB (rangeOn B.out hg (hrow i hlt))
    have HT := hidB (fun hm => badL_take args i hlt HBD.out hm)
    have HB := hidB (fun hm => badL_mem args i hlt hm)
    have HK0 := hidB (H0.out _ (List.getElem_mem hlt))
    clear hrow hg
    generalize args[i]'hlt = q0 at *
    go_wp2_with (first | ((with_reducible refine ldId 24 (.tmp 15) ?_); refine wpList_load_mid (by rfl) 24 (.tmp 15) (by rfl) g (o + i * 4) (by rfl) q0.cells _ (by exact HRW.out) Try.underlying24 (by rfl) (by kernel_rfl) ?_))
    refine (rmay_any q0.k q0.x q0.s q0.r HK0.out _).mono ?_; rintro e w2 ⟨rfl, hb⟩
    replace B := hidB (B.out.trans (hb.mono B.out.size))
    clear hb
    have HM := hidB (show q0.may = mayV q0.k q0.x q0.s q0.r from rfl)
    generalize mayV q0.k q0.x q0.s q0.r = m at *
    cases m
    · go_wp2_with fail
      go_ret
      exact ⟨ret_i64 (a := 9) (by unfold listE; rw [if_neg HL.out, HB.out HM.out]; rfl), B.out⟩
    · go_wp2_with fail
      go_roundw
      case rel => exact ⟨i + 1, by omega, by go_num, HT.out HM.out, B.out⟩
      case measure => simp [intOf]; omega
set_option maxHeartbeats 8000000 in
set_option maxRecDepth 100000 in
theorem rcheck_any (kd : Int) (hkd : kd = 0 ∨ kd = 1 ∨ kd = 2) (f' v' pr : VI) (args : List VI) (h1 : 0 ≤ f'.k) (h2 : 0 ≤ v'.k) (h3 : 0 ≤ pr.k) (h0 : okV args) (av : Value) (w : World) (hr : RdL VI.cells 4 args av w) : Calls Try.prog 13 #[.int .u8 kd, f'.a, v'.a, pr.a, av] w fun e w' => e = .returned (.int .i64 (refE kd f' v' pr args)) ∧ Below w.heap.size w w' := by
  have LI := hidB (fun W (hb : Below w.heap.size w W) => rlisted_any args h0 av W (hr.on hb))
  have MF := hidB (fun W => rmay_any f'.k f'.x f'.s f'.r h1 W)
  have MV := hidB (fun W => rmay_any v'.k v'.x v'.s v'.r h2 W)
  have MP := hidB (fun W => rmay_any pr.k pr.x pr.s pr.r h3 W)
  obtain ⟨pa, c, rfl, _⟩ := hr
  clear h0 h1 h2 h3
  have HF := hidB (rfl : refE kd f' v' pr args = refE kd f' v' pr args)
  obtain ⟨cf, hcf⟩ : ∃ q, refE kd f' v' pr args = q := ⟨_, rfl⟩
  rw [hcf]
  replace HF := hidB hcf
  clear hcf
  unfold refE at HF
  have XF := hidB (show Bk (((w.alloc (.cells (f'.cells.toArray) 24)).alloc (.cells (v'.cells.toArray) 24)).alloc (.cells (pr.cells.toArray) 24)) (w.heap.size) 24 (f'.cells.toArray) from ((Bk.new w _ _).alloc _).alloc _)
  have XV := hidB (show Bk (((w.alloc (.cells (f'.cells.toArray) 24)).alloc (.cells (v'.cells.toArray) 24)).alloc (.cells (pr.cells.toArray) 24)) (w.heap.size + 1) 24 (v'.cells.toArray) from (Bk.new2 w _ _ _).alloc _)
  have XP := hidB (show Bk (((w.alloc (.cells (f'.cells.toArray) 24)).alloc (.cells (v'.cells.toArray) 24)).alloc (.cells (pr.cells.toArray) 24)) (w.heap.size + 1 + 1) 24 (pr.cells.toArray) from Bk.new3 w _ _ _ _)
  have B := hidB (show Below w.heap.size w (((w.alloc (.cells (f'.cells.toArray) 24)).alloc (.cells (v'.cells.toArray) 24)).alloc (.cells (pr.cells.toArray) 24)) from ((box_one w _).alloc (by simp) _).alloc (by simp <;> omega) _)
  rcases hkd with rfl | rfl | rfl
  · skip
    go_enter Try.func13, Try.ntmps13
    go_upto_region 1 with fail
    generalize hW : (((w.alloc (.cells (f'.cells.toArray) 24)).alloc (.cells (v'.cells.toArray) 24)).alloc (.cells (pr.cells.toArray) 24)) = w1 at *
    clear hW
    go_wp2_with (first | ((with_reducible refine ldId 24 (.tmp 6) ?_); refine wpList_load_row (by rfl) 24 (.tmp 6) (by rfl) (w.heap.size) (by rfl) 24 (f'.cells.toArray) (0, 0) _ (by exact XF.out) Try.underlying24 (by rfl) (by kernel_rfl) ?_))
    refine (MF.out _).mono ?_; rintro e w2F ⟨rfl, hb⟩
    replace XF := hidB (XF.out.on hb); replace XV := hidB (XV.out.on hb); replace XP := hidB (XP.out.on hb); replace B := hidB (B.out.trans (hb.mono B.out.size)); clear hb
    have HMF := hidB (show f'.may = mayV f'.k f'.x f'.s f'.r from rfl)
    generalize mayV f'.k f'.x f'.s f'.r = mF at *
    cases mF
    · skip
      go_wp2_with fail
      go_ret
      exact ⟨ret_i64 (a := 9) (by rw [← HF.out]; simp [HMF.out]), B.out⟩
    go_wp2_with (first | ((with_reducible refine ldId 24 (.tmp 7) ?_); refine wpList_wload_mid 24 (.tmp 7) (by rfl) (by rfl) (w.heap.size + 1) 0 (by rfl) (v'.cells) _ (by exact Bk.mid XV.out 0 _ rfl) Try.underlying24 (by rfl) (by kernel_rfl) ?_))
    refine (MV.out _).mono ?_; rintro e w2V ⟨rfl, hb⟩
    replace XF := hidB (XF.out.on hb); replace XV := hidB (XV.out.on hb); replace XP := hidB (XP.out.on hb); replace B := hidB (B.out.trans (hb.mono B.out.size)); clear hb
    have HMV := hidB (show v'.may = mayV v'.k v'.x v'.s v'.r from rfl)
    generalize mayV v'.k v'.x v'.s v'.r = mV at *
    cases mV
    · skip
      go_wp2_with fail
      go_ret
      exact ⟨ret_i64 (a := 9) (by rw [← HF.out]; simp [HMF.out, HMV.out]), B.out⟩
    go_wp2_with fail
    refine (LI.out _ B.out).mono ?_; rintro e w9 ⟨rfl, hb⟩
    replace B := hidB (B.out.trans (hb.mono B.out.size))
    clear hb
    go_wp2_with fail
    go_ret
    exact ⟨ret_i64 (by rw [← HF.out]; simp [HMF.out, HMV.out]), B.out⟩
  · skip
    go_enter Try.func13, Try.ntmps13
    go_upto_region 1 with fail
    generalize hW : (((w.alloc (.cells (f'.cells.toArray) 24)).alloc (.cells (v'.cells.toArray) 24)).alloc (.cells (pr.cells.toArray) 24)) = w1 at *
    clear hW
    go_wp2_with (first | ((with_reducible refine ldId 24 (.tmp 6) ?_); refine wpList_load_row (by rfl) 24 (.tmp 6) (by rfl) (w.heap.size) (by rfl) 24 (f'.cells.toArray) (0, 0) _ (by exact XF.out) Try.underlying24 (by rfl) (by kernel_rfl) ?_))
    refine (MF.out _).mono ?_; rintro e w2F ⟨rfl, hb⟩
    replace XF := hidB (XF.out.on hb); replace XV := hidB (XV.out.on hb); replace XP := hidB (XP.out.on hb); replace B := hidB (B.out.trans (hb.mono B.out.size)); clear hb
    have HMF := hidB (show f'.may = mayV f'.k f'.x f'.s f'.r from rfl)
    generalize mayV f'.k f'.x f'.s f'.r = mF at *
    cases mF
    · skip
      go_wp2_with fail
      go_ret
      exact ⟨ret_i64 (a := 9) (by rw [← HF.out]; simp [HMF.out]), B.out⟩
    go_wp2_with (first | ((with_reducible refine ldId 24 (.tmp 7) ?_); refine wpList_wload_mid 24 (.tmp 7) (by rfl) (by rfl) (w.heap.size + 1) 0 (by rfl) (v'.cells) _ (by exact Bk.mid XV.out 0 _ rfl) Try.underlying24 (by rfl) (by kernel_rfl) ?_))
    refine (MV.out _).mono ?_; rintro e w2V ⟨rfl, hb⟩
    replace XF := hidB (XF.out.on hb); replace XV := hidB (XV.out.on hb); replace XP := hidB (XP.out.on hb); replace B := hidB (B.out.trans (hb.mono B.out.size)); clear hb
    have HMV := hidB (show v'.may = mayV v'.k v'.x v'.s v'.r from rfl)
    generalize mayV v'.k v'.x v'.s v'.r = mV at *
    cases mV
    · skip
      go_wp2_with fail
      go_ret
      exact ⟨ret_i64 (a := 9) (by rw [← HF.out]; simp [HMF.out, HMV.out]), B.out⟩
    have xv8 : w2V.cell? ⟨w.heap.size + 1, 0, none⟩ = some (.int .u8 v'.k) := XV.out.cell 0
    cases hv8 : (v'.k == 8)
    all_goals
      have Hv8 := hidB hv8
      have nv8 : (v'.k != 8) = !(v'.k == 8) := rfl
      rw [hv8] at nv8
      simp only [Bool.not_false, Bool.not_true] at nv8
    · skip
      go_wp2_with fail
      go_ret
      exact ⟨ret_i64 (a := 9) (by rw [← HF.out]; simp [HMF.out, HMV.out, Hv8.out]), B.out⟩
    go_wp2_with fail
    refine (LI.out _ B.out).mono ?_; rintro e w9 ⟨rfl, hb⟩
    replace B := hidB (B.out.trans (hb.mono B.out.size))
    clear hb
    go_wp2_with fail
    go_ret
    exact ⟨ret_i64 (by rw [← HF.out]; simp [HMF.out, HMV.out, Hv8.out]), B.out⟩
  · skip
    go_enter Try.func13, Try.ntmps13
    go_upto_region 1 with fail
    generalize hW : (((w.alloc (.cells (f'.cells.toArray) 24)).alloc (.cells (v'.cells.toArray) 24)).alloc (.cells (pr.cells.toArray) 24)) = w1 at *
    clear hW
    go_wp2_with (first | ((with_reducible refine ldId 24 (.tmp 6) ?_); refine wpList_load_row (by rfl) 24 (.tmp 6) (by rfl) (w.heap.size) (by rfl) 24 (f'.cells.toArray) (0, 0) _ (by exact XF.out) Try.underlying24 (by rfl) (by kernel_rfl) ?_))
    refine (MF.out _).mono ?_; rintro e w2F ⟨rfl, hb⟩
    replace XF := hidB (XF.out.on hb); replace XV := hidB (XV.out.on hb); replace XP := hidB (XP.out.on hb); replace B := hidB (B.out.trans (hb.mono B.out.size)); clear hb
    have HMF := hidB (show f'.may = mayV f'.k f'.x f'.s f'.r from rfl)
    generalize mayV f'.k f'.x f'.s f'.r = mF at *
    cases mF
    · skip
      go_wp2_with fail
      go_ret
      exact ⟨ret_i64 (a := 9) (by rw [← HF.out]; simp [HMF.out]), B.out⟩
    go_wp2_with (first | ((with_reducible refine ldId 24 (.tmp 7) ?_); refine wpList_wload_mid 24 (.tmp 7) (by rfl) (by rfl) (w.heap.size + 1) 0 (by rfl) (v'.cells) _ (by exact Bk.mid XV.out 0 _ rfl) Try.underlying24 (by rfl) (by kernel_rfl) ?_))
    refine (MV.out _).mono ?_; rintro e w2V ⟨rfl, hb⟩
    replace XF := hidB (XF.out.on hb); replace XV := hidB (XV.out.on hb); replace XP := hidB (XP.out.on hb); replace B := hidB (B.out.trans (hb.mono B.out.size)); clear hb
    have HMV := hidB (show v'.may = mayV v'.k v'.x v'.s v'.r from rfl)
    generalize mayV v'.k v'.x v'.s v'.r = mV at *
    cases mV
    · skip
      go_wp2_with fail
      go_ret
      exact ⟨ret_i64 (a := 9) (by rw [← HF.out]; simp [HMF.out, HMV.out]), B.out⟩
    go_wp2_with (first | ((with_reducible refine ldId 24 (.tmp 8) ?_); refine wpList_wload_mid 24 (.tmp 8) (by rfl) (by rfl) (w.heap.size + 1 + 1) 0 (by rfl) (pr.cells) _ (by exact Bk.mid XP.out 0 _ rfl) Try.underlying24 (by rfl) (by kernel_rfl) ?_))
    refine (MP.out _).mono ?_; rintro e w2P ⟨rfl, hb⟩
    replace XF := hidB (XF.out.on hb); replace XV := hidB (XV.out.on hb); replace XP := hidB (XP.out.on hb); replace B := hidB (B.out.trans (hb.mono B.out.size)); clear hb
    have HMP := hidB (show pr.may = mayV pr.k pr.x pr.s pr.r from rfl)
    generalize mayV pr.k pr.x pr.s pr.r = mP at *
    cases mP
    · skip
      go_wp2_with fail
      go_ret
      exact ⟨ret_i64 (a := 9) (by rw [← HF.out]; simp [HMF.out, HMV.out, HMP.out]), B.out⟩
    go_wp2_with (first | ((with_reducible refine ldId 24 (.tmp 8) ?_); refine wpList_wload_mid 24 (.tmp 8) (by rfl) (by rfl) (w.heap.size + 1 + 1) 0 (by rfl) (pr.cells) _ (by exact Bk.mid XP.out 0 _ rfl) Try.underlying24 (by rfl) (by kernel_rfl) ?_))
    refine (refObj_any pr.k pr.x pr.s pr.r _).mono ?_; rintro e w3 ⟨rfl, hbe⟩
    have hb : Below w2P.heap.size w2P w3 := hbe ▸ box_one _ _
    clear hbe
    replace XF := hidB (XF.out.on hb); replace XV := hidB (XV.out.on hb); replace XP := hidB (XP.out.on hb); replace B := hidB (B.out.trans (hb.mono B.out.size)); clear hb
    cases hio : isObj pr.k
    · skip
      go_wp2_with fail
      go_ret
      exact ⟨ret_i64 (a := 9) (by rw [← HF.out]; simp [HMF.out, HMV.out, HMP.out, hio]), B.out⟩
    have xf8 : w3.cell? ⟨w.heap.size, 0, none⟩ = some (.int .u8 f'.k) := XF.out.cell 0
    cases hf8 : (f'.k == 8)
    all_goals
      have Hf8 := hidB hf8
      have nf8 : (f'.k != 8) = !(f'.k == 8) := rfl
      rw [hf8] at nf8
      simp only [Bool.not_false, Bool.not_true] at nf8
    · skip
      go_wp2_with fail
      go_ret
      exact ⟨ret_i64 (a := 9) (by rw [← HF.out]; simp [HMF.out, HMV.out, HMP.out, hio, Hf8.out]), B.out⟩
    have xv8 : w3.cell? ⟨w.heap.size + 1, 0, none⟩ = some (.int .u8 v'.k) := XV.out.cell 0
    cases hv8 : (v'.k == 8)
    all_goals
      have Hv8 := hidB hv8
      have nv8 : (v'.k != 8) = !(v'.k == 8) := rfl
      rw [hv8] at nv8
      simp only [Bool.not_false, Bool.not_true] at nv8
    · skip
      go_wp2_with fail
      go_ret
      exact ⟨ret_i64 (a := 9) (by rw [← HF.out]; simp [HMF.out, HMV.out, HMP.out, hio, Hf8.out, Hv8.out]), B.out⟩
    go_wp2_with fail
    refine (LI.out _ B.out).mono ?_; rintro e w9 ⟨rfl, hb⟩
    replace B := hidB (B.out.trans (hb.mono B.out.size))
    clear hb
    go_wp2_with fail
    go_ret
    exact ⟨ret_i64 (by rw [← HF.out]; simp [HMF.out, HMV.out, HMP.out, hio, Hf8.out, Hv8.out]), B.out⟩

def runF (kd : Int) (f v pr : VI) (av : Value) (L : List (OI × List KI)) : List WI × OI := if kd = 0 then calledF f v av L else if kd = 1 then madeF f v av L else bodyF f v pr av L
theorem runF_len (kd : Int) (f v pr : VI) (av : Value) (L : List (OI × List KI)) : (runF kd f v pr av L).1.length ≤ 1000 := by
  unfold runF calledF madeF bodyF askF
  repeat' split
  all_goals simp
set_option maxHeartbeats 8000000 in
set_option maxRecDepth 100000 in
theorem rrun_any (kd : Int) (hkd : kd = 0 ∨ kd = 1 ∨ kd = 2) (f' v' pr : VI) (pa : Option Addr) (n c : Nat) (L : List (OI × List KI)) (ans : Value) (w : World) (hA : AnsO L ans w) : Calls Try.prog 34 #[.int .u8 kd, f'.a, v'.a, pr.a, .slice pa n c, ans] w fun e w' => EndR w (endL (runF kd f' v' pr (.slice pa n c) L).1 (runF kd f' v' pr (.slice pa n c) L).2) e w' := by
  have HA := hidB hA
  have HLEN := hidB (runF_len kd f' v' pr (.slice pa n c) L)
  obtain ⟨⟨qa, qc, rfl, _⟩, _⟩ := hA
  have XF := hidB (show Bk (((w.alloc (.cells (f'.cells.toArray) 24)).alloc (.cells (v'.cells.toArray) 24)).alloc (.cells (pr.cells.toArray) 24)) (w.heap.size) 24 (f'.cells.toArray) from ((Bk.new w _ _).alloc _).alloc _)
  have XV := hidB (show Bk (((w.alloc (.cells (f'.cells.toArray) 24)).alloc (.cells (v'.cells.toArray) 24)).alloc (.cells (pr.cells.toArray) 24)) (w.heap.size + 1) 24 (v'.cells.toArray) from (Bk.new2 w _ _ _).alloc _)
  have XP := hidB (show Bk (((w.alloc (.cells (f'.cells.toArray) 24)).alloc (.cells (v'.cells.toArray) 24)).alloc (.cells (pr.cells.toArray) 24)) (w.heap.size + 1 + 1) 24 (pr.cells.toArray) from Bk.new3 w _ _ _ _)
  have B := hidB (show Below w.heap.size w (((w.alloc (.cells (f'.cells.toArray) 24)).alloc (.cells (v'.cells.toArray) 24)).alloc (.cells (pr.cells.toArray) 24)) from ((box_one w _).alloc (by simp) _).alloc (by simp <;> omega) _)
  have HF := hidB (rfl : runF kd f' v' pr (.slice pa n c) L = runF kd f' v' pr (.slice pa n c) L)
  obtain ⟨cf, hcf⟩ : ∃ q, runF kd f' v' pr (.slice pa n c) L = q := ⟨_, rfl⟩
  rw [hcf] at HLEN ⊢
  replace HF := hidB hcf
  clear hcf
  unfold runF at HF
  obtain ⟨wl, O⟩ := cf
  replace HLEN := hidB (show wl.length ≤ 1000 from HLEN.out)
  dsimp only
  rcases hkd with rfl | rfl | rfl
  · skip
    go_enter Try.func34, Try.ntmps34
    go_upto_region 1 with fail
    generalize hW : (((w.alloc (.cells (f'.cells.toArray) 24)).alloc (.cells (v'.cells.toArray) 24)).alloc (.cells (pr.cells.toArray) 24)) = w1 at *
    clear hW
    have HP0 := hidB (show w.heap.size ≤ w1.heap.size from B.out.size)
    have BP := hidB (show Bk ((w1.alloc (.cells #[.slice qa L.length qc, .slice none 0 0] 95)).alloc (.cells (#[.int .u8 0, .int .u8 0, .float .f64 0, .string ⟨#[]⟩, .int .i64 0, .bool false, .bool false, .int .u8 0, .int .u8 0, .float .f64 0, .string ⟨#[]⟩, .int .i64 0, .int .u8 0, .float .f64 0, .string ⟨#[]⟩, .int .i64 0, .int .u8 0, .float .f64 0, .string ⟨#[]⟩, .int .i64 0, .bool false, .bool false, .bool false, .slice none 0 0, .int .u8 0, .string ⟨#[]⟩]) 36)) w1.heap.size 95 #[.slice qa L.length qc, .slice none 0 0] from (Bk.new w1 _ _).alloc _)
    have R := hidB (show Bk ((w1.alloc (.cells #[.slice qa L.length qc, .slice none 0 0] 95)).alloc (.cells (#[.int .u8 0, .int .u8 0, .float .f64 0, .string ⟨#[]⟩, .int .i64 0, .bool false, .bool false, .int .u8 0, .int .u8 0, .float .f64 0, .string ⟨#[]⟩, .int .i64 0, .int .u8 0, .float .f64 0, .string ⟨#[]⟩, .int .i64 0, .int .u8 0, .float .f64 0, .string ⟨#[]⟩, .int .i64 0, .bool false, .bool false, .bool false, .slice none 0 0, .int .u8 0, .string ⟨#[]⟩]) 36)) (w1.heap.size + 1) 36 OI.zero.cs from Bk.new2 w1 _ _ _)
    have B2 := hidB (show Below w.heap.size w ((w1.alloc (.cells #[.slice qa L.length qc, .slice none 0 0] 95)).alloc (.cells (#[.int .u8 0, .int .u8 0, .float .f64 0, .string ⟨#[]⟩, .int .i64 0, .bool false, .bool false, .int .u8 0, .int .u8 0, .float .f64 0, .string ⟨#[]⟩, .int .i64 0, .int .u8 0, .float .f64 0, .string ⟨#[]⟩, .int .i64 0, .int .u8 0, .float .f64 0, .string ⟨#[]⟩, .int .i64 0, .bool false, .bool false, .bool false, .slice none 0 0, .int .u8 0, .string ⟨#[]⟩]) 36)) from (B.out.alloc B.out.size _).alloc (Nat.le_trans B.out.size (by simp)) _)
    replace XF := hidB (show Bk ((w1.alloc (.cells #[.slice qa L.length qc, .slice none 0 0] 95)).alloc (.cells (#[.int .u8 0, .int .u8 0, .float .f64 0, .string ⟨#[]⟩, .int .i64 0, .bool false, .bool false, .int .u8 0, .int .u8 0, .float .f64 0, .string ⟨#[]⟩, .int .i64 0, .int .u8 0, .float .f64 0, .string ⟨#[]⟩, .int .i64 0, .int .u8 0, .float .f64 0, .string ⟨#[]⟩, .int .i64 0, .bool false, .bool false, .bool false, .slice none 0 0, .int .u8 0, .string ⟨#[]⟩]) 36)) (w.heap.size) 24 f'.cells.toArray from (XF.out.alloc _).alloc _)
    replace XV := hidB (show Bk ((w1.alloc (.cells #[.slice qa L.length qc, .slice none 0 0] 95)).alloc (.cells (#[.int .u8 0, .int .u8 0, .float .f64 0, .string ⟨#[]⟩, .int .i64 0, .bool false, .bool false, .int .u8 0, .int .u8 0, .float .f64 0, .string ⟨#[]⟩, .int .i64 0, .int .u8 0, .float .f64 0, .string ⟨#[]⟩, .int .i64 0, .int .u8 0, .float .f64 0, .string ⟨#[]⟩, .int .i64 0, .bool false, .bool false, .bool false, .slice none 0 0, .int .u8 0, .string ⟨#[]⟩]) 36)) (w.heap.size + 1) 24 v'.cells.toArray from (XV.out.alloc _).alloc _)
    replace XP := hidB (show Bk ((w1.alloc (.cells #[.slice qa L.length qc, .slice none 0 0] 95)).alloc (.cells (#[.int .u8 0, .int .u8 0, .float .f64 0, .string ⟨#[]⟩, .int .i64 0, .bool false, .bool false, .int .u8 0, .int .u8 0, .float .f64 0, .string ⟨#[]⟩, .int .i64 0, .int .u8 0, .float .f64 0, .string ⟨#[]⟩, .int .i64 0, .int .u8 0, .float .f64 0, .string ⟨#[]⟩, .int .i64 0, .bool false, .bool false, .bool false, .slice none 0 0, .int .u8 0, .string ⟨#[]⟩]) 36)) (w.heap.size + 1 + 1) 24 pr.cells.toArray from (XP.out.alloc _).alloc _)
    go_upto_region 3 with (first | ((with_reducible refine wpId ?_); refine wpList_build_to (by rfl) 95 _ (by rfl) (#[.slice qa L.length qc, .slice none 0 0]) (by kernel_rfl) ?_))
    generalize hW : ((w1.alloc (.cells #[.slice qa L.length qc, .slice none 0 0] 95)).alloc (.cells (#[.int .u8 0, .int .u8 0, .float .f64 0, .string ⟨#[]⟩, .int .i64 0, .bool false, .bool false, .int .u8 0, .int .u8 0, .float .f64 0, .string ⟨#[]⟩, .int .i64 0, .int .u8 0, .float .f64 0, .string ⟨#[]⟩, .int .i64 0, .int .u8 0, .float .f64 0, .string ⟨#[]⟩, .int .i64 0, .bool false, .bool false, .bool false, .slice none 0 0, .int .u8 0, .string ⟨#[]⟩]) 36)) = w2 at *
    clear hW B
    generalize w1.heap.size = p at *
    have PF := hidB (show RP w p (.slice qa L.length qc) [] w2 from ⟨B2.out, HP0.out, _, BP.out, World.ownsRow_nil _ _ _ _⟩)
    go_wp2_with (first | ((with_reducible refine ldId 24 (.tmp 7) ?_); refine wpList_load_row (by rfl) 24 (.tmp 7) (by rfl) (w.heap.size) (by rfl) 24 (f'.cells.toArray) (0, 0) _ (by exact XF.out) Try.underlying24 (by rfl) (by kernel_rfl) ?_) | ((with_reducible refine ldId 24 (.tmp 8) ?_); refine wpList_load_row (by rfl) 24 (.tmp 8) (by rfl) (w.heap.size + 1) (by rfl) 24 (v'.cells.toArray) (0, 0) _ (by exact XV.out) Try.underlying24 (by rfl) (by kernel_rfl) ?_))
    refine (r20called_any f' v' pa n c w p (.slice qa L.length qc) L HA.out w2 PF.out).mono ?_; rintro e w3 ⟨rfl, hone, hrp, hfr⟩
    have HE := hidB (show (wl, O) = calledF f' v' (.slice pa n c) L from HF.out.symm)
    rw [← HE.out] at hone hrp
    rw [← HE.out]
    have HONE := hidB hone
    have PG := hidB hrp
    replace R := hidB (hfr.keep _ _ _ R.out (by decide) (Nat.succ_ne_self p))
    clear hone hrp hfr PF HE HF HA
    replace HONE := hidB (show O.keys.oneCell' = true from HONE.out)
    replace PG := hidB (show RP w p (.slice qa L.length qc) wl w3 from PG.out)
    have PG3 := hidB (PG.out.setRow (g := p + 1) (Nat.le_succ_of_le HP0.out) R.out (by decide) (by decide) O.cs)
    have R3 := hidB (R.out.setRow O.cs)
    go_upto_region 9 with (first | ((with_reducible refine stId 36 (.tmp 14) (.tmp 31) ?_); refine wpList_store_row (by rfl) 36 (.tmp 14) (.tmp 31) (by rfl) (p + 1) (O.cs) (by rfl) (by rfl) 36 (OI.zero.cs) (by exact R.out) (by kernel_rfl) (by rfl) (by exact OI.one _ HONE.out) ?_))
    generalize hW : (w3.setRow (p + 1) O.cs) = w4 at *
    clear hW R PG
    go_wp2_with (first | ((with_reducible refine ldId 36 (.tmp 14) ?_); refine wpList_load_row (by rfl) 36 (.tmp 14) (by rfl) (p + 1) (by rfl) 36 (O.cs) (0, 0) _ (by exact R3.out) Try.underlying36 (by rfl) (by kernel_rfl) ?_))
    refine (rended_any w p (.slice qa L.length qc) wl O HONE.out HLEN.out w4 PG3.out).mono ?_; rintro e w5 ⟨v, rfl, hb, ho⟩
    go_wp2_with fail
    go_ret
    exact ⟨v, rfl, hb, ho⟩
  · skip
    go_enter Try.func34, Try.ntmps34
    go_upto_region 1 with fail
    generalize hW : (((w.alloc (.cells (f'.cells.toArray) 24)).alloc (.cells (v'.cells.toArray) 24)).alloc (.cells (pr.cells.toArray) 24)) = w1 at *
    clear hW
    have HP0 := hidB (show w.heap.size ≤ w1.heap.size from B.out.size)
    have BP := hidB (show Bk ((w1.alloc (.cells #[.slice qa L.length qc, .slice none 0 0] 95)).alloc (.cells (#[.int .u8 0, .int .u8 0, .float .f64 0, .string ⟨#[]⟩, .int .i64 0, .bool false, .bool false, .int .u8 0, .int .u8 0, .float .f64 0, .string ⟨#[]⟩, .int .i64 0, .int .u8 0, .float .f64 0, .string ⟨#[]⟩, .int .i64 0, .int .u8 0, .float .f64 0, .string ⟨#[]⟩, .int .i64 0, .bool false, .bool false, .bool false, .slice none 0 0, .int .u8 0, .string ⟨#[]⟩]) 36)) w1.heap.size 95 #[.slice qa L.length qc, .slice none 0 0] from (Bk.new w1 _ _).alloc _)
    have R := hidB (show Bk ((w1.alloc (.cells #[.slice qa L.length qc, .slice none 0 0] 95)).alloc (.cells (#[.int .u8 0, .int .u8 0, .float .f64 0, .string ⟨#[]⟩, .int .i64 0, .bool false, .bool false, .int .u8 0, .int .u8 0, .float .f64 0, .string ⟨#[]⟩, .int .i64 0, .int .u8 0, .float .f64 0, .string ⟨#[]⟩, .int .i64 0, .int .u8 0, .float .f64 0, .string ⟨#[]⟩, .int .i64 0, .bool false, .bool false, .bool false, .slice none 0 0, .int .u8 0, .string ⟨#[]⟩]) 36)) (w1.heap.size + 1) 36 OI.zero.cs from Bk.new2 w1 _ _ _)
    have B2 := hidB (show Below w.heap.size w ((w1.alloc (.cells #[.slice qa L.length qc, .slice none 0 0] 95)).alloc (.cells (#[.int .u8 0, .int .u8 0, .float .f64 0, .string ⟨#[]⟩, .int .i64 0, .bool false, .bool false, .int .u8 0, .int .u8 0, .float .f64 0, .string ⟨#[]⟩, .int .i64 0, .int .u8 0, .float .f64 0, .string ⟨#[]⟩, .int .i64 0, .int .u8 0, .float .f64 0, .string ⟨#[]⟩, .int .i64 0, .bool false, .bool false, .bool false, .slice none 0 0, .int .u8 0, .string ⟨#[]⟩]) 36)) from (B.out.alloc B.out.size _).alloc (Nat.le_trans B.out.size (by simp)) _)
    replace XF := hidB (show Bk ((w1.alloc (.cells #[.slice qa L.length qc, .slice none 0 0] 95)).alloc (.cells (#[.int .u8 0, .int .u8 0, .float .f64 0, .string ⟨#[]⟩, .int .i64 0, .bool false, .bool false, .int .u8 0, .int .u8 0, .float .f64 0, .string ⟨#[]⟩, .int .i64 0, .int .u8 0, .float .f64 0, .string ⟨#[]⟩, .int .i64 0, .int .u8 0, .float .f64 0, .string ⟨#[]⟩, .int .i64 0, .bool false, .bool false, .bool false, .slice none 0 0, .int .u8 0, .string ⟨#[]⟩]) 36)) (w.heap.size) 24 f'.cells.toArray from (XF.out.alloc _).alloc _)
    replace XV := hidB (show Bk ((w1.alloc (.cells #[.slice qa L.length qc, .slice none 0 0] 95)).alloc (.cells (#[.int .u8 0, .int .u8 0, .float .f64 0, .string ⟨#[]⟩, .int .i64 0, .bool false, .bool false, .int .u8 0, .int .u8 0, .float .f64 0, .string ⟨#[]⟩, .int .i64 0, .int .u8 0, .float .f64 0, .string ⟨#[]⟩, .int .i64 0, .int .u8 0, .float .f64 0, .string ⟨#[]⟩, .int .i64 0, .bool false, .bool false, .bool false, .slice none 0 0, .int .u8 0, .string ⟨#[]⟩]) 36)) (w.heap.size + 1) 24 v'.cells.toArray from (XV.out.alloc _).alloc _)
    replace XP := hidB (show Bk ((w1.alloc (.cells #[.slice qa L.length qc, .slice none 0 0] 95)).alloc (.cells (#[.int .u8 0, .int .u8 0, .float .f64 0, .string ⟨#[]⟩, .int .i64 0, .bool false, .bool false, .int .u8 0, .int .u8 0, .float .f64 0, .string ⟨#[]⟩, .int .i64 0, .int .u8 0, .float .f64 0, .string ⟨#[]⟩, .int .i64 0, .int .u8 0, .float .f64 0, .string ⟨#[]⟩, .int .i64 0, .bool false, .bool false, .bool false, .slice none 0 0, .int .u8 0, .string ⟨#[]⟩]) 36)) (w.heap.size + 1 + 1) 24 pr.cells.toArray from (XP.out.alloc _).alloc _)
    go_upto_region 3 with (first | ((with_reducible refine wpId ?_); refine wpList_build_to (by rfl) 95 _ (by rfl) (#[.slice qa L.length qc, .slice none 0 0]) (by kernel_rfl) ?_))
    generalize hW : ((w1.alloc (.cells #[.slice qa L.length qc, .slice none 0 0] 95)).alloc (.cells (#[.int .u8 0, .int .u8 0, .float .f64 0, .string ⟨#[]⟩, .int .i64 0, .bool false, .bool false, .int .u8 0, .int .u8 0, .float .f64 0, .string ⟨#[]⟩, .int .i64 0, .int .u8 0, .float .f64 0, .string ⟨#[]⟩, .int .i64 0, .int .u8 0, .float .f64 0, .string ⟨#[]⟩, .int .i64 0, .bool false, .bool false, .bool false, .slice none 0 0, .int .u8 0, .string ⟨#[]⟩]) 36)) = w2 at *
    clear hW B
    generalize w1.heap.size = p at *
    have PF := hidB (show RP w p (.slice qa L.length qc) [] w2 from ⟨B2.out, HP0.out, _, BP.out, World.ownsRow_nil _ _ _ _⟩)
    go_wp2_with (first | ((with_reducible refine ldId 24 (.tmp 7) ?_); refine wpList_load_row (by rfl) 24 (.tmp 7) (by rfl) (w.heap.size) (by rfl) 24 (f'.cells.toArray) (0, 0) _ (by exact XF.out) Try.underlying24 (by rfl) (by kernel_rfl) ?_) | ((with_reducible refine ldId 24 (.tmp 8) ?_); refine wpList_load_row (by rfl) 24 (.tmp 8) (by rfl) (w.heap.size + 1) (by rfl) 24 (v'.cells.toArray) (0, 0) _ (by exact XV.out) Try.underlying24 (by rfl) (by kernel_rfl) ?_))
    refine (r20made_any f' v' pa n c w p (.slice qa L.length qc) L HA.out w2 PF.out).mono ?_; rintro e w3 ⟨rfl, hone, hrp, hfr⟩
    have HE := hidB (show (wl, O) = madeF f' v' (.slice pa n c) L from HF.out.symm)
    rw [← HE.out] at hone hrp
    rw [← HE.out]
    have HONE := hidB hone
    have PG := hidB hrp
    replace R := hidB (hfr.keep _ _ _ R.out (by decide) (Nat.succ_ne_self p))
    clear hone hrp hfr PF HE HF HA
    replace HONE := hidB (show O.keys.oneCell' = true from HONE.out)
    replace PG := hidB (show RP w p (.slice qa L.length qc) wl w3 from PG.out)
    have PG3 := hidB (PG.out.setRow (g := p + 1) (Nat.le_succ_of_le HP0.out) R.out (by decide) (by decide) O.cs)
    have R3 := hidB (R.out.setRow O.cs)
    go_upto_region 9 with (first | ((with_reducible refine stId 36 (.tmp 14) (.tmp 38) ?_); refine wpList_store_row (by rfl) 36 (.tmp 14) (.tmp 38) (by rfl) (p + 1) (O.cs) (by rfl) (by rfl) 36 (OI.zero.cs) (by exact R.out) (by kernel_rfl) (by rfl) (by exact OI.one _ HONE.out) ?_))
    generalize hW : (w3.setRow (p + 1) O.cs) = w4 at *
    clear hW R PG
    go_wp2_with (first | ((with_reducible refine ldId 36 (.tmp 14) ?_); refine wpList_load_row (by rfl) 36 (.tmp 14) (by rfl) (p + 1) (by rfl) 36 (O.cs) (0, 0) _ (by exact R3.out) Try.underlying36 (by rfl) (by kernel_rfl) ?_))
    refine (rended_any w p (.slice qa L.length qc) wl O HONE.out HLEN.out w4 PG3.out).mono ?_; rintro e w5 ⟨v, rfl, hb, ho⟩
    go_wp2_with fail
    go_ret
    exact ⟨v, rfl, hb, ho⟩
  · skip
    go_enter Try.func34, Try.ntmps34
    go_upto_region 1 with fail
    generalize hW : (((w.alloc (.cells (f'.cells.toArray) 24)).alloc (.cells (v'.cells.toArray) 24)).alloc (.cells (pr.cells.toArray) 24)) = w1 at *
    clear hW
    have HP0 := hidB (show w.heap.size ≤ w1.heap.size from B.out.size)
    have BP := hidB (show Bk ((w1.alloc (.cells #[.slice qa L.length qc, .slice none 0 0] 95)).alloc (.cells (#[.int .u8 0, .int .u8 0, .float .f64 0, .string ⟨#[]⟩, .int .i64 0, .bool false, .bool false, .int .u8 0, .int .u8 0, .float .f64 0, .string ⟨#[]⟩, .int .i64 0, .int .u8 0, .float .f64 0, .string ⟨#[]⟩, .int .i64 0, .int .u8 0, .float .f64 0, .string ⟨#[]⟩, .int .i64 0, .bool false, .bool false, .bool false, .slice none 0 0, .int .u8 0, .string ⟨#[]⟩]) 36)) w1.heap.size 95 #[.slice qa L.length qc, .slice none 0 0] from (Bk.new w1 _ _).alloc _)
    have R := hidB (show Bk ((w1.alloc (.cells #[.slice qa L.length qc, .slice none 0 0] 95)).alloc (.cells (#[.int .u8 0, .int .u8 0, .float .f64 0, .string ⟨#[]⟩, .int .i64 0, .bool false, .bool false, .int .u8 0, .int .u8 0, .float .f64 0, .string ⟨#[]⟩, .int .i64 0, .int .u8 0, .float .f64 0, .string ⟨#[]⟩, .int .i64 0, .int .u8 0, .float .f64 0, .string ⟨#[]⟩, .int .i64 0, .bool false, .bool false, .bool false, .slice none 0 0, .int .u8 0, .string ⟨#[]⟩]) 36)) (w1.heap.size + 1) 36 OI.zero.cs from Bk.new2 w1 _ _ _)
    have B2 := hidB (show Below w.heap.size w ((w1.alloc (.cells #[.slice qa L.length qc, .slice none 0 0] 95)).alloc (.cells (#[.int .u8 0, .int .u8 0, .float .f64 0, .string ⟨#[]⟩, .int .i64 0, .bool false, .bool false, .int .u8 0, .int .u8 0, .float .f64 0, .string ⟨#[]⟩, .int .i64 0, .int .u8 0, .float .f64 0, .string ⟨#[]⟩, .int .i64 0, .int .u8 0, .float .f64 0, .string ⟨#[]⟩, .int .i64 0, .bool false, .bool false, .bool false, .slice none 0 0, .int .u8 0, .string ⟨#[]⟩]) 36)) from (B.out.alloc B.out.size _).alloc (Nat.le_trans B.out.size (by simp)) _)
    replace XF := hidB (show Bk ((w1.alloc (.cells #[.slice qa L.length qc, .slice none 0 0] 95)).alloc (.cells (#[.int .u8 0, .int .u8 0, .float .f64 0, .string ⟨#[]⟩, .int .i64 0, .bool false, .bool false, .int .u8 0, .int .u8 0, .float .f64 0, .string ⟨#[]⟩, .int .i64 0, .int .u8 0, .float .f64 0, .string ⟨#[]⟩, .int .i64 0, .int .u8 0, .float .f64 0, .string ⟨#[]⟩, .int .i64 0, .bool false, .bool false, .bool false, .slice none 0 0, .int .u8 0, .string ⟨#[]⟩]) 36)) (w.heap.size) 24 f'.cells.toArray from (XF.out.alloc _).alloc _)
    replace XV := hidB (show Bk ((w1.alloc (.cells #[.slice qa L.length qc, .slice none 0 0] 95)).alloc (.cells (#[.int .u8 0, .int .u8 0, .float .f64 0, .string ⟨#[]⟩, .int .i64 0, .bool false, .bool false, .int .u8 0, .int .u8 0, .float .f64 0, .string ⟨#[]⟩, .int .i64 0, .int .u8 0, .float .f64 0, .string ⟨#[]⟩, .int .i64 0, .int .u8 0, .float .f64 0, .string ⟨#[]⟩, .int .i64 0, .bool false, .bool false, .bool false, .slice none 0 0, .int .u8 0, .string ⟨#[]⟩]) 36)) (w.heap.size + 1) 24 v'.cells.toArray from (XV.out.alloc _).alloc _)
    replace XP := hidB (show Bk ((w1.alloc (.cells #[.slice qa L.length qc, .slice none 0 0] 95)).alloc (.cells (#[.int .u8 0, .int .u8 0, .float .f64 0, .string ⟨#[]⟩, .int .i64 0, .bool false, .bool false, .int .u8 0, .int .u8 0, .float .f64 0, .string ⟨#[]⟩, .int .i64 0, .int .u8 0, .float .f64 0, .string ⟨#[]⟩, .int .i64 0, .int .u8 0, .float .f64 0, .string ⟨#[]⟩, .int .i64 0, .bool false, .bool false, .bool false, .slice none 0 0, .int .u8 0, .string ⟨#[]⟩]) 36)) (w.heap.size + 1 + 1) 24 pr.cells.toArray from (XP.out.alloc _).alloc _)
    go_upto_region 3 with (first | ((with_reducible refine wpId ?_); refine wpList_build_to (by rfl) 95 _ (by rfl) (#[.slice qa L.length qc, .slice none 0 0]) (by kernel_rfl) ?_))
    generalize hW : ((w1.alloc (.cells #[.slice qa L.length qc, .slice none 0 0] 95)).alloc (.cells (#[.int .u8 0, .int .u8 0, .float .f64 0, .string ⟨#[]⟩, .int .i64 0, .bool false, .bool false, .int .u8 0, .int .u8 0, .float .f64 0, .string ⟨#[]⟩, .int .i64 0, .int .u8 0, .float .f64 0, .string ⟨#[]⟩, .int .i64 0, .int .u8 0, .float .f64 0, .string ⟨#[]⟩, .int .i64 0, .bool false, .bool false, .bool false, .slice none 0 0, .int .u8 0, .string ⟨#[]⟩]) 36)) = w2 at *
    clear hW B
    generalize w1.heap.size = p at *
    have PF := hidB (show RP w p (.slice qa L.length qc) [] w2 from ⟨B2.out, HP0.out, _, BP.out, World.ownsRow_nil _ _ _ _⟩)
    go_wp2_with (first | ((with_reducible refine ldId 24 (.tmp 7) ?_); refine wpList_load_row (by rfl) 24 (.tmp 7) (by rfl) (w.heap.size) (by rfl) 24 (f'.cells.toArray) (0, 0) _ (by exact XF.out) Try.underlying24 (by rfl) (by kernel_rfl) ?_) | ((with_reducible refine ldId 24 (.tmp 8) ?_); refine wpList_load_row (by rfl) 24 (.tmp 8) (by rfl) (w.heap.size + 1) (by rfl) 24 (v'.cells.toArray) (0, 0) _ (by exact XV.out) Try.underlying24 (by rfl) (by kernel_rfl) ?_) | ((with_reducible refine ldId 24 (.tmp 9) ?_); refine wpList_load_row (by rfl) 24 (.tmp 9) (by rfl) (w.heap.size + 1 + 1) (by rfl) 24 (pr.cells.toArray) (0, 0) _ (by exact XP.out) Try.underlying24 (by rfl) (by kernel_rfl) ?_))
    refine (r20body_any f' v' pr pa n c w p (.slice qa L.length qc) L HA.out w2 PF.out).mono ?_; rintro e w3 ⟨rfl, hone, hrp, hfr⟩
    have HE := hidB (show (wl, O) = bodyF f' v' pr (.slice pa n c) L from HF.out.symm)
    rw [← HE.out] at hone hrp
    rw [← HE.out]
    have HONE := hidB hone
    have PG := hidB hrp
    replace R := hidB (hfr.keep _ _ _ R.out (by decide) (Nat.succ_ne_self p))
    clear hone hrp hfr PF HE HF HA
    replace HONE := hidB (show O.keys.oneCell' = true from HONE.out)
    replace PG := hidB (show RP w p (.slice qa L.length qc) wl w3 from PG.out)
    have PG3 := hidB (PG.out.setRow (g := p + 1) (Nat.le_succ_of_le HP0.out) R.out (by decide) (by decide) O.cs)
    have R3 := hidB (R.out.setRow O.cs)
    go_upto_region 9 with (first | ((with_reducible refine stId 36 (.tmp 14) (.tmp 24) ?_); refine wpList_store_row (by rfl) 36 (.tmp 14) (.tmp 24) (by rfl) (p + 1) (O.cs) (by rfl) (by rfl) 36 (OI.zero.cs) (by exact R.out) (by kernel_rfl) (by rfl) (by exact OI.one _ HONE.out) ?_))
    generalize hW : (w3.setRow (p + 1) O.cs) = w4 at *
    clear hW R PG
    go_wp2_with (first | ((with_reducible refine ldId 36 (.tmp 14) ?_); refine wpList_load_row (by rfl) 36 (.tmp 14) (by rfl) (p + 1) (by rfl) 36 (O.cs) (0, 0) _ (by exact R3.out) Try.underlying36 (by rfl) (by kernel_rfl) ?_))
    refine (rended_any w p (.slice qa L.length qc) wl O HONE.out HLEN.out w4 PG3.out).mono ?_; rintro e w5 ⟨v, rfl, hb, ho⟩
    go_wp2_with fail
    go_ret
    exact ⟨v, rfl, hb, ho⟩

end Go.Proofs.Ytbkjbpefbdoenaa
