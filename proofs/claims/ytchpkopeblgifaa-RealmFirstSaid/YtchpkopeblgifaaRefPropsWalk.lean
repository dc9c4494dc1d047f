/-
  The walk of the properties of a first object, as the reference makes them.
-/
import Derived.Test.YtchpkopeblgifaaRefPropWalk
namespace Go.Proofs.Ytchpkopeblgifaa
open Go.RowKit

theorem tabm : ((List.range 24).all fun n => (List.range 8).all fun k => (mk (3 + k) == n) == (isPt n && (pt n == 3 + k))) = true := by decide +kernel
theorem tabk : ((List.range 8).all fun k => isMk (3 + k) && decide (mk (3 + k) < 72)) = true := by decide +kernel
theorem tabp : ((List.range 24).all fun n => decide (pt n ≤ 10) && decide (mk n < 72)) = true := by decide +kernel
/-- How far the prototype has been told. -/
def up (n k : Nat) : List PR := if isPt n && decide (pt n < k) then [⟨wPrototype, kd (pt n), ⟨#[]⟩, pt n, false⟩] else []
theorem up_3 {n : Nat} (hn : n < 24) : up n 3 = [] := by
  have : ((List.range 24).all fun n => !(isPt n && decide (pt n < 3))) = true := by decide +kernel
  have := at24 this hn
  unfold up; simp at this ⊢; intro h; rcases this with h2 | h2
  · rw [h] at h2; cases h2
  · omega
theorem up_11 {n : Nat} (hn : n < 24) : up n 11 = pr2 n := by
  have := at24 tabp hn
  simp only [Bool.and_eq_true, decide_eq_true_eq] at this
  unfold up pr2; rw [decide_eq_true (show pt n < 11 by omega), Bool.and_true]
theorem up_yes {n k : Nat} (h : isPt n = true) (hk : pt n = k) : up n (k + 1) = up n k ++ [⟨wPrototype, kd (pt n), ⟨#[]⟩, pt n, false⟩] := by
  subst hk; unfold up; rw [h, decide_eq_true (show pt n < pt n + 1 by omega), decide_eq_false (show ¬ pt n < pt n by omega)]; rfl
theorem up_no {n k : Nat} (h : (isPt n && (pt n == k)) = false) : up n (k + 1) = up n k := by
  unfold up
  cases hp : isPt n
  · rfl
  · rw [hp, Bool.true_and, beq_eq_false_iff_ne] at h
    have : decide (pt n < k + 1) = decide (pt n < k) := by rw [decide_eq_decide]; omega
    rw [this]
theorem len_up (n k : Nat) : (up n k).length ≤ 1 := by unfold up; split <;> simp

set_option maxHeartbeats 16000000 in
set_option maxRecDepth 100000 in
theorem refProps_lo (n : Nat) (hn : n < 24) (w : World) : Calls Try.prog 39 #[.int .i64 n] w (PropsQ n w) := by
  obtain ⟨i0, hi, hz0, hz1, hz2⟩ := info_parts info_prop
  have hp := at24 tabp hn
  simp only [Bool.and_eq_true, decide_eq_true_eq] at hp
  have hmk72 : mk n < 72 := hp.2
  clear hp
  obtain ⟨o, ho⟩ : ∃ o, isMk n = o := ⟨_, rfl⟩
  obtain ⟨er, he⟩ : ∃ o, isEr n = o := ⟨_, rfl⟩
  obtain ⟨y, hy⟩ : ∃ o, isSy n = o := ⟨_, rfl⟩
  obtain ⟨m, hm⟩ : ∃ m, mkI n = m := ⟨_, rfl⟩
  have HM : Hid (m = if o then (mk n : Int) else -1) := hid (by rw [← hm, ← ho]; rfl)
  have HO := hid ho
  have HE := hid he
  have HY := hid hy
  have M : Hid (∀ W, Calls Try.prog 57 #[.int .i64 n] W fun e w' => e = .returned (.int .i64 m) ∧ Below W.heap.size W w') := hid (fun W => by rw [← hm]; exact maker_any n W)
  clear ho he hy hm
  have hn24 : ¬ (24 : Int) ≤ n := by omega
  go_enter Try.func39, Try.ntmps39
  go_wp2_with fail
  refine (all_any _).mono ?_; rintro e w1 ⟨⟨v, rfl, hv⟩, hb1⟩
  obtain ⟨g, cap, rfl, hgB, -⟩ := named_slice hv (by decide)
  have HN : Hid (w1.ownsRow w.heap.size 9 1 (.slice (some ⟨g, 0, none⟩) 72 cap) 72 (nms 0 72)) := hid hv
  have Bt := hid hb1
  clear hv hb1 hgB
  obtain ⟨l0, hl⟩ : ∃ l : List PR, [] = l := ⟨_, rfl⟩
  have Ho : Hid (OwnP w.heap.size l0 (.slice none 0 0) w1) := hid (by rw [← hl]; exact own_nil w.heap.size w1)
  have HL : Hid (l0.length ≤ 0) := hid (by rw [← hl]; simp)
  have EL0 := hid hl
  clear hl
  go_upto_region 5 with fail
  go_cut [3, 5] from 10 to 900 (fun s3 s5 wx => s5 = .int .i64 m ∧ OwnP w.heap.size l0 s3 wx ∧ wx.ownsRow w.heap.size 9 1 (.slice (some ⟨g, 0, none⟩) 72 cap) 72 (nms 0 72) ∧ Below w.heap.size w wx)
  case first =>
    go_wp2_with (first | (go_at_call 57; refine (M.out _).mono ?_; rintro e wn ⟨rfl, hb⟩; replace Bt := hid (grow Bt.out hb); replace Ho := hid (own_below Ho.out hb); replace HN := hid (own_below HN.out hb); clear hb))
    go_meet
    case rel => exact ⟨rfl, Ho.out, HN.out, Bt.out⟩
  case rest =>
  obtain ⟨rfl, ho, hn2, hb⟩ := hcut
  replace Ho := hid ho
  replace HN := hid hn2
  replace Bt := hid hb
  clear ho hn2 hb
  clear M
  go_upto_if 16 with fail
  go_cut [3] from 10 to 900 (fun s3 wx => OwnP w.heap.size (l0 ++ pr0 n) s3 wx ∧ wx.ownsRow w.heap.size 9 1 (.slice (some ⟨g, 0, none⟩) 72 cap) 72 (nms 0 72) ∧ Below w.heap.size w wx)
  case first =>
    have hmm := HM.out
    clear HM
    cases o
    · obtain rfl : m = -1 := hmm
      have E : Hid (pr0 n = []) := hid (by unfold pr0; rw [HO.out]; rfl)
      go_wp2_with fail
      go_meet
      case rel => exact ⟨by rw [E.out, List.append_nil]; exact Ho.out, HN.out, Bt.out⟩
    · obtain rfl : m = mk n := hmm
      have E : Hid (pr0 n = [⟨wConstructor, kd (mk n), ⟨#[]⟩, mk n, true⟩]) := hid (by unfold pr0; rw [HO.out]; rfl)
      have L3 : Hid (List.length l0 + 1 ≤ maxLen) := hid (by have := HL.out; unfold maxLen; omega)
      have L4 : Hid ((List.length l0 + 1) * 160 ≤ 140737488355328) := hid (by have := HL.out; omega)
      go_wp2_with (first | (go_at_call 35; refine (refObject_any _ _).mono ?_; rintro e wn ⟨rfl, hb⟩; replace Bt := hid (grow Bt.out hb); replace Ho := hid (own_below Ho.out hb); replace HN := hid (own_below HN.out hb); clear hb) | (go_at_call 58; refine (refProp_any _ _ _ _ _ _).mono ?_; rintro e wn ⟨rfl, hb⟩; replace Bt := hid (grow Bt.out hb); replace Ho := hid (own_below Ho.out hb); replace HN := hid (own_below HN.out hb); clear hb) | (at_builtin; refine wpList_append_own _ rfl _ _ 41 rfl w.heap.size 49 i0 _ 18 160 Try.underlying41 hi hz0 hz1 hz2 rfl (by decide) _ _ _ rfl (Ho.out.alloc _) ⟨wn.heap.size, 0, none⟩ 1 1 (prC [⟨wConstructor, kd (mk n), ⟨#[]⟩, mk n, true⟩]) rfl rfl (cellsL_new _ (prC [⟨wConstructor, kd (mk n), ⟨#[]⟩, mk n, true⟩]) _) (prC_ones [⟨wConstructor, kd (mk n), ⟨#[]⟩, mk n, true⟩]) (L3.out) (L4.out) (Nat.le_trans Bt.out.size (le_alloc _ _)) ?_))
      intro v' w1 hown' hgrow _
      replace Bt := hid (own_below1 Ho.out Bt.out hgrow)
      replace HN := hid (own_app HN.out (Ho.out.alloc _) (by decide) hgrow)
      replace Ho := hid (own_more (ps := [⟨wConstructor, kd (mk n), ⟨#[]⟩, mk n, true⟩]) hown' rfl rfl)
      clear hown' hgrow
      go_wp2_with fail
      go_meet
      case rel => exact ⟨by rw [E.out]; exact Ho.out, HN.out, Bt.out⟩
  case rest =>
  obtain ⟨ho, hn2, hb⟩ := hcut
  replace Ho := hid ho
  replace HN := hid hn2
  replace Bt := hid hb
  clear ho hn2 hb
  obtain ⟨l1, hl⟩ : ∃ l, l0 ++ pr0 n = l := ⟨_, rfl⟩
  replace Ho : Hid (OwnP w.heap.size l1 u3 wc) := hid (by rw [← hl]; exact Ho.out)
  have EL1 := hid hl
  replace HL : Hid (l1.length ≤ 2) := hid (by have h2 := HL.out; have h3 := len_pr0 n; rw [← hl]; simp; omega)
  clear hl
  go_upto_region 8 with fail
  go_cut [28] from 10 to 900 (fun s28 wx => s28 = .bool er ∧ OwnP w.heap.size l1 u3 wx ∧ wx.ownsRow w.heap.size 9 1 (.slice (some ⟨g, 0, none⟩) 72 cap) 72 (nms 0 72) ∧ Below w.heap.size w wx)
  case first =>
    have hee := HE.out
    by_cases h7 : (7 : Int) ≤ n
    · by_cases h10 : (n : Int) ≤ 10
      · obtain rfl : er = true := by rw [← hee]; unfold isEr; simp; omega
        clear hee
        go_wp2_with fail
        go_meet
        case rel => exact ⟨rfl, Ho.out, HN.out, Bt.out⟩
      · obtain rfl : er = false := by rw [← hee]; unfold isEr; simp; omega
        clear hee
        go_wp2_with fail
        go_meet
        case rel => exact ⟨by first | rfl | exact congrArg Value.bool (by rw [decide_eq_false_iff_not]; omega), Ho.out, HN.out, Bt.out⟩
    · obtain rfl : er = false := by rw [← hee]; unfold isEr; simp; omega
      clear hee
      go_wp2_with fail
      go_meet
      case rel => exact ⟨rfl, Ho.out, HN.out, Bt.out⟩
  case rest =>
  obtain ⟨rfl, ho, hn2, hb⟩ := hcut
  replace Ho := hid ho
  replace HN := hid hn2
  replace Bt := hid hb
  clear ho hn2 hb
  go_upto_if 28 with fail
  go_cut [3] from 10 to 900 (fun s3 wx => OwnP w.heap.size (l1 ++ pr1 n) s3 wx ∧ wx.ownsRow w.heap.size 9 1 (.slice (some ⟨g, 0, none⟩) 72 cap) 72 (nms 0 72) ∧ Below w.heap.size w wx)
  case first =>
    cases er
    · have E : Hid (pr1 n = []) := hid (by unfold pr1; rw [HE.out]; rfl)
      go_wp2_with fail
      go_meet
      case rel => exact ⟨by rw [E.out, List.append_nil]; exact Ho.out, HN.out, Bt.out⟩
    · have hmm := HM.out
      have E : Hid (pr1 n = [⟨wName, 4, (nm (mk n)), 0, true⟩, ⟨wMessage, 4, ⟨#[]⟩, 0, true⟩]) := hid (by unfold pr1; rw [HE.out]; rfl)
      obtain rfl : o = true := HO.out.symm.trans (isEr_isMk HE.out)
      obtain rfl : m = mk n := hmm
      clear HM
      have hcell : wc.cell? ⟨g, mk n, none⟩ = some (.string (nm (mk n))) := (HN.out.cellAt (mk n) (by omega)).trans (by rw [nms_get 0 72 _ hmk72, Nat.zero_add])
      have L3 : Hid (List.length l1 + 1 ≤ maxLen) := hid (by have := HL.out; unfold maxLen; omega)
      have L4 : Hid ((List.length l1 + 1) * 160 ≤ 140737488355328) := hid (by have := HL.out; omega)
      go_wp2_with (first | (go_at_call 59; refine (refStr_any _ _).mono ?_; rintro e wn ⟨rfl, hb⟩; replace Bt := hid (grow Bt.out hb); replace Ho := hid (own_below Ho.out hb); replace HN := hid (own_below HN.out hb); clear hb) | (go_at_call 58; refine (refProp_any _ _ _ _ _ _).mono ?_; rintro e wn ⟨rfl, hb⟩; replace Bt := hid (grow Bt.out hb); replace Ho := hid (own_below Ho.out hb); replace HN := hid (own_below HN.out hb); clear hb) | (at_builtin; refine wpList_append_own _ rfl _ _ 41 rfl w.heap.size 49 i0 _ 18 160 Try.underlying41 hi hz0 hz1 hz2 rfl (by decide) _ _ _ rfl (Ho.out.alloc _) ⟨wn.heap.size, 0, none⟩ 1 1 (prC [⟨wName, 4, (nm (mk n)), 0, true⟩]) rfl rfl (cellsL_new _ (prC [⟨wName, 4, (nm (mk n)), 0, true⟩]) _) (prC_ones [⟨wName, 4, (nm (mk n)), 0, true⟩]) (L3.out) (L4.out) (Nat.le_trans Bt.out.size (le_alloc _ _)) ?_))
      intro v' w1 hown' hgrow _
      replace Bt := hid (own_below1 Ho.out Bt.out hgrow)
      replace HN := hid (own_app HN.out (Ho.out.alloc _) (by decide) hgrow)
      replace Ho := hid (own_more (ps := [⟨wName, 4, (nm (mk n)), 0, true⟩]) hown' rfl rfl)
      clear hown' hgrow
      obtain ⟨lx, hlx⟩ : ∃ lx, l1 ++ [⟨wName, 4, (nm (mk n)), 0, true⟩] = lx := ⟨_, rfl⟩
      replace Ho : Hid (OwnP w.heap.size lx v' w1) := hid (by rw [← hlx]; exact Ho.out)
      replace HL : Hid (lx.length ≤ 5) := hid (by have := HL.out; rw [← hlx]; simp; omega)
      have EX := hid hlx
      clear hlx hcell
      have L3 : Hid (List.length lx + 1 ≤ maxLen) := hid (by have := HL.out; unfold maxLen; omega)
      have L4 : Hid ((List.length lx + 1) * 160 ≤ 140737488355328) := hid (by have := HL.out; omega)
      go_wp2_with (first | (go_at_call 59; refine (refStr_any _ _).mono ?_; rintro e wn ⟨rfl, hb⟩; replace Bt := hid (grow Bt.out hb); replace Ho := hid (own_below Ho.out hb); replace HN := hid (own_below HN.out hb); clear hb) | (go_at_call 58; refine (refProp_any _ _ _ _ _ _).mono ?_; rintro e wn ⟨rfl, hb⟩; replace Bt := hid (grow Bt.out hb); replace Ho := hid (own_below Ho.out hb); replace HN := hid (own_below HN.out hb); clear hb) | (at_builtin; refine wpList_append_own _ rfl _ _ 41 rfl w.heap.size 49 i0 _ 18 160 Try.underlying41 hi hz0 hz1 hz2 rfl (by decide) _ _ _ rfl (Ho.out.alloc _) ⟨wn.heap.size, 0, none⟩ 1 1 (prC [⟨wMessage, 4, ⟨#[]⟩, 0, true⟩]) rfl rfl (cellsL_new _ (prC [⟨wMessage, 4, ⟨#[]⟩, 0, true⟩]) _) (prC_ones [⟨wMessage, 4, ⟨#[]⟩, 0, true⟩]) (L3.out) (L4.out) (Nat.le_trans Bt.out.size (le_alloc _ _)) ?_))
      intro v' w1 hown' hgrow _
      replace Bt := hid (own_below1 Ho.out Bt.out hgrow)
      replace HN := hid (own_app HN.out (Ho.out.alloc _) (by decide) hgrow)
      replace Ho := hid (own_more (ps := [⟨wMessage, 4, ⟨#[]⟩, 0, true⟩]) hown' rfl rfl)
      clear hown' hgrow
      go_wp2_with fail
      go_meet
      case rel => exact ⟨by rw [E.out, show ∀ a b : PR, l1 ++ [a, b] = (l1 ++ [a]) ++ [b] from fun a b => by simp, EX.out]; exact Ho.out, HN.out, Bt.out⟩
  case rest =>
  obtain ⟨ho, hn2, hb⟩ := hcut
  replace Ho := hid ho
  replace HN := hid hn2
  replace Bt := hid hb
  clear ho hn2 hb
  obtain ⟨l2, hl⟩ : ∃ l, l1 ++ pr1 n = l := ⟨_, rfl⟩
  replace Ho : Hid (OwnP w.heap.size l2 u3 wc) := hid (by rw [← hl]; exact Ho.out)
  have EL2 := hid hl
  replace HL : Hid (l2.length ≤ 4) := hid (by have h2 := HL.out; have h3 := len_pr1 n; rw [← hl]; simp; omega)
  clear hl
  clear HM HO HE
  go_wp2_with fail
  go_loopw [3, 6] (fun v p wr => ∃ k : Nat, k ≤ 8 ∧ p = .int .i64 (3 + k : Nat) ∧ OwnP w.heap.size (l2 ++ up n (3 + k)) v wr ∧ wr.ownsRow w.heap.size 9 1 (.slice (some ⟨g, 0, none⟩) 72 cap) 72 (nms 0 72) ∧ Below w.heap.size w wr) (fun _ p _ => 11 - (intOf p).toNat)
  case atStart => exact ⟨0, by omega, rfl, by rw [up_3 hn, List.append_nil]; exact Ho.out, HN.out, Bt.out⟩
  case round =>
    clear Ho HN Bt
    obtain ⟨k, hk, rfl, ho, hn2, hb⟩ := hrel
    have Ho := hid ho
    have HN := hid hn2
    have Bt := hid hb
    clear ho hn2 hb
    obtain ⟨lk, hlk⟩ : ∃ lk, l2 ++ up n (3 + k) = lk := ⟨_, rfl⟩
    rw [hlk] at Ho
    have EK := hid hlk
    have HLs := HL
    have HL : Hid (lk.length ≤ 10) := hid (by have h1 := HLs.out; have h2 := len_up n (3 + k); rw [← hlk]; simp; omega)
    clear hlk
    by_cases hlt : k < 8
    · have hkm : mkI (3 + k) = mk (3 + k) := by
        have := at24 tabk hlt
        simp only [Bool.and_eq_true] at this
        unfold mkI; rw [if_pos this.1]
      have hq := at24 (at24 tabm hn) hlt
      simp only [beq_iff_eq] at hq
      have M : Hid (∀ W, Calls Try.prog 57 #[.int .i64 (3 + k : Nat)] W fun e w' => e = .returned (.int .i64 (mk (3 + k))) ∧ Below W.heap.size W w') := hid (fun W => by rw [← hkm]; exact maker_any (3 + k) W)
      clear hkm
      have hle : ((3 + k : Nat) : Int) ≤ 10 := by omega
      cases hb : (isPt n && (pt n == 3 + k))
      · have hqq : ((mk (3 + k) : Int) == (n : Int)) = false := by
          rw [hb] at hq; rw [beq_eq_false_iff_ne] at hq ⊢; omega
        have HE := hid (up_no hb)
        clear hb hq
        go_wp2_with (first | (go_at_call 57; refine (M.out _).mono ?_; rintro e wn ⟨rfl, hb⟩; replace Bt := hid (grow Bt.out hb); replace Ho := hid (own_below Ho.out hb); replace HN := hid (own_below HN.out hb); clear hb))
        go_roundw
        case rel => exact ⟨k + 1, by omega, by go_num, by rw [show 3 + (k + 1) = 3 + k + 1 by omega, HE.out, EK.out]; exact Ho.out, HN.out, Bt.out⟩
        case measure => simp [intOf]; omega
      · have hqq : ((mk (3 + k) : Int) == (n : Int)) = true := by
          rw [hb] at hq; rw [beq_iff_eq] at hq ⊢; omega
        have hb2 := hb
        simp only [Bool.and_eq_true, beq_iff_eq] at hb2
        have HE := hid (up_yes hb2.1 hb2.2)
        have HK := hid hb2.2
        clear hb hq hb2
        have L3 : Hid (List.length lk + 1 ≤ maxLen) := hid (by have := HL.out; unfold maxLen; omega)
        have L4 : Hid ((List.length lk + 1) * 160 ≤ 140737488355328) := hid (by have := HL.out; omega)
        go_wp2_with (first | (go_at_call 57; refine (M.out _).mono ?_; rintro e wn ⟨rfl, hb⟩; replace Bt := hid (grow Bt.out hb); replace Ho := hid (own_below Ho.out hb); replace HN := hid (own_below HN.out hb); clear hb) | (go_at_call 35; refine (refObject_any _ _).mono ?_; rintro e wn ⟨rfl, hb⟩; replace Bt := hid (grow Bt.out hb); replace Ho := hid (own_below Ho.out hb); replace HN := hid (own_below HN.out hb); clear hb) | (go_at_call 58; refine (refProp_any _ _ _ _ _ _).mono ?_; rintro e wn ⟨rfl, hb⟩; replace Bt := hid (grow Bt.out hb); replace Ho := hid (own_below Ho.out hb); replace HN := hid (own_below HN.out hb); clear hb) | (at_builtin; refine wpList_append_own _ rfl _ _ 41 rfl w.heap.size 49 i0 _ 18 160 Try.underlying41 hi hz0 hz1 hz2 rfl (by decide) _ _ _ rfl (Ho.out.alloc _) ⟨wn.heap.size, 0, none⟩ 1 1 (prC [⟨wPrototype, kd ((3 + k : Nat) : Int), ⟨#[]⟩, ((3 + k : Nat) : Int), false⟩]) rfl rfl (cellsL_new _ (prC [⟨wPrototype, kd ((3 + k : Nat) : Int), ⟨#[]⟩, ((3 + k : Nat) : Int), false⟩]) _) (prC_ones [⟨wPrototype, kd ((3 + k : Nat) : Int), ⟨#[]⟩, ((3 + k : Nat) : Int), false⟩]) (L3.out) (L4.out) (Nat.le_trans Bt.out.size (le_alloc _ _)) ?_))
        intro v' w1 hown' hgrow _
        replace Bt := hid (own_below1 Ho.out Bt.out hgrow)
        replace HN := hid (own_app HN.out (Ho.out.alloc _) (by decide) hgrow)
        replace Ho := hid (own_more (ps := [⟨wPrototype, kd ((3 + k : Nat) : Int), ⟨#[]⟩, ((3 + k : Nat) : Int), false⟩]) hown' rfl rfl)
        clear hown' hgrow
        go_wp2_with fail
        go_roundw
        case rel => exact ⟨k + 1, by omega, by go_num, by rw [show 3 + (k + 1) = 3 + k + 1 by omega, HE.out, ← List.append_assoc, EK.out, HK.out]; exact Ho.out, HN.out, Bt.out⟩
        case measure => simp [intOf]; omega
    · obtain rfl : k = 8 := by omega
      have HU := hid (up_11 hn)
      have EL3 : Hid (l2 ++ pr2 n = lk) := hid (by rw [← HU.out]; exact EK.out)
      clear HU EK HLs
      obtain ⟨y2, hy2⟩ : ∃ y2, y = y2 := ⟨_, rfl⟩
      have t7 : ((n : Int) == 22) = y := by
        rw [← HY.out]; unfold isSy; rw [Bool.eq_iff_iff, beq_iff_eq, beq_iff_eq]; omega
      clear hy2 y2
      go_upto_if 58 with fail
      go_cut [3] from 10 to 900 (fun s3 wx => OwnP w.heap.size (lk ++ pr3 n) s3 wx ∧ wx.ownsRow w.heap.size 9 1 (.slice (some ⟨g, 0, none⟩) 72 cap) 72 (nms 0 72) ∧ Below w.heap.size w wx)
      case first =>
        cases y
        · have E : Hid (pr3 n = []) := hid (by unfold pr3; rw [HY.out]; rfl)
          go_wp2_with fail
          go_meet
          case rel => exact ⟨by rw [E.out, List.append_nil]; exact Ho.out, HN.out, Bt.out⟩
        · have E : Hid (pr3 n = [⟨wPrimitive, 5, ⟨#[]⟩, 0, false⟩]) := hid (by unfold pr3; rw [HY.out]; rfl)
          have L3 : Hid (List.length lk + 1 ≤ maxLen) := hid (by have := HL.out; unfold maxLen; omega)
          have L4 : Hid ((List.length lk + 1) * 160 ≤ 140737488355328) := hid (by have := HL.out; omega)
          go_wp2_with (first | (go_at_call 58; refine (refProp_any _ _ _ _ _ _).mono ?_; rintro e wn ⟨rfl, hb⟩; replace Bt := hid (grow Bt.out hb); replace Ho := hid (own_below Ho.out hb); replace HN := hid (own_below HN.out hb); clear hb) | (at_builtin; refine wpList_append_own _ rfl _ _ 41 rfl w.heap.size 49 i0 _ 18 160 Try.underlying41 hi hz0 hz1 hz2 rfl (by decide) _ _ _ rfl (Ho.out.alloc _) ⟨wn.heap.size, 0, none⟩ 1 1 (prC [⟨wPrimitive, 5, ⟨#[]⟩, 0, false⟩]) rfl rfl (cellsL_new _ (prC [⟨wPrimitive, 5, ⟨#[]⟩, 0, false⟩]) _) (prC_ones [⟨wPrimitive, 5, ⟨#[]⟩, 0, false⟩]) (L3.out) (L4.out) (Nat.le_trans Bt.out.size (le_alloc _ _)) ?_))
          intro v' w1 hown' hgrow _
          replace Bt := hid (own_below1 Ho.out Bt.out hgrow)
          replace HN := hid (own_app HN.out (Ho.out.alloc _) (by decide) hgrow)
          replace Ho := hid (own_more (ps := [⟨wPrimitive, 5, ⟨#[]⟩, 0, false⟩]) hown' rfl rfl)
          clear hown' hgrow
          go_wp2_with fail
          go_meet
          case rel => exact ⟨by rw [E.out]; exact Ho.out, HN.out, Bt.out⟩
      case rest =>
      obtain ⟨ho, hn2, hb⟩ := hcut
      obtain ⟨l4, hl⟩ : ∃ l, lk ++ pr3 n = l := ⟨_, rfl⟩
      rw [hl] at ho
      have EL : Hid (l4 = pr n) := hid (by rw [← hl, ← EL3.out, ← EL2.out, ← EL1.out, ← EL0.out]; rfl)
      replace HL : Hid (l4.length ≤ 12) := hid (by have h2 := HL.out; have h3 := len_pr3 n; rw [← hl]; simp; omega)
      replace Ho := hid ho
      replace HN := hid hn2
      replace Bt := hid hb
      clear ho hn2 hb hl EL0 EL1 EL2 EL3 t7 HY
      go_wp2_with fail
      go_loopw [3, 7] (fun v i wr => ∃ k : Nat, k ≤ 48 ∧ i = .int .i64 (24 + k : Nat) ∧ OwnP w.heap.size (l4 ++ fns n k) v wr ∧ wr.ownsRow w.heap.size 9 1 (.slice (some ⟨g, 0, none⟩) 72 cap) 72 (nms 0 72) ∧ Below w.heap.size w wr) (fun _ i _ => 72 - (intOf i).toNat)
      case atStart => exact ⟨0, by omega, rfl, by rw [show fns n 0 = [] from rfl, List.append_nil]; exact Ho.out, HN.out, Bt.out⟩
      case round =>
        clear Ho HN Bt
        obtain ⟨k, hk, rfl, ho, hn2, hb⟩ := hrel
        have Ho := hid ho
        have HN := hid hn2
        have Bt := hid hb
        clear ho hn2 hb
        obtain ⟨lf, hlf⟩ : ∃ lf, l4 ++ fns n k = lf := ⟨_, rfl⟩
        rw [hlf] at Ho
        have EF := hid hlf
        have HLs := HL
        have HL : Hid (lf.length ≤ 62) := hid (by have h1 := HLs.out; have h2 := fns_length n k; rw [← hlf]; simp; omega)
        clear hlf
        by_cases hlt : k < 48
        · have hcell : wr.cell? ⟨g, 24 + k, none⟩ = some (.string (nm (24 + k))) := (HN.out.cellAt (24 + k) (by omega)).trans (by rw [nms_get 0 72 _ (by omega), Nat.zero_add])
          have C : Hid (∀ W, Calls Try.prog 60 #[.string (nm (24 + k))] W fun e w' => e = .returned (.tuple #[.string (ow k), .string (wd k)]) ∧ Below W.heap.size W w') := hid (cut_any k hlt)
          by_cases he : ow k = nm n
          · have hb : ((ow k).toList == (nm n).toList) = true := by rw [he]; simp
            have HE : Hid (fns n (k + 1) = fns n k ++ [⟨wd k, kd (24 + (k : Int)), ⟨#[]⟩, 24 + (k : Int), true⟩]) := hid (by show fns n k ++ fnP n k = _; unfold fnP; rw [if_pos he])
            clear he
            go_wp2_with fail
            refine (C.out _).mono ?_; rintro e wn ⟨rfl, hb2⟩
            replace Bt := hid (grow Bt.out hb2)
            replace Ho := hid (own_below Ho.out hb2)
            replace HN := hid (own_below HN.out hb2)
            clear hb2 hcell C
            have hcell : wn.cell? ⟨g, n, none⟩ = some (.string (nm n)) := (HN.out.cellAt n (by omega)).trans (by rw [nms_get 0 72 _ (by omega), Nat.zero_add])
            have L3 : Hid (List.length lf + 1 ≤ maxLen) := hid (by have := HL.out; unfold maxLen; omega)
            have L4 : Hid ((List.length lf + 1) * 160 ≤ 140737488355328) := hid (by have := HL.out; omega)
            go_wp2_with (first | (go_at_call 35; refine (refObject_any _ _).mono ?_; rintro e wn ⟨rfl, hb⟩; replace Bt := hid (grow Bt.out hb); replace Ho := hid (own_below Ho.out hb); replace HN := hid (own_below HN.out hb); clear hb) | (go_at_call 58; refine (refProp_any _ _ _ _ _ _).mono ?_; rintro e wn ⟨rfl, hb⟩; replace Bt := hid (grow Bt.out hb); replace Ho := hid (own_below Ho.out hb); replace HN := hid (own_below HN.out hb); clear hb) | (at_builtin; refine wpList_append_own _ rfl _ _ 41 rfl w.heap.size 49 i0 _ 18 160 Try.underlying41 hi hz0 hz1 hz2 rfl (by decide) _ _ _ rfl (Ho.out.alloc _) ⟨wn.heap.size, 0, none⟩ 1 1 (prC [⟨wd k, kd (24 + (k : Int)), ⟨#[]⟩, 24 + (k : Int), true⟩]) rfl rfl (cellsL_new _ (prC [⟨wd k, kd (24 + (k : Int)), ⟨#[]⟩, 24 + (k : Int), true⟩]) _) (prC_ones [⟨wd k, kd (24 + (k : Int)), ⟨#[]⟩, 24 + (k : Int), true⟩]) (L3.out) (L4.out) (Nat.le_trans Bt.out.size (le_alloc _ _)) ?_))
            intro v' w1 hown' hgrow _
            replace Bt := hid (own_below1 Ho.out Bt.out hgrow)
            replace HN := hid (own_app HN.out (Ho.out.alloc _) (by decide) hgrow)
            replace Ho := hid (own_more (ps := [⟨wd k, kd (24 + (k : Int)), ⟨#[]⟩, 24 + (k : Int), true⟩]) hown' rfl rfl)
            clear hown' hgrow
            go_wp2_with fail
            go_roundw
            case rel => first | exact ⟨k + 1, by omega, by go_num, by rw [HE.out, ← List.append_assoc, EF.out]; exact Ho.out, HN.out, Bt.out⟩ | ((repeat apply Exists.intro); exact ⟨⟨k + 1, by omega, by go_num, by rw [HE.out, ← List.append_assoc, EF.out]; exact Ho.out, HN.out, Bt.out⟩, rfl⟩)
            case measure => simp [intOf]; omega
          · have hb : ((ow k).toList == (nm n).toList) = false := toList_ne he
            have HE : Hid (fns n (k + 1) = fns n k) := hid (by show fns n k ++ fnP n k = _; unfold fnP; rw [if_neg he, List.append_nil])
            clear he
            go_wp2_with fail
            refine (C.out _).mono ?_; rintro e wn ⟨rfl, hb2⟩
            replace Bt := hid (grow Bt.out hb2)
            replace Ho := hid (own_below Ho.out hb2)
            replace HN := hid (own_below HN.out hb2)
            clear hb2 hcell C
            have hcell : wn.cell? ⟨g, n, none⟩ = some (.string (nm n)) := (HN.out.cellAt n (by omega)).trans (by rw [nms_get 0 72 _ (by omega), Nat.zero_add])
            go_wp2_with fail
            go_roundw
            case rel => first | exact ⟨k + 1, by omega, by go_num, by rw [HE.out, EF.out]; exact Ho.out, HN.out, Bt.out⟩ | ((repeat apply Exists.intro); exact ⟨⟨k + 1, by omega, by go_num, by rw [HE.out, EF.out]; exact Ho.out, HN.out, Bt.out⟩, rfl⟩)
            case measure => simp [intOf]; omega
        · obtain rfl : k = 48 := by omega
          go_wp2_with fail
          go_ret
          exact ⟨_, rfl, by unfold pl; rw [if_pos hn, ← EL.out, EF.out]; exact Ho.out, Bt.out⟩

end Go.Proofs.Ytchpkopeblgifaa
