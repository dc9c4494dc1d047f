/-
  The reference's words on lists of properties.
-/
import Derived.Test.YtnidamkgfgddfaaGreatMxL
import Derived.Test.YtnidamkgfgddfaaGreatRefKey
import Derived.Test.YtnidamkgfgddfaaGreatTab
namespace Go.Proofs.YtnidamkgfgddfaaGreat
open Go.RowKit

/-- A descriptor's byte is one. -/
def DI.byte (d : DI) : Prop := 0 ≤ d.has ∧ d.has ≤ 255

set_option maxHeartbeats 8000000 in
set_option maxRecDepth 100000 in
theorem riswhole_any (d : DI) (h0 : d.byte) (hd : d.ok) (w : World) : Calls Tryz.prog 81 #[.agg d.cs] w fun e w' => e = .returned (.bool d.isW) ∧ Below w.heap.size w w' := by
  have DC := hidB (fun W => rdesc_any d h0 hd W)
  have HW := hidB (isW_eq d h0)
  clear h0 hd
  cases hk : okR d
  all_goals
    rw [hk] at HW DC
    clear hk
    have X := hidB (show Bk (w.alloc (.cells (d.cs) 68)) (w.heap.size) 68 (d.cs) from Bk.new w _ _)
    have B := hidB (show Below w.heap.size w (w.alloc (.cells (d.cs) 68)) from box_one w _)
    go_enter Tryz.func81, Tryz.ntmps81
    go_upto_region 1 with fail
    generalize hW : (w.alloc (.cells (d.cs) 68)) = w1 at *
    clear hW
  · go_wp2_with (first | ((with_reducible refine ldId 68 (.tmp 1) ?_); refine wpList_load_row (by rfl) 68 (.tmp 1) (by rfl) (w.heap.size) (by rfl) 68 (d.cs) (0, 0) _ (by exact X.out) Tryz.underlying68 (by rfl) (by kernel_rfl) ?_))
    refine (DC.out _).mono ?_; rintro e w2 ⟨rfl, hb⟩
    replace X := hidB (X.out.on hb); replace B := hidB (B.out.trans (hb.mono B.out.size)); clear hb
    go_wp2_with fail
    go_ret
    exact ⟨ret_bool (by rw [← HW.out]; rfl), B.out⟩
  · cases h51 : (d.has == 51) <;> cases h60 : (d.has == 60)
    all_goals
      rw [h51, h60] at HW
      go_wp2_with (first | ((with_reducible refine ldId 68 (.tmp 1) ?_); refine wpList_load_row (by rfl) 68 (.tmp 1) (by rfl) (w.heap.size) (by rfl) 68 (d.cs) (0, 0) _ (by exact X.out) Tryz.underlying68 (by rfl) (by kernel_rfl) ?_))
      refine (DC.out _).mono ?_; rintro e w2 ⟨rfl, hb⟩
      replace X := hidB (X.out.on hb); replace B := hidB (B.out.trans (hb.mono B.out.size)); clear hb
      have x0 : w2.cell? ⟨w.heap.size, 0, none⟩ = some (.int .u8 d.has) := X.out.cell 0
      go_wp2_with fail
      go_ret
      exact ⟨ret_bool (by rw [← HW.out]; rfl), B.out⟩

def findR (l : List PI) (k : KI) : Option PI := l.find? (fun p => KI.eq p.k k)
/-- Where a key stands: at its first place, or nowhere. -/
def AtQ (l : List PI) (k : KI) (n : Int) : Prop := (n = -1 ∧ findR l k = none) ∨ ∃ i, ∃ h : i < l.length, n = i ∧ findR l k = some l[i]
theorem find_takeR {l : List PI} {k : KI} {i : Nat} (h : i < l.length) (h0 : findR (l.take i) k = none) : (KI.eq l[i].k k = true → findR l k = some l[i]) ∧ (KI.eq l[i].k k = false → findR (l.take (i + 1)) k = none) := by
  unfold findR at *
  refine ⟨fun he => ?_, fun he => ?_⟩
  · have e : l.find? (fun p => KI.eq p.k k) = (l.take i ++ l.drop i).find? (fun p => KI.eq p.k k) := by rw [List.take_append_drop]
    rw [e, List.find?_append, h0, List.drop_eq_getElem_cons h, List.find?_cons, he]
    simp
  · rw [List.take_succ_eq_append_getElem h, List.find?_append, h0, List.find?_cons, he]; rfl
theorem rangeKeepR {w W : World} {g o : Nat} {p : PI} (h : w.rangeAt g o p.cs.toList) (hb : Below w.heap.size w W) (hg : g < w.heap.size) : W.rangeAt g o p.k.cells := by
  intro j u hu
  refine rangeOn hb hg h j u ?_
  have hj : j < 2 := (List.getElem?_eq_some_iff.1 hu).1
  match j, hj with
  | 0, _ => exact hu
  | 1, _ => exact hu
theorem rangeKeepD {w W : World} {g o : Nat} {p : PI} (h : w.rangeAt g o p.cs.toList) (hb : Below w.heap.size w W) (hg : g < w.heap.size) : W.rangeAt g (o + 2) p.d.cs.toList := by
  intro j u hu
  rw [Nat.add_assoc]
  refine rangeOn hb hg h (2 + j) u ?_
  rw [Nat.add_comm]
  exact hu
set_option maxHeartbeats 8000000 in
set_option maxRecDepth 100000 in
theorem rplace_any (l : List PI) (k : KI) (v : Value) (w : World) (hr : RdP l v w) : Calls Tryz.prog 82 #[v, k.a] w fun e w' => ∃ n : Int, e = .returned (.int .i64 n) ∧ AtQ l k n ∧ Below w.heap.size w w' := by
  obtain ⟨pa, c, rfl, h1, h2, h3⟩ := hr
  unfold maxLen at h2
  have hlm : l.length ≤ 9223372036854775807 := by omega
  have HC := hidB h3
  clear h3
  have X := hidB (show Bk (w.alloc (.cells (k.cells.toArray) 66)) (w.heap.size) 66 (k.cells.toArray) from Bk.new w _ _)
  have B := hidB (show Below w.heap.size w (w.alloc (.cells (k.cells.toArray) 66)) from box_one w _)
  go_enter Tryz.func82, Tryz.ntmps82
  go_upto_region 1 with fail
  generalize hW : (w.alloc (.cells (k.cells.toArray) 66)) = w1 at *
  clear hW
  go_wp2_with fail
  go_loopw [5] (fun s8 wr => ∃ i : Nat, i ≤ l.length ∧ s8 = .int .i64 i ∧ findR (l.take i) k = none ∧ Bk wr w.heap.size 66 k.cells.toArray ∧ Below w.heap.size w wr) (fun i _ => l.length - (intOf i).toNat)
  case atStart => exact ⟨0, by omega, rfl, rfl, X.out, B.out⟩
  case round =>
    obtain ⟨i, hi, rfl, hf, hX, hb⟩ := hrel
    have HF := hidB hf
    replace X := hidB hX
    replace B := hidB hb
    clear hf hX hb
    have hx2 : (0 : Int) ≤ (i : Int) := by omega
    by_cases hlt : i < l.length
    rotate_left
    · obtain rfl : i = l.length := by omega
      have hx4 : ¬ ((l.length : Int) < (l.length : Int)) := by omega
      rw [List.take_length] at HF
      clear HC hi hlt
      go_wp2_with fail
      go_ret
      exact ⟨-1, rfl, .inl ⟨rfl, HF.out⟩, B.out⟩
    have hx1 : (i : Int) < (l.length : Int) := by omega
    obtain ⟨g, o, rfl, hgl, hcell⟩ := HC.out (by omega)
    have HR := hidB (hcell i hlt)
    have HGL := hidB hgl
    have HFT := hidB (find_takeR hlt HF.out)
    have HIL := hidB hlt
    clear hcell hgl HF
    generalize hp0 : l[i]'hlt = p0 at *
    have HP0 := hidB hp0
    clear hp0
    have z1 : Tryz.prog.eqGuardType Tryz.prog.depth 66 = false := by kernel_rfl
    have V1 : ∀ W : World, (Op.equalIn 10000 66 p0.k.a k.a).run Tryz.prog W = .ok (KI.eq p0.k k) W := fun W => equal_key 9998 p0.k k W
    cases he : KI.eq p0.k k
    all_goals
      rw [he] at V1
      have HE := hidB he
      clear he
      go_upto_region 4 with fail
      refine wp_region_noPanic ?_
      refine wp_region_held_drew (S := fun W => Below w.heap.size w W ∧ Bk W w.heap.size 66 k.cells.toArray) (by kernel_rfl) ?_ (fun hHeld => ?_)
      · exact ⟨B.out.drew, X.out.drew⟩
      generalize hWd : wr.drew = wd at *
      clear hWd
      first | (refine wpAnyH_take (i := 0) (v := undef) (by simp only [List.getElem?_toArray, List.getElem?_cons_zero]; exact rfl) (by kernel_rfl) (by kernel_rfl) (by kernel_rfl) (fun _ _ _ h => h) (Or.inr ⟨?_, rfl⟩) (by assumption) ?_; (rfl); try simp only [Act.put, List.setIfInBounds_toArray, List.set_cons_zero, List.set_cons_succ]) | (refine wpAnyH_take (i := 0) (v := ?_) (by simp only [List.getElem?_toArray, List.getElem?_cons_zero]; exact rfl) (by kernel_rfl) (by kernel_rfl) (by kernel_rfl) (fun _ _ _ h => h) (Or.inl ⟨?_, ?_⟩) (by assumption) ?_; rotate_left; (rfl); (focus (intro w hSw; (try dsimp only at hSw); go_simp; try with_reducible rfl)); try simp only [Act.put, List.setIfInBounds_toArray, List.set_cons_zero, List.set_cons_succ])
      first | (refine wpAnyH_take (i := 1) (v := undef) (by simp only [List.getElem?_toArray, List.getElem?_cons_succ, List.getElem?_cons_zero]; exact rfl) (by kernel_rfl) (by kernel_rfl) (by kernel_rfl) (fun _ _ _ h => h) (Or.inr ⟨?_, rfl⟩) (by assumption) ?_; (rfl); try simp only [Act.put, List.setIfInBounds_toArray, List.set_cons_zero, List.set_cons_succ]) | (refine wpAnyH_take (i := 1) (v := ?_) (by simp only [List.getElem?_toArray, List.getElem?_cons_succ, List.getElem?_cons_zero]; exact rfl) (by kernel_rfl) (by kernel_rfl) (by kernel_rfl) (fun _ _ _ h => h) (Or.inl ⟨?_, ?_⟩) (by assumption) ?_; rotate_left; (rfl); (focus (intro w hSw; (try dsimp only at hSw); go_simp; try with_reducible rfl)); try simp only [Act.put, List.setIfInBounds_toArray, List.set_cons_zero, List.set_cons_succ])
      first | (refine wpAnyH_take (i := 2) (v := undef) (by simp only [List.getElem?_toArray, List.getElem?_cons_succ, List.getElem?_cons_zero]; exact rfl) (by kernel_rfl) (by kernel_rfl) (by kernel_rfl) (fun _ _ _ h => h) (Or.inr ⟨?_, rfl⟩) (by assumption) ?_; (rfl); try simp only [Act.put, List.setIfInBounds_toArray, List.set_cons_zero, List.set_cons_succ]) | (refine wpAnyH_take (i := 2) (v := ?_) (by simp only [List.getElem?_toArray, List.getElem?_cons_succ, List.getElem?_cons_zero]; exact rfl) (by kernel_rfl) (by kernel_rfl) (by kernel_rfl) (fun _ _ _ h => h) (Or.inl ⟨?_, ?_⟩) (by assumption) ?_; rotate_left; (rfl); (focus (intro w hSw; (try dsimp only at hSw); go_simp; try with_reducible rfl)); try simp only [Act.put, List.setIfInBounds_toArray, List.set_cons_zero, List.set_cons_succ])
      first | (refine wpAnyH_take (i := 3) (v := undef) (by simp only [List.getElem?_toArray, List.getElem?_cons_succ, List.getElem?_cons_zero]; exact rfl) (by kernel_rfl) (by kernel_rfl) (by kernel_rfl) (fun _ _ _ h => h) (Or.inr ⟨?_, rfl⟩) (by assumption) ?_; (rfl); try simp only [Act.put, List.setIfInBounds_toArray, List.set_cons_zero, List.set_cons_succ]) | (refine wpAnyH_take (i := 3) (v := ?_) (by simp only [List.getElem?_toArray, List.getElem?_cons_succ, List.getElem?_cons_zero]; exact rfl) (by kernel_rfl) (by kernel_rfl) (by kernel_rfl) (fun _ _ _ h => h) (Or.inl ⟨?_, ?_⟩) (by assumption) ?_; rotate_left; (rfl); (focus (intro w hSw; (try dsimp only at hSw); go_simp; try with_reducible rfl)); try simp only [Act.put, List.setIfInBounds_toArray, List.set_cons_zero, List.set_cons_succ])
      (refine wpAnyH_take (i := 4) (v := p0.k.a) (by simp only [List.getElem?_toArray, List.getElem?_cons_succ, List.getElem?_cons_zero]; exact rfl) (by kernel_rfl) (by kernel_rfl) (by kernel_rfl) (fun _ _ _ h => h) (yieldsIf_load_mid (by rfl) 66 (.tmp 15) (by rfl) (g) (o + i * 18) (by rfl) (p0.k.cells) _ (fun W hS => rangeKeepR HR.out hS.1 HGL.out) Tryz.underlying66 (by rfl) (by kernel_rfl)) (by assumption) ?_; try simp only [Act.put, List.setIfInBounds_toArray, List.set_cons_zero, List.set_cons_succ])
      (refine wpAnyH_take (i := 5) (v := k.a) (by simp only [List.getElem?_toArray, List.getElem?_cons_succ, List.getElem?_cons_zero]; exact rfl) (by kernel_rfl) (by kernel_rfl) (by kernel_rfl) (fun _ _ _ h => h) (yieldsIf_load_mid (by rfl) 66 (.tmp 3) (by rfl) (w.heap.size) (0) (by rfl) (k.cells) _ (fun W hS => Bk.mid hS.2 0 _ rfl) Tryz.underlying66 (by rfl) (by kernel_rfl)) (by assumption) ?_; try simp only [Act.put, List.setIfInBounds_toArray, List.set_cons_zero, List.set_cons_succ])
      first | (refine wpAnyH_take (i := 6) (v := undef) (by simp only [List.getElem?_toArray, List.getElem?_cons_succ, List.getElem?_cons_zero]; exact rfl) (by kernel_rfl) (by kernel_rfl) (by kernel_rfl) (fun _ _ _ h => h) (Or.inr ⟨?_, rfl⟩) (by assumption) ?_; (rfl); try simp only [Act.put, List.setIfInBounds_toArray, List.set_cons_zero, List.set_cons_succ]) | (refine wpAnyH_take (i := 6) (v := ?_) (by simp only [List.getElem?_toArray, List.getElem?_cons_succ, List.getElem?_cons_zero]; exact rfl) (by kernel_rfl) (by kernel_rfl) (by kernel_rfl) (fun _ _ _ h => h) (Or.inl ⟨?_, ?_⟩) (by assumption) ?_; rotate_left; (rfl); (focus (intro w hSw; (try dsimp only at hSw); go_simp; try with_reducible rfl)); try simp only [Act.put, List.setIfInBounds_toArray, List.set_cons_zero, List.set_cons_succ])
      refine wpAnyH_done (by kernel_rfl) ?_ _
      refine NoPanic.normal ?_
      replace B := hidB hHeld.1
      replace X := hidB hHeld.2
      first
        | (have HN := hidB (HFT.out.2 HE.out); go_wp2_with fail; go_roundw; (case rel => exact ⟨i + 1, by omega, by go_num, HN.out, X.out, B.out⟩); (case measure => simp [intOf]; omega))
        | (have HN := hidB (HFT.out.1 HE.out); go_wp2_with fail; go_ret; exact ⟨i, rfl, .inr ⟨i, HIL.out, rfl, by rw [HN.out]; exact congrArg some HP0.out.symm⟩, B.out⟩)

theorem KI.eq_comm (a b : KI) : KI.eq a b = KI.eq b a := by
  unfold KI.eq
  rw [Bool.eq_iff_iff]
  simp only [Bool.and_eq_true, beq_iff_eq]
  constructor <;> (rintro ⟨h1, h2⟩; exact ⟨h1.symm, h2.symm⟩)
theorem atQ_any {l : List PI} {k : KI} {n : Int} (h : AtQ l k n) : (decide (0 ≤ n)) = (l.map PI.k).any (KI.eq k) := by
  have e : (l.map PI.k).any (KI.eq k) = l.any (fun p => KI.eq p.k k) := by
    rw [List.any_map]
    refine congrArg l.any (funext fun p => ?_)
    exact KI.eq_comm _ _
  rw [e]
  rcases h with ⟨rfl, h⟩ | ⟨i, hi, rfl, h⟩
  · have : l.any (fun p => KI.eq p.k k) = false := by
      rw [List.any_eq_false]
      intro p hp
      exact List.find?_eq_none.1 h p hp
    rw [this]; rfl
  · have : l.any (fun p => KI.eq p.k k) = true := List.any_eq_true.2 ⟨l[i], List.getElem_mem hi, List.find?_some (p := fun p : PI => KI.eq p.k k) h⟩
    rw [this]
    exact decide_eq_true (by omega)
theorem rdp_take {l : List PI} {g o c : Nat} {w : World} (hc : c ≤ maxLen) (hl : l.length ≤ c) (hg : g < w.heap.size) (h : ∀ i (hi : i < l.length), w.rangeAt g (o + i * 18) l[i].cs.toList) (k : Nat) (hk : k ≤ l.length) : RdP (l.take k) (.slice (some ⟨g, o, none⟩) k c) w := by
  refine ⟨some ⟨g, o, none⟩, c, by rw [List.length_take, Nat.min_eq_left hk], by rw [List.length_take]; omega, hc, fun _ => ⟨g, o, rfl, hg, fun i hi => ?_⟩⟩
  have hi2 : i < l.length := by rw [List.length_take] at hi; omega
  have e : (l.take k)[i] = l[i] := by rw [List.getElem_take]
  rw [e]
  exact h i hi2
set_option maxHeartbeats 8000000 in
set_option maxRecDepth 100000 in
theorem rtabCheck_any (l : List PI) (hok : ∀ p ∈ l, p.d.ok ∧ p.d.byte ∧ p.k.s.size ≤ maxLen) (v : Value) (w : World) (hr : RdP l v w) : Calls Tryz.prog 72 #[v] w fun e w' => e = .returned (.int .i64 (tabE l)) ∧ Below w.heap.size w w' := by
  obtain ⟨pa, c, rfl, h1, h2, h3⟩ := hr
  have HM := hidB h2
  unfold maxLen at h2
  have hlm : l.length ≤ 9223372036854775807 := by omega
  have HLC := hidB h1
  have HC := hidB h3
  have HOK := hidB hok
  clear h3 hok h1
  by_cases hbig : 1024 < l.length
  · have hbi : (1024 : Int) < (l.length : Int) := by omega
    rw [show tabE l = 4 from if_pos hbig]
    go_enter Tryz.func72, Tryz.ntmps72
    go_wp2_with fail
    go_ret
    exact ⟨rfl, Below.refl _ _⟩
  have hbi : ¬ (1024 : Int) < (l.length : Int) := by omega
  rw [show tabE l = tabG [] l from if_neg hbig]
  go_enter Tryz.func72, Tryz.ntmps72
  go_wp2_with fail
  go_loopw [3] (fun s3 wr => ∃ k : Nat, k ≤ l.length ∧ s3 = .int .i64 k ∧ tabG ((l.take k).map PI.k) (l.drop k) = tabG [] l ∧ Below w.heap.size w wr) (fun i _ => l.length - (intOf i).toNat)
  case atStart => exact ⟨0, by omega, rfl, rfl, Below.refl _ _⟩
  case round =>
    obtain ⟨k, hk, rfl, hg, hb⟩ := hrel
    have Hg := hidB hg
    have B := hidB hb
    clear hg hb
    have hx2 : (0 : Int) ≤ (k : Int) := by omega
    by_cases hlt : k < l.length
    rotate_left
    · obtain rfl : k = l.length := by omega
      have hx4 : ¬ ((l.length : Int) < (l.length : Int)) := by omega
      have HE := hidB (tab_end hlt Hg.out)
      clear Hg HC hk hlt
      go_wp2_with fail
      go_ret
      exact ⟨by rw [HE.out]; rfl, B.out⟩
    have hx1 : (k : Int) < (l.length : Int) := by omega
    obtain ⟨g, o, rfl, hgl, hcell⟩ := HC.out (by omega)
    have HRK := hidB (fun W (hS : Below w.heap.size w W) => rangeKeepR (hcell k hlt) hS hgl)
    have HRD := hidB (fun W (hS : Below w.heap.size w W) => rangeKeepD (hcell k hlt) hS hgl)
    have HTK := hidB (fun W (hS : Below w.heap.size w W) => rdp_take HM.out HLC.out (Nat.lt_of_lt_of_le hgl hS.size) (fun i hi => rangeOn hS hgl (hcell i hi)) k hk)
    have HK := hidB (HOK.out _ (List.getElem_mem hlt))
    have HST := hidB (tabG_step hlt)
    have HST2 := hidB (Hg.out.symm.trans HST.out)
    have HMAP := hidB (show (l.take (k + 1)).map PI.k = (l.take k).map PI.k ++ [(l[k]'hlt).k] by rw [List.take_succ_eq_append_getElem hlt, List.map_append]; rfl)
    have HIL := hidB hlt
    have HKC : Hid (k ≤ c) := hidB (Nat.le_trans hk HLC.out)
    clear hcell hgl Hg HST
    generalize hp0 : l[k]'hlt = p0 at *
    clear hp0
    obtain ⟨ks, hks⟩ : ∃ q, (l.take k).map PI.k = q := ⟨_, rfl⟩
    have HKS := hidB hks
    rw [hks] at HST2 HMAP
    clear hks
    go_wp2_with (first | ((with_reducible refine ldId 66 (.tmp 16) ?_); refine wpList_load_mid (by rfl) 66 (.tmp 16) (by rfl) g (o + k * 18) (by rfl) (p0.k.cells) _ (by exact HRK.out _ B.out) Tryz.underlying66 (by rfl) (by kernel_rfl) ?_))
    refine (rkey_any p0.k HK.out.2.2 _).mono ?_; rintro e w3 ⟨rfl, hb⟩
    replace B := hidB (B.out.trans (hb.mono B.out.size)); clear hb
    cases hkk : p0.k.ok
    · rw [show p0.k.err = 9 by unfold KI.err; rw [hkk]; rfl]
      have HKK := hidB hkk
      clear hkk
      have HE : Hid (tabG [] l = 9) := hidB (by rw [HST2.out]; unfold PI.err; rw [HKK.out]; rfl)
      clear HST2
      go_wp2_with fail
      go_ret
      exact ⟨by rw [HE.out]; rfl, B.out⟩
    rw [show p0.k.err = 0 by unfold KI.err; rw [hkk]; rfl]
    have HKK := hidB hkk
    clear hkk
    go_wp2_with (first | ((with_reducible refine ldId 68 (.tmp 23) ?_); refine wpList_load_mid (by rfl) 68 (.tmp 23) (by rfl) g (o + k * 18 + 2) (by rfl) (p0.d.cs.toList) _ (by exact HRD.out _ B.out) Tryz.underlying68 (by rfl) (by kernel_rfl) ?_))
    refine (riswhole_any p0.d HK.out.2.1 HK.out.1 _).mono ?_; rintro e w4 ⟨rfl, hb⟩
    replace B := hidB (B.out.trans (hb.mono B.out.size)); clear hb
    cases hw0 : p0.d.isW
    · have HW0 := hidB hw0
      clear hw0
      have HE : Hid (tabG [] l = 90) := hidB (by rw [HST2.out]; unfold PI.err; rw [HKK.out, HW0.out]; rfl)
      clear HST2
      go_wp2_with fail
      go_ret
      exact ⟨by rw [HE.out]; rfl, B.out⟩
    have HW0 := hidB hw0
    clear hw0
    go_upto_region 10 with fail
    have hkc := HKC.out
    have hkc2 : (k : Int) ≤ (c : Int) := by omega
    refine wp_region_noPanic ?_
    refine wp_region_held_drew (S := fun W => Below w.heap.size w W) (by kernel_rfl) ?_ (fun hHeld => ?_)
    · exact B.out.drew
    generalize hWd : w4.drew = wd at *
    clear hWd
    first | (refine wpAnyH_take (i := 0) (v := undef) (by simp only [List.getElem?_toArray, List.getElem?_cons_zero]; exact rfl) (by kernel_rfl) (by kernel_rfl) (by kernel_rfl) (fun _ _ _ h => h) (Or.inr ⟨?_, rfl⟩) (by assumption) ?_; (rfl); try simp only [Act.put, List.setIfInBounds_toArray, List.set_cons_zero, List.set_cons_succ]) | (refine wpAnyH_take (i := 0) (v := ?_) (by simp only [List.getElem?_toArray, List.getElem?_cons_zero]; exact rfl) (by kernel_rfl) (by kernel_rfl) (by kernel_rfl) (fun _ _ _ h => h) (Or.inl ⟨?_, ?_⟩) (by assumption) ?_; rotate_left; (rfl); (focus (intro w hSw; (try dsimp only at hSw); go_simp; try with_reducible rfl)); try simp only [Act.put, List.setIfInBounds_toArray, List.set_cons_zero, List.set_cons_succ])
    first | (refine wpAnyH_take (i := 1) (v := undef) (by simp only [List.getElem?_toArray, List.getElem?_cons_succ, List.getElem?_cons_zero]; exact rfl) (by kernel_rfl) (by kernel_rfl) (by kernel_rfl) (fun _ _ _ h => h) (Or.inr ⟨?_, rfl⟩) (by assumption) ?_; (rfl); try simp only [Act.put, List.setIfInBounds_toArray, List.set_cons_zero, List.set_cons_succ]) | (refine wpAnyH_take (i := 1) (v := ?_) (by simp only [List.getElem?_toArray, List.getElem?_cons_succ, List.getElem?_cons_zero]; exact rfl) (by kernel_rfl) (by kernel_rfl) (by kernel_rfl) (fun _ _ _ h => h) (Or.inl ⟨?_, ?_⟩) (by assumption) ?_; rotate_left; (rfl); (focus (intro w hSw; (try dsimp only at hSw); go_simp; try with_reducible rfl)); try simp only [Act.put, List.setIfInBounds_toArray, List.set_cons_zero, List.set_cons_succ])
    first | (refine wpAnyH_take (i := 2) (v := undef) (by simp only [List.getElem?_toArray, List.getElem?_cons_succ, List.getElem?_cons_zero]; exact rfl) (by kernel_rfl) (by kernel_rfl) (by kernel_rfl) (fun _ _ _ h => h) (Or.inr ⟨?_, rfl⟩) (by assumption) ?_; (rfl); try simp only [Act.put, List.setIfInBounds_toArray, List.set_cons_zero, List.set_cons_succ]) | (refine wpAnyH_take (i := 2) (v := ?_) (by simp only [List.getElem?_toArray, List.getElem?_cons_succ, List.getElem?_cons_zero]; exact rfl) (by kernel_rfl) (by kernel_rfl) (by kernel_rfl) (fun _ _ _ h => h) (Or.inl ⟨?_, ?_⟩) (by assumption) ?_; rotate_left; (rfl); (focus (intro w hSw; (try dsimp only at hSw); go_simp; try with_reducible rfl)); try simp only [Act.put, List.setIfInBounds_toArray, List.set_cons_zero, List.set_cons_succ])
    first | (refine wpAnyH_take (i := 3) (v := undef) (by simp only [List.getElem?_toArray, List.getElem?_cons_succ, List.getElem?_cons_zero]; exact rfl) (by kernel_rfl) (by kernel_rfl) (by kernel_rfl) (fun _ _ _ h => h) (Or.inr ⟨?_, rfl⟩) (by assumption) ?_; (rfl); try simp only [Act.put, List.setIfInBounds_toArray, List.set_cons_zero, List.set_cons_succ]) | (refine wpAnyH_take (i := 3) (v := ?_) (by simp only [List.getElem?_toArray, List.getElem?_cons_succ, List.getElem?_cons_zero]; exact rfl) (by kernel_rfl) (by kernel_rfl) (by kernel_rfl) (fun _ _ _ h => h) (Or.inl ⟨?_, ?_⟩) (by assumption) ?_; rotate_left; (rfl); (focus (intro w hSw; (try dsimp only at hSw); go_simp; try with_reducible rfl)); try simp only [Act.put, List.setIfInBounds_toArray, List.set_cons_zero, List.set_cons_succ])
    first | (refine wpAnyH_take (i := 4) (v := undef) (by simp only [List.getElem?_toArray, List.getElem?_cons_succ, List.getElem?_cons_zero]; exact rfl) (by kernel_rfl) (by kernel_rfl) (by kernel_rfl) (fun _ _ _ h => h) (Or.inr ⟨?_, rfl⟩) (by assumption) ?_; (rfl); try simp only [Act.put, List.setIfInBounds_toArray, List.set_cons_zero, List.set_cons_succ]) | (refine wpAnyH_take (i := 4) (v := ?_) (by simp only [List.getElem?_toArray, List.getElem?_cons_succ, List.getElem?_cons_zero]; exact rfl) (by kernel_rfl) (by kernel_rfl) (by kernel_rfl) (fun _ _ _ h => h) (Or.inl ⟨?_, ?_⟩) (by assumption) ?_; rotate_left; (rfl); (focus (intro w hSw; (try dsimp only at hSw); go_simp; try with_reducible rfl)); try simp only [Act.put, List.setIfInBounds_toArray, List.set_cons_zero, List.set_cons_succ])
    first | (refine wpAnyH_take (i := 5) (v := undef) (by simp only [List.getElem?_toArray, List.getElem?_cons_succ, List.getElem?_cons_zero]; exact rfl) (by kernel_rfl) (by kernel_rfl) (by kernel_rfl) (fun _ _ _ h => h) (Or.inr ⟨?_, rfl⟩) (by assumption) ?_; (rfl); try simp only [Act.put, List.setIfInBounds_toArray, List.set_cons_zero, List.set_cons_succ]) | (refine wpAnyH_take (i := 5) (v := ?_) (by simp only [List.getElem?_toArray, List.getElem?_cons_succ, List.getElem?_cons_zero]; exact rfl) (by kernel_rfl) (by kernel_rfl) (by kernel_rfl) (fun _ _ _ h => h) (Or.inl ⟨?_, ?_⟩) (by assumption) ?_; rotate_left; (rfl); (focus (intro w hSw; (try dsimp only at hSw); go_simp; try with_reducible rfl)); try simp only [Act.put, List.setIfInBounds_toArray, List.set_cons_zero, List.set_cons_succ])
    first | (refine wpAnyH_take (i := 6) (v := undef) (by simp only [List.getElem?_toArray, List.getElem?_cons_succ, List.getElem?_cons_zero]; exact rfl) (by kernel_rfl) (by kernel_rfl) (by kernel_rfl) (fun _ _ _ h => h) (Or.inr ⟨?_, rfl⟩) (by assumption) ?_; (rfl); try simp only [Act.put, List.setIfInBounds_toArray, List.set_cons_zero, List.set_cons_succ]) | (refine wpAnyH_take (i := 6) (v := ?_) (by simp only [List.getElem?_toArray, List.getElem?_cons_succ, List.getElem?_cons_zero]; exact rfl) (by kernel_rfl) (by kernel_rfl) (by kernel_rfl) (fun _ _ _ h => h) (Or.inl ⟨?_, ?_⟩) (by assumption) ?_; rotate_left; (rfl); (focus (intro w hSw; (try dsimp only at hSw); go_simp; try with_reducible rfl)); try simp only [Act.put, List.setIfInBounds_toArray, List.set_cons_zero, List.set_cons_succ])
    (refine wpAnyH_take (i := 7) (v := p0.k.a) (by simp only [List.getElem?_toArray, List.getElem?_cons_succ, List.getElem?_cons_zero]; exact rfl) (by kernel_rfl) (by kernel_rfl) (by kernel_rfl) (fun _ _ _ h => h) (yieldsIf_load_mid (by rfl) 66 (.tmp 33) (by rfl) (g) (o + k * 18) (by rfl) (p0.k.cells) _ (fun W hS => HRK.out _ hS) Tryz.underlying66 (by rfl) (by kernel_rfl)) (by assumption) ?_; try simp only [Act.put, List.setIfInBounds_toArray, List.set_cons_zero, List.set_cons_succ])
    refine wpAnyH_ready (rs := [8]) (by kernel_rfl) (by simp) ?_
    refine AllReadyH.cons rfl (fun K hK => ?_) AllReadyH.nil
    go_simp
    refine (rplace_any (l.take k) p0.k _ _ (HTK.out _ hHeld)).mono ?_; rintro e v5 ⟨n, rfl, hat, hb⟩
    replace hHeld := hHeld.trans (hb.mono hHeld.size)
    have HAT := hidB (atQ_any hat)
    rw [HKS.out] at HAT
    clear hb hat
    obtain ⟨an, han⟩ : ∃ q, decide (0 ≤ n) = q := ⟨_, rfl⟩
    rw [han] at HAT
    have hge : (BinOp.geq) = BinOp.geq := rfl
    clear hge
    refine hK.out _ _ hHeld (fun _ => ?_)
    clear hK K
    try simp only [Act.put, List.setIfInBounds_toArray, List.set_cons_zero, List.set_cons_succ]
    first | (refine wpAnyH_take (i := 9) (v := undef) (by simp only [List.getElem?_toArray, List.getElem?_cons_succ, List.getElem?_cons_zero]; exact rfl) (by kernel_rfl) (by kernel_rfl) (by kernel_rfl) (fun _ _ _ h => h) (Or.inr ⟨?_, rfl⟩) (by assumption) ?_; (rfl); try simp only [Act.put, List.setIfInBounds_toArray, List.set_cons_zero, List.set_cons_succ]) | (refine wpAnyH_take (i := 9) (v := .bool (decide (0 ≤ n))) (by simp only [List.getElem?_toArray, List.getElem?_cons_succ, List.getElem?_cons_zero]; exact rfl) (by kernel_rfl) (by kernel_rfl) (by kernel_rfl) (fun _ _ _ h => h) (Or.inl ⟨?_, ?_⟩) (by assumption) ?_; (rfl); (focus (intro W hSw; clear hSw; first | kernel_rfl | rfl)); try simp only [Act.put, List.setIfInBounds_toArray, List.set_cons_zero, List.set_cons_succ])
    refine wpAnyH_done (by kernel_rfl) ?_ _
    refine NoPanic.normal ?_
    rw [han]
    replace B := hidB hHeld
    cases an
    rotate_left
    · have HE : Hid (tabG [] l = 100) := hidB (by rw [HST2.out]; unfold PI.err; rw [HKK.out, HW0.out, ← HAT.out]; rfl)
      clear HST2
      go_wp2_with fail
      go_ret
      exact ⟨by rw [HE.out]; rfl, B.out⟩
    have HE : Hid (tabG (ks ++ [p0.k]) (l.drop (k + 1)) = tabG [] l) := hidB (by rw [HST2.out, HMAP.out]; unfold PI.err; rw [HKK.out, HW0.out, ← HAT.out]; rfl)
    clear HST2
    go_wp2_with fail
    go_roundw
    case rel => exact ⟨k + 1, by omega, by go_num, by rw [HMAP.out]; exact HE.out, B.out⟩
    case measure => simp [intOf]; omega

end Go.Proofs.YtnidamkgfgddfaaGreat
