/-
  The reference's words on keys: Check, Index.
-/
import Derived.Test.YtnidamkgfgddfaaGreatMxP
import Derived.Deep.LoopGhost
namespace Go.Proofs.YtnidamkgfgddfaaGreat
open Go.RowKit

theorem tens7_b (n : Nat) (h1 : n ≤ 9007199254740991) (w : World) : Calls Tryz.prog 83 #[.int .i64 n] w fun e w' => e = .returned (.string ⟨(Lib.decDigits n).toArray⟩) ∧ Below w.heap.size w w' :=
  (tens7_any n h1 w).mono fun _ _ ⟨he, hw⟩ => ⟨he, hw ▸ Below.refl _ _⟩

set_option maxHeartbeats 8000000 in
set_option maxRecDepth 100000 in
theorem rkey_any (k : KI) (hs : k.s.size ≤ maxLen) (w : World) : Calls Tryz.prog 80 #[k.a] w fun e w' => e = .returned (.int .i64 k.err) ∧ Below w.heap.size w w' := by
  unfold maxLen at hs
  obtain ⟨er, he⟩ : ∃ er : Int, k.err = er := ⟨_, rfl⟩
  rw [he]
  unfold KI.err KI.ok at he
  have hE : k.s.toList.isEmpty = decide (k.s.size = 0) := by rw [Bool.eq_iff_iff, empty_size, decide_eq_true_eq]
  rw [hE] at he
  clear hE
  have X := hidB (show Bk (w.alloc (.cells (k.cells.toArray) 66)) (w.heap.size) 66 (k.cells.toArray) from Bk.new w _ _)
  have B := hidB (show Below w.heap.size w (w.alloc (.cells (k.cells.toArray) 66)) from box_one w _)
  go_enter Tryz.func80, Tryz.ntmps80
  go_upto_region 1 with fail
  generalize hW : (w.alloc (.cells (k.cells.toArray) 66)) = w1 at *
  clear hW
  have x0 : w1.cell? ⟨w.heap.size, 0, none⟩ = some (.string k.s) := X.out.cell 0
  have x1 : w1.cell? ⟨w.heap.size, 1, none⟩ = some (.int .i64 k.n) := X.out.cell 1
  by_cases h1 : k.n < 0 <;> by_cases h2 : 4096 < k.s.size <;> by_cases h3 : 0 < k.n <;> by_cases h4 : k.s.size = 0
  all_goals try exact absurd h3 (by omega)
  all_goals try exact absurd h4 (by omega)
  all_goals
    first | (have h2i : (4096 : Int) < (k.s.size : Int) := by omega) | (have h2i : ¬ (4096 : Int) < (k.s.size : Int) := by omega)
    first | (have h4i : (0 : Int) < (k.s.size : Int) := by omega) | (have h4i : ¬ (0 : Int) < (k.s.size : Int) := by omega)
    simp [h1, h2, h3, h4] at he
    subst he
    clear h2 h4
    go_wp2_with fail
    go_ret
    exact ⟨rfl, B.out⟩
set_option maxHeartbeats 8000000 in
set_option maxRecDepth 100000 in
theorem rindex_any (k : KI) (hs : k.s.size ≤ maxLen) (w : World) : Calls Tryz.prog 74 #[k.a] w fun e w' => e = .returned (.tuple #[.int .i64 (idxN k), .bool (idxK k).isSome]) ∧ Below w.heap.size w w' := by
  unfold maxLen at hs
  have X := hidB (show Bk (w.alloc (.cells (k.cells.toArray) 66)) (w.heap.size) 66 (k.cells.toArray) from Bk.new w _ _)
  have B := hidB (show Below w.heap.size w (w.alloc (.cells (k.cells.toArray) 66)) from box_one w _)
  go_enter Tryz.func74, Tryz.ntmps74
  go_upto_region 1 with fail
  generalize hW : (w.alloc (.cells (k.cells.toArray) 66)) = w1 at *
  clear hW
  have x0 : w1.cell? ⟨w.heap.size, 0, none⟩ = some (.string k.s) := X.out.cell 0
  have x1 : w1.cell? ⟨w.heap.size, 1, none⟩ = some (.int .i64 k.n) := X.out.cell 1
  by_cases hn : 0 < k.n
  · have HN := hidB hn
    have HK := hidB (show idxK k = none from idx_none (.inl HN.out))
    go_wp2_with fail
    go_ret2
    exact ⟨by unfold idxN; rw [HK.out]; rfl, B.out⟩
  by_cases h4 : 4 < k.s.size
  · have H4 := hidB h4
    have h4i : (4 : Int) < (k.s.size : Int) := by omega
    clear h4
    have HK := hidB (show idxK k = none from idx_none (.inr (.inr (.inl H4.out))))
    go_wp2_with fail
    go_ret2
    exact ⟨by unfold idxN; rw [HK.out]; rfl, B.out⟩
  have h4i : ¬ (4 : Int) < (k.s.size : Int) := by omega
  clear h4
  go_wp2_with fail
  clear x0 x1 h4i
  go_loopg [4] 1024 (fun n s4 wr => ∃ i : Nat, i ≤ 1024 ∧ n = 1024 - i ∧ s4 = .int .i64 i ∧ (∀ j, j < i → ¬ k.s.data.toList = Lib.decDigits j) ∧ Bk wr w.heap.size 66 k.cells.toArray ∧ Below w.heap.size w wr)
  case atStart => exact ⟨0, by omega, rfl, rfl, fun j hj => absurd hj (Nat.not_lt_zero j), X.out, B.out⟩
  case round =>
    clear X B
    obtain ⟨i, hi, rfl, rfl, hno, hx, hb⟩ := hrel
    have X := hidB hx
    have B := hidB hb
    have HNO := hidB hno
    clear hx hb hno
    have hi0 : (0 : Int) ≤ (i : Int) := by omega
    by_cases hlt : i < 1024
    rotate_left
    · obtain rfl : i = 1024 := by omega
      have HK := hidB (show idxK k = none by
        cases hq : idxK k with
        | none => rfl
        | some n => exact absurd (idx_some hq).2 (HNO.out n (idx_some hq).1))
      go_wp2_with fail
      go_ret2
      exact ⟨by unfold idxN; rw [HK.out]; rfl, B.out⟩
    have hi1 : (i : Int) < 1024 := by omega
    go_upto_region 6 with fail
    obtain ⟨q, hq⟩ : ∃ q, (Lib.decDigits i == k.s.toList) = q := ⟨_, rfl⟩
    have HQ := hidB hq
    go_cut [22] from 18 to 22 (fun s22 wx => s22 = .bool q ∧ Below wr.heap.size wr wx)
    case first =>
      refine wp_region_noPanic ?_
      refine wp_region_held_drew (S := fun W => Below wr.heap.size wr W) (by kernel_rfl) ?_ (fun hHeld => ?_)
      · exact (Below.refl _ _).drew
      generalize hWd : wr.drew = wd at *
      clear hWd
      first | (refine wpAnyH_take (i := 0) (v := undef) (by simp only [List.getElem?_toArray, List.getElem?_cons_zero]; exact rfl) (by kernel_rfl) (by kernel_rfl) (by kernel_rfl) (fun _ _ _ h => h) (Or.inr ⟨?_, rfl⟩) (by assumption) ?_; (rfl); try simp only [Act.put, List.setIfInBounds_toArray, List.set_cons_zero, List.set_cons_succ]) | (refine wpAnyH_take (i := 0) (v := ?_) (by simp only [List.getElem?_toArray, List.getElem?_cons_zero]; exact rfl) (by kernel_rfl) (by kernel_rfl) (by kernel_rfl) (fun _ _ _ h => h) (Or.inl ⟨?_, ?_⟩) (by assumption) ?_; rotate_left; (rfl); (focus (intro w hSw; (try dsimp only at hSw); go_simp; try with_reducible rfl)); try simp only [Act.put, List.setIfInBounds_toArray, List.set_cons_zero, List.set_cons_succ])
      first | (refine wpAnyH_take (i := 2) (v := undef) (by simp only [List.getElem?_toArray, List.getElem?_cons_succ, List.getElem?_cons_zero]; exact rfl) (by kernel_rfl) (by kernel_rfl) (by kernel_rfl) (fun _ _ _ h => h) (Or.inr ⟨?_, rfl⟩) (by assumption) ?_; (rfl); try simp only [Act.put, List.setIfInBounds_toArray, List.set_cons_zero, List.set_cons_succ]) | (refine wpAnyH_take (i := 2) (v := ?_) (by simp only [List.getElem?_toArray, List.getElem?_cons_succ, List.getElem?_cons_zero]; exact rfl) (by kernel_rfl) (by kernel_rfl) (by kernel_rfl) (fun _ _ _ h => h) (Or.inl ⟨?_, ?_⟩) (by assumption) ?_; rotate_left; (rfl); (focus (intro w hSw; (try dsimp only at hSw); go_simp; try with_reducible rfl)); try simp only [Act.put, List.setIfInBounds_toArray, List.set_cons_zero, List.set_cons_succ])
      first | (refine wpAnyH_take (i := 3) (v := undef) (by simp only [List.getElem?_toArray, List.getElem?_cons_succ, List.getElem?_cons_zero]; exact rfl) (by kernel_rfl) (by kernel_rfl) (by kernel_rfl) (fun _ _ _ h => h) (Or.inr ⟨?_, rfl⟩) (by assumption) ?_; (rfl); try simp only [Act.put, List.setIfInBounds_toArray, List.set_cons_zero, List.set_cons_succ]) | (refine wpAnyH_take (i := 3) (v := ?_) (by simp only [List.getElem?_toArray, List.getElem?_cons_succ, List.getElem?_cons_zero]; exact rfl) (by kernel_rfl) (by kernel_rfl) (by kernel_rfl) (fun _ _ _ h => h) (Or.inl ⟨?_, ?_⟩) (by assumption) ?_; rotate_left; (rfl); (focus (intro W hSw; have hc0 := (show W.cell? ⟨w.heap.size, 0, none⟩ = some (.string k.s) from (X.out.on hSw).cell 0); clear hSw; go_simp; try with_reducible rfl)); try simp only [Act.put, List.setIfInBounds_toArray, List.set_cons_zero, List.set_cons_succ])
      refine wpAnyH_ready (rs := [1]) (by kernel_rfl) (by simp) ?_
      refine AllReadyH.cons rfl (fun K hK => ?_) AllReadyH.nil
      go_simp
      refine (tens7_b i (by omega) _).mono ?_; rintro e v1 ⟨rfl, hb⟩
      replace hHeld := hHeld.trans (hb.mono hHeld.size)
      clear hb
      refine hK.out _ _ hHeld (fun _ => ?_)
      clear hK K
      try simp only [Act.put, List.setIfInBounds_toArray, List.set_cons_zero, List.set_cons_succ]
      first | (refine wpAnyH_take (i := 4) (v := undef) (by simp only [List.getElem?_toArray, List.getElem?_cons_succ, List.getElem?_cons_zero]; exact rfl) (by kernel_rfl) (by kernel_rfl) (by kernel_rfl) (fun _ _ _ h => h) (Or.inr ⟨?_, rfl⟩) (by assumption) ?_; (rfl); try simp only [Act.put, List.setIfInBounds_toArray, List.set_cons_zero, List.set_cons_succ]) | (refine wpAnyH_take (i := 4) (v := ?_) (by simp only [List.getElem?_toArray, List.getElem?_cons_succ, List.getElem?_cons_zero]; exact rfl) (by kernel_rfl) (by kernel_rfl) (by kernel_rfl) (fun _ _ _ h => h) (Or.inl ⟨?_, ?_⟩) (by assumption) ?_; rotate_left; (rfl); (focus (intro W hSw; have hc0 := HQ.out; clear hSw; go_simp; try with_reducible rfl)); try simp only [Act.put, List.setIfInBounds_toArray, List.set_cons_zero, List.set_cons_succ])
      refine wpAnyH_done (by kernel_rfl) ?_ _
      refine NoPanic.normal ?_
      go_wp2_with fail
      go_meet
      case rel => exact ⟨rfl, hHeld⟩
    case rest =>
    obtain ⟨rfl, hb⟩ := hcut
    replace X := hidB (X.out.on hb)
    replace B := hidB (B.out.trans (hb.mono B.out.size))
    clear hb
    cases q
    · have hnq : ¬ k.s.data.toList = Lib.decDigits i := fun e => by
        have h1 := HQ.out
        rw [beq_eq_false_iff_ne] at h1
        exact h1 (by rw [ByteArray.toList_eq]; exact e.symm)
      have HNQ := hidB hnq
      clear hnq
      go_wp2_with fail
      go_roundg (1024 - (i + 1))
      case measure => omega
      case rel => exact ⟨i + 1, by omega, rfl, by go_num, fun j hj => by rcases Nat.lt_succ_iff_lt_or_eq.1 hj with h | rfl; exact HNO.out j h; exact HNQ.out, X.out, B.out⟩
    · have HK := hidB (show idxK k = some i from idx_of hlt (by omega) (by have h1 := HQ.out; rw [beq_iff_eq, ByteArray.toList_eq] at h1; exact h1.symm))
      go_wp2_with fail
      go_ret2
      exact ⟨by unfold idxN; rw [HK.out]; rfl, B.out⟩

end Go.Proofs.YtnidamkgfgddfaaGreat
