/-
  May an array's or a string object's properties be: the walks of heap.array, heap.boxed.
-/
import Derived.Test.YtbmaodlghglopaaGreatDoorMxA
import Derived.Test.YtbmaodlghglopaaGreatDoorHAny
namespace Go.Proofs.YtbmaodlghglopaaGreatDoor
open Go.RowKit

def lenK : KI := ⟨⟨#[108, 101, 110, 103, 116, 104]⟩, 0⟩
/-- What a string object may not have. -/
def boxP (s : ByteArray) (q : PI) : Bool := ((idxK q.k).isSome && decide (idxN q.k < (s.size : Int))) || KI.eq q.k lenK

theorem keyOfH_any (w : World) : Calls Tryz.prog 92 #[.string ⟨#[108, 101, 110, 103, 116, 104]⟩] w fun e w' => e = .returned lenK.a ∧ Below w.heap.size w w' := by
  go_enter Tryz.func92, Tryz.ntmps92
  go_wp2_with fail
  exact bodyPost_ret (v := lenK.a) (by simp [results, Tryz.results92, go_sem, lenK]) rfl ⟨rfl, (Below.refl _ _).alloc (Nat.le_refl _) _⟩
set_option maxHeartbeats 8000000 in
set_option maxRecDepth 100000 in
theorem boxed1_any (s : ByteArray) (q : PI) (hs : q.k.s.size ≤ maxLen) (gs : Nat) (w : World) (hg : Bk w gs 9 #[.string s]) : Calls Tryz.prog 101 #[q.a, .pointer (some ⟨gs, 0, none⟩)] w fun e w' => e = .returned (.bool (boxP s q)) ∧ Below w.heap.size w w' := by
  have KA := hidB (fun W => index_any q.k hs W)
  have GG := hidB (hg.on (box_one w (.cells q.cs 91)))
  have X := hidB (show Bk (w.alloc (.cells (q.cs) 91)) (w.heap.size) 91 (q.cs) from Bk.new w _ _)
  have B := hidB (show Below w.heap.size w (w.alloc (.cells (q.cs) 91)) from box_one w _)
  clear hg hs
  go_enter Tryz.func101, Tryz.ntmps101
  go_upto_region 1 with fail
  generalize hW : (w.alloc (.cells (q.cs) 91)) = w1 at *
  clear hW
  go_wp2_with (first | ((with_reducible refine ldId 26 (.tmp 7) ?_); refine wpList_load_mid (by rfl) 26 (.tmp 7) (by rfl) (w.heap.size) 0 (by rfl) (q.k.cells) _ (by exact Bk.mid X.out 0 _ rfl) Tryz.underlying26 (by rfl) (by kernel_rfl) ?_))
  refine (KA.out _).mono ?_; rintro e w2 ⟨rfl, hb⟩
  replace X := hidB (X.out.on hb)
  replace GG := hidB (GG.out.on hb)
  replace B := hidB (B.out.trans (hb.mono B.out.size))
  clear hb
  have HN := hidB (rfl : idxN q.k = idxN q.k)
  generalize hn : idxN q.k = n at *
  cases hi : (idxK q.k).isSome
  · have HI := hidB hi
    clear hi hn HN
    have z1 : Tryz.prog.eqGuardType Tryz.prog.depth 26 = false := by kernel_rfl
    have V1 : ∀ W : World, (Op.equalIn 10000 26 q.k.a lenK.a).run Tryz.prog W = .ok (KI.eq q.k lenK) W := fun W => equal_key 9998 q.k lenK W
    have HQ := hidB (show boxP s q = KI.eq q.k lenK by unfold boxP; rw [HI.out]; simp)
    generalize hke : KI.eq q.k lenK = ke at *
    clear hke
    go_upto_region 2 with fail
    refine wp_region_noPanic ?_
    refine wp_region_held_drew (S := fun W => Below w.heap.size w W ∧ Bk W w.heap.size 91 q.cs ∧ Bk W gs 9 #[.string s]) (by kernel_rfl) ?_ (fun hHeld => ?_)
    · exact ⟨B.out.drew, X.out.drew, GG.out.drew⟩
    generalize hWd : w2.drew = wd at *
    clear hWd
    first | (refine wpAnyH_take (i := 0) (v := undef) (by exact gE rfl) (by kernel_rfl) (by kernel_rfl) (by kernel_rfl) (fun _ _ _ h => h) (Or.inr ⟨?_, rfl⟩) (by assumption) ?_; (rfl); try simp only [Act.put, List.setIfInBounds_toArray, List.set_cons_zero, List.set_cons_succ]) | (refine wpAnyH_take (i := 0) (v := ?_) (by exact gE rfl) (by kernel_rfl) (by kernel_rfl) (by kernel_rfl) (fun _ _ _ h => h) (Or.inl ⟨?_, ?_⟩) (by assumption) ?_; rotate_left; (rfl); (focus (intro w hSw; (try dsimp only at hSw); go_simp; try with_reducible rfl)); try simp only [Act.put, List.setIfInBounds_toArray, List.set_cons_zero, List.set_cons_succ])
    first | (refine wpAnyH_take (i := 1) (v := undef) (by exact gE rfl) (by kernel_rfl) (by kernel_rfl) (by kernel_rfl) (fun _ _ _ h => h) (Or.inr ⟨?_, rfl⟩) (by assumption) ?_; (rfl); try simp only [Act.put, List.setIfInBounds_toArray, List.set_cons_zero, List.set_cons_succ]) | (refine wpAnyH_take (i := 1) (v := ?_) (by exact gE rfl) (by kernel_rfl) (by kernel_rfl) (by kernel_rfl) (fun _ _ _ h => h) (Or.inl ⟨?_, ?_⟩) (by assumption) ?_; rotate_left; (rfl); (focus (intro w hSw; (try dsimp only at hSw); go_simp; try with_reducible rfl)); try simp only [Act.put, List.setIfInBounds_toArray, List.set_cons_zero, List.set_cons_succ])
    (refine wpAnyH_take (i := 2) (v := undef) (by exact gE rfl) (by kernel_rfl) (by kernel_rfl) (by kernel_rfl) (fun _ _ _ h => h) (Or.inr ⟨?_, rfl⟩) (by assumption) ?_; (rfl); try simp only [Act.put, List.setIfInBounds_toArray, List.set_cons_zero, List.set_cons_succ])
    (refine wpAnyH_take (i := 3) (v := undef) (by exact gE rfl) (by kernel_rfl) (by kernel_rfl) (by kernel_rfl) (fun _ _ _ h => h) (Or.inr ⟨?_, rfl⟩) (by assumption) ?_; (rfl); try simp only [Act.put, List.setIfInBounds_toArray, List.set_cons_zero, List.set_cons_succ])
    (refine wpAnyH_take (i := 4) (v := undef) (by exact gE rfl) (by kernel_rfl) (by kernel_rfl) (by kernel_rfl) (fun _ _ _ h => h) (Or.inr ⟨?_, rfl⟩) (by assumption) ?_; (rfl); try simp only [Act.put, List.setIfInBounds_toArray, List.set_cons_zero, List.set_cons_succ])
    (refine wpAnyH_take (i := 5) (v := undef) (by exact gE rfl) (by kernel_rfl) (by kernel_rfl) (by kernel_rfl) (fun _ _ _ h => h) (Or.inr ⟨?_, rfl⟩) (by assumption) ?_; (rfl); try simp only [Act.put, List.setIfInBounds_toArray, List.set_cons_zero, List.set_cons_succ])
    first | (refine wpAnyH_take (i := 6) (v := undef) (by exact gE rfl) (by kernel_rfl) (by kernel_rfl) (by kernel_rfl) (fun _ _ _ h => h) (Or.inr ⟨?_, rfl⟩) (by assumption) ?_; (rfl); try simp only [Act.put, List.setIfInBounds_toArray, List.set_cons_zero, List.set_cons_succ]) | (refine wpAnyH_take (i := 6) (v := ?_) (by exact gE rfl) (by kernel_rfl) (by kernel_rfl) (by kernel_rfl) (fun _ _ _ h => h) (Or.inl ⟨?_, ?_⟩) (by assumption) ?_; rotate_left; (rfl); (focus (intro w hSw; (try dsimp only at hSw); go_simp; try with_reducible rfl)); try simp only [Act.put, List.setIfInBounds_toArray, List.set_cons_zero, List.set_cons_succ])
    first | (refine wpAnyH_take (i := 7) (v := undef) (by exact gE rfl) (by kernel_rfl) (by kernel_rfl) (by kernel_rfl) (fun _ _ _ h => h) (Or.inr ⟨?_, rfl⟩) (by assumption) ?_; (rfl); try simp only [Act.put, List.setIfInBounds_toArray, List.set_cons_zero, List.set_cons_succ]) | (refine wpAnyH_take (i := 7) (v := ?_) (by exact gE rfl) (by kernel_rfl) (by kernel_rfl) (by kernel_rfl) (fun _ _ _ h => h) (Or.inl ⟨?_, ?_⟩) (by assumption) ?_; rotate_left; (rfl); (focus (intro w hSw; (try dsimp only at hSw); go_simp; try with_reducible rfl)); try simp only [Act.put, List.setIfInBounds_toArray, List.set_cons_zero, List.set_cons_succ])
    first | (refine wpAnyH_take (i := 8) (v := undef) (by exact gE rfl) (by kernel_rfl) (by kernel_rfl) (by kernel_rfl) (fun _ _ _ h => h) (Or.inr ⟨?_, rfl⟩) (by assumption) ?_; (rfl); try simp only [Act.put, List.setIfInBounds_toArray, List.set_cons_zero, List.set_cons_succ]) | (refine wpAnyH_take (i := 8) (v := ?_) (by exact gE rfl) (by kernel_rfl) (by kernel_rfl) (by kernel_rfl) (fun _ _ _ h => h) (Or.inl ⟨?_, ?_⟩) (by assumption) ?_; rotate_left; (rfl); (focus (intro w hSw; (try dsimp only at hSw); go_simp; try with_reducible rfl)); try simp only [Act.put, List.setIfInBounds_toArray, List.set_cons_zero, List.set_cons_succ])
    (refine wpAnyH_take (i := 9) (v := q.k.a) (by exact gE rfl) (by kernel_rfl) (by kernel_rfl) (by kernel_rfl) (fun _ _ _ h => h) (yieldsIf_load_mid (by rfl) 26 (.tmp 20) (by rfl) (w.heap.size) (0) (by rfl) (q.k.cells) _ (fun W hS => Bk.mid hS.2.1 0 _ rfl) Tryz.underlying26 (by rfl) (by kernel_rfl)) (by assumption) ?_; try simp only [Act.put, List.setIfInBounds_toArray, List.set_cons_zero, List.set_cons_succ])
    refine wpAnyH_ready (rs := [10]) (by kernel_rfl) (by simp) ?_
    refine AllReadyH.cons rfl (fun K hK => ?_) AllReadyH.nil
    go_simp
    refine (keyOfH_any _).mono ?_; rintro e w3 ⟨rfl, hb⟩
    replace hHeld := And.intro (hHeld.1.trans (hb.mono hHeld.1.size)) (And.intro (hHeld.2.1.on hb) (hHeld.2.2.on hb))
    clear hb
    refine hK.out _ _ hHeld (fun _ => ?_)
    clear hK K
    try simp only [Act.put, List.setIfInBounds_toArray, List.set_cons_zero, List.set_cons_succ]
    first | (refine wpAnyH_take (i := 11) (v := undef) (by exact gE rfl) (by kernel_rfl) (by kernel_rfl) (by kernel_rfl) (fun _ _ _ h => h) (Or.inr ⟨?_, rfl⟩) (by assumption) ?_; (rfl); try simp only [Act.put, List.setIfInBounds_toArray, List.set_cons_zero, List.set_cons_succ]) | (refine wpAnyH_take (i := 11) (v := ?_) (by exact gE rfl) (by kernel_rfl) (by kernel_rfl) (by kernel_rfl) (fun _ _ _ h => h) (Or.inl ⟨?_, ?_⟩) (by assumption) ?_; rotate_left; (rfl); (focus (intro w hSw; (try dsimp only at hSw); go_simp; try with_reducible rfl)); try simp only [Act.put, List.setIfInBounds_toArray, List.set_cons_zero, List.set_cons_succ])
    first | (refine wpAnyH_take (i := 12) (v := undef) (by exact gE rfl) (by kernel_rfl) (by kernel_rfl) (by kernel_rfl) (fun _ _ _ h => h) (Or.inr ⟨?_, rfl⟩) (by assumption) ?_; (rfl); try simp only [Act.put, List.setIfInBounds_toArray, List.set_cons_zero, List.set_cons_succ]) | (refine wpAnyH_take (i := 12) (v := ?_) (by exact gE rfl) (by kernel_rfl) (by kernel_rfl) (by kernel_rfl) (fun _ _ _ h => h) (Or.inl ⟨?_, ?_⟩) (by assumption) ?_; rotate_left; (rfl); (focus (intro w hSw; (try dsimp only at hSw); go_simp; try with_reducible rfl)); try simp only [Act.put, List.setIfInBounds_toArray, List.set_cons_zero, List.set_cons_succ])
    first | (refine wpAnyH_take (i := 13) (v := undef) (by exact gE rfl) (by kernel_rfl) (by kernel_rfl) (by kernel_rfl) (fun _ _ _ h => h) (Or.inr ⟨?_, rfl⟩) (by assumption) ?_; (rfl); try simp only [Act.put, List.setIfInBounds_toArray, List.set_cons_zero, List.set_cons_succ]) | (refine wpAnyH_take (i := 13) (v := ?_) (by exact gE rfl) (by kernel_rfl) (by kernel_rfl) (by kernel_rfl) (fun _ _ _ h => h) (Or.inl ⟨?_, ?_⟩) (by assumption) ?_; rotate_left; (rfl); (focus (intro w hSw; (try dsimp only at hSw); go_simp; try with_reducible rfl)); try simp only [Act.put, List.setIfInBounds_toArray, List.set_cons_zero, List.set_cons_succ])
    refine wpAnyH_done (by kernel_rfl) ?_ _
    refine NoPanic.normal ?_
    go_wp2_with fail
    go_ret
    exact ⟨ret_bool (by rw [HQ.out]), hHeld.1⟩
  have HI := hidB hi
  have HNN := hidB hn
  clear hi hn HN
  by_cases hlt : n < (s.size : Int)
  rotate_left
  · have HL := hidB (show decide (n < (s.size : Int)) = false from decide_eq_false hlt)
    have z1 : Tryz.prog.eqGuardType Tryz.prog.depth 26 = false := by kernel_rfl
    have V1 : ∀ W : World, (Op.equalIn 10000 26 q.k.a lenK.a).run Tryz.prog W = .ok (KI.eq q.k lenK) W := fun W => equal_key 9998 q.k lenK W
    have HQ := hidB (show boxP s q = KI.eq q.k lenK by unfold boxP; rw [HI.out, HNN.out, HL.out]; simp)
    generalize hke : KI.eq q.k lenK = ke at *
    clear hke
    go_upto_region 2 with fail
    refine wp_region_noPanic ?_
    refine wp_region_held_drew (S := fun W => Below w.heap.size w W ∧ Bk W w.heap.size 91 q.cs ∧ Bk W gs 9 #[.string s]) (by kernel_rfl) ?_ (fun hHeld => ?_)
    · exact ⟨B.out.drew, X.out.drew, GG.out.drew⟩
    generalize hWd : w2.drew = wd at *
    clear hWd
    first | (refine wpAnyH_take (i := 0) (v := undef) (by exact gE rfl) (by kernel_rfl) (by kernel_rfl) (by kernel_rfl) (fun _ _ _ h => h) (Or.inr ⟨?_, rfl⟩) (by assumption) ?_; (rfl); try simp only [Act.put, List.setIfInBounds_toArray, List.set_cons_zero, List.set_cons_succ]) | (refine wpAnyH_take (i := 0) (v := ?_) (by exact gE rfl) (by kernel_rfl) (by kernel_rfl) (by kernel_rfl) (fun _ _ _ h => h) (Or.inl ⟨?_, ?_⟩) (by assumption) ?_; rotate_left; (rfl); (focus (intro w hSw; (try dsimp only at hSw); go_simp; try with_reducible rfl)); try simp only [Act.put, List.setIfInBounds_toArray, List.set_cons_zero, List.set_cons_succ])
    first | (refine wpAnyH_take (i := 1) (v := undef) (by exact gE rfl) (by kernel_rfl) (by kernel_rfl) (by kernel_rfl) (fun _ _ _ h => h) (Or.inr ⟨?_, rfl⟩) (by assumption) ?_; (rfl); try simp only [Act.put, List.setIfInBounds_toArray, List.set_cons_zero, List.set_cons_succ]) | (refine wpAnyH_take (i := 1) (v := ?_) (by exact gE rfl) (by kernel_rfl) (by kernel_rfl) (by kernel_rfl) (fun _ _ _ h => h) (Or.inl ⟨?_, ?_⟩) (by assumption) ?_; rotate_left; (rfl); (focus (intro w hSw; (try dsimp only at hSw); go_simp; try with_reducible rfl)); try simp only [Act.put, List.setIfInBounds_toArray, List.set_cons_zero, List.set_cons_succ])
    first | (refine wpAnyH_take (i := 2) (v := undef) (by exact gE rfl) (by kernel_rfl) (by kernel_rfl) (by kernel_rfl) (fun _ _ _ h => h) (Or.inr ⟨?_, rfl⟩) (by assumption) ?_; (rfl); try simp only [Act.put, List.setIfInBounds_toArray, List.set_cons_zero, List.set_cons_succ]) | (refine wpAnyH_take (i := 2) (v := ?_) (by exact gE rfl) (by kernel_rfl) (by kernel_rfl) (by kernel_rfl) (fun _ _ _ h => h) (Or.inl ⟨?_, ?_⟩) (by assumption) ?_; rotate_left; (rfl); (focus (intro w hSw; (try dsimp only at hSw); go_simp; try with_reducible rfl)); try simp only [Act.put, List.setIfInBounds_toArray, List.set_cons_zero, List.set_cons_succ])
    first | (refine wpAnyH_take (i := 3) (v := undef) (by exact gE rfl) (by kernel_rfl) (by kernel_rfl) (by kernel_rfl) (fun _ _ _ h => h) (Or.inr ⟨?_, rfl⟩) (by assumption) ?_; (rfl); try simp only [Act.put, List.setIfInBounds_toArray, List.set_cons_zero, List.set_cons_succ]) | (refine wpAnyH_take (i := 3) (v := ?_) (by exact gE rfl) (by kernel_rfl) (by kernel_rfl) (by kernel_rfl) (fun _ _ _ h => h) (Or.inl ⟨?_, ?_⟩) (by assumption) ?_; rotate_left; (rfl); (focus (intro W hSw; have hc0 := (show W.cell? ⟨gs, 0, none⟩ = some (.string s) from hSw.2.2.cell 0); clear hSw; go_simp; try with_reducible rfl)); try simp only [Act.put, List.setIfInBounds_toArray, List.set_cons_zero, List.set_cons_succ])
    first | (refine wpAnyH_take (i := 4) (v := undef) (by exact gE rfl) (by kernel_rfl) (by kernel_rfl) (by kernel_rfl) (fun _ _ _ h => h) (Or.inr ⟨?_, rfl⟩) (by assumption) ?_; (rfl); try simp only [Act.put, List.setIfInBounds_toArray, List.set_cons_zero, List.set_cons_succ]) | (refine wpAnyH_take (i := 4) (v := ?_) (by exact gE rfl) (by kernel_rfl) (by kernel_rfl) (by kernel_rfl) (fun _ _ _ h => h) (Or.inl ⟨?_, ?_⟩) (by assumption) ?_; rotate_left; (rfl); (focus (intro w hSw; (try dsimp only at hSw); go_simp; try with_reducible rfl)); try simp only [Act.put, List.setIfInBounds_toArray, List.set_cons_zero, List.set_cons_succ])
    first | (refine wpAnyH_take (i := 5) (v := undef) (by exact gE rfl) (by kernel_rfl) (by kernel_rfl) (by kernel_rfl) (fun _ _ _ h => h) (Or.inr ⟨?_, rfl⟩) (by assumption) ?_; (rfl); try simp only [Act.put, List.setIfInBounds_toArray, List.set_cons_zero, List.set_cons_succ]) | (refine wpAnyH_take (i := 5) (v := ?_) (by exact gE rfl) (by kernel_rfl) (by kernel_rfl) (by kernel_rfl) (fun _ _ _ h => h) (Or.inl ⟨?_, ?_⟩) (by assumption) ?_; rotate_left; (rfl); (focus (intro W hSw; have hc0 := HL.out; clear hSw; go_simp; try with_reducible rfl)); try simp only [Act.put, List.setIfInBounds_toArray, List.set_cons_zero, List.set_cons_succ])
    first | (refine wpAnyH_take (i := 6) (v := undef) (by exact gE rfl) (by kernel_rfl) (by kernel_rfl) (by kernel_rfl) (fun _ _ _ h => h) (Or.inr ⟨?_, rfl⟩) (by assumption) ?_; (rfl); try simp only [Act.put, List.setIfInBounds_toArray, List.set_cons_zero, List.set_cons_succ]) | (refine wpAnyH_take (i := 6) (v := ?_) (by exact gE rfl) (by kernel_rfl) (by kernel_rfl) (by kernel_rfl) (fun _ _ _ h => h) (Or.inl ⟨?_, ?_⟩) (by assumption) ?_; rotate_left; (rfl); (focus (intro w hSw; (try dsimp only at hSw); go_simp; try with_reducible rfl)); try simp only [Act.put, List.setIfInBounds_toArray, List.set_cons_zero, List.set_cons_succ])
    first | (refine wpAnyH_take (i := 7) (v := undef) (by exact gE rfl) (by kernel_rfl) (by kernel_rfl) (by kernel_rfl) (fun _ _ _ h => h) (Or.inr ⟨?_, rfl⟩) (by assumption) ?_; (rfl); try simp only [Act.put, List.setIfInBounds_toArray, List.set_cons_zero, List.set_cons_succ]) | (refine wpAnyH_take (i := 7) (v := ?_) (by exact gE rfl) (by kernel_rfl) (by kernel_rfl) (by kernel_rfl) (fun _ _ _ h => h) (Or.inl ⟨?_, ?_⟩) (by assumption) ?_; rotate_left; (rfl); (focus (intro w hSw; (try dsimp only at hSw); go_simp; try with_reducible rfl)); try simp only [Act.put, List.setIfInBounds_toArray, List.set_cons_zero, List.set_cons_succ])
    first | (refine wpAnyH_take (i := 8) (v := undef) (by exact gE rfl) (by kernel_rfl) (by kernel_rfl) (by kernel_rfl) (fun _ _ _ h => h) (Or.inr ⟨?_, rfl⟩) (by assumption) ?_; (rfl); try simp only [Act.put, List.setIfInBounds_toArray, List.set_cons_zero, List.set_cons_succ]) | (refine wpAnyH_take (i := 8) (v := ?_) (by exact gE rfl) (by kernel_rfl) (by kernel_rfl) (by kernel_rfl) (fun _ _ _ h => h) (Or.inl ⟨?_, ?_⟩) (by assumption) ?_; rotate_left; (rfl); (focus (intro w hSw; (try dsimp only at hSw); go_simp; try with_reducible rfl)); try simp only [Act.put, List.setIfInBounds_toArray, List.set_cons_zero, List.set_cons_succ])
    (refine wpAnyH_take (i := 9) (v := q.k.a) (by exact gE rfl) (by kernel_rfl) (by kernel_rfl) (by kernel_rfl) (fun _ _ _ h => h) (yieldsIf_load_mid (by rfl) 26 (.tmp 20) (by rfl) (w.heap.size) (0) (by rfl) (q.k.cells) _ (fun W hS => Bk.mid hS.2.1 0 _ rfl) Tryz.underlying26 (by rfl) (by kernel_rfl)) (by assumption) ?_; try simp only [Act.put, List.setIfInBounds_toArray, List.set_cons_zero, List.set_cons_succ])
    refine wpAnyH_ready (rs := [10]) (by kernel_rfl) (by simp) ?_
    refine AllReadyH.cons rfl (fun K hK => ?_) AllReadyH.nil
    go_simp
    refine (keyOfH_any _).mono ?_; rintro e w3 ⟨rfl, hb⟩
    replace hHeld := And.intro (hHeld.1.trans (hb.mono hHeld.1.size)) (And.intro (hHeld.2.1.on hb) (hHeld.2.2.on hb))
    clear hb
    refine hK.out _ _ hHeld (fun _ => ?_)
    clear hK K
    try simp only [Act.put, List.setIfInBounds_toArray, List.set_cons_zero, List.set_cons_succ]
    first | (refine wpAnyH_take (i := 11) (v := undef) (by exact gE rfl) (by kernel_rfl) (by kernel_rfl) (by kernel_rfl) (fun _ _ _ h => h) (Or.inr ⟨?_, rfl⟩) (by assumption) ?_; (rfl); try simp only [Act.put, List.setIfInBounds_toArray, List.set_cons_zero, List.set_cons_succ]) | (refine wpAnyH_take (i := 11) (v := ?_) (by exact gE rfl) (by kernel_rfl) (by kernel_rfl) (by kernel_rfl) (fun _ _ _ h => h) (Or.inl ⟨?_, ?_⟩) (by assumption) ?_; rotate_left; (rfl); (focus (intro w hSw; (try dsimp only at hSw); go_simp; try with_reducible rfl)); try simp only [Act.put, List.setIfInBounds_toArray, List.set_cons_zero, List.set_cons_succ])
    first | (refine wpAnyH_take (i := 12) (v := undef) (by exact gE rfl) (by kernel_rfl) (by kernel_rfl) (by kernel_rfl) (fun _ _ _ h => h) (Or.inr ⟨?_, rfl⟩) (by assumption) ?_; (rfl); try simp only [Act.put, List.setIfInBounds_toArray, List.set_cons_zero, List.set_cons_succ]) | (refine wpAnyH_take (i := 12) (v := ?_) (by exact gE rfl) (by kernel_rfl) (by kernel_rfl) (by kernel_rfl) (fun _ _ _ h => h) (Or.inl ⟨?_, ?_⟩) (by assumption) ?_; rotate_left; (rfl); (focus (intro w hSw; (try dsimp only at hSw); go_simp; try with_reducible rfl)); try simp only [Act.put, List.setIfInBounds_toArray, List.set_cons_zero, List.set_cons_succ])
    first | (refine wpAnyH_take (i := 13) (v := undef) (by exact gE rfl) (by kernel_rfl) (by kernel_rfl) (by kernel_rfl) (fun _ _ _ h => h) (Or.inr ⟨?_, rfl⟩) (by assumption) ?_; (rfl); try simp only [Act.put, List.setIfInBounds_toArray, List.set_cons_zero, List.set_cons_succ]) | (refine wpAnyH_take (i := 13) (v := ?_) (by exact gE rfl) (by kernel_rfl) (by kernel_rfl) (by kernel_rfl) (fun _ _ _ h => h) (Or.inl ⟨?_, ?_⟩) (by assumption) ?_; rotate_left; (rfl); (focus (intro w hSw; (try dsimp only at hSw); go_simp; try with_reducible rfl)); try simp only [Act.put, List.setIfInBounds_toArray, List.set_cons_zero, List.set_cons_succ])
    refine wpAnyH_done (by kernel_rfl) ?_ _
    refine NoPanic.normal ?_
    go_wp2_with fail
    go_ret
    exact ⟨ret_bool (by rw [HQ.out]), hHeld.1⟩
  have HL := hidB (show decide (n < (s.size : Int)) = true from decide_eq_true hlt)
  have HQ := hidB (show boxP s q = true by unfold boxP; rw [HI.out, HNN.out, HL.out]; rfl)
  go_upto_region 2 with fail
  refine wp_region_noPanic ?_
  refine wp_region_held_drew (S := fun W => Below w.heap.size w W ∧ Bk W w.heap.size 91 q.cs ∧ Bk W gs 9 #[.string s]) (by kernel_rfl) ?_ (fun hHeld => ?_)
  · exact ⟨B.out.drew, X.out.drew, GG.out.drew⟩
  generalize hWd : w2.drew = wd at *
  clear hWd
  first | (refine wpAnyH_take (i := 0) (v := undef) (by exact gE rfl) (by kernel_rfl) (by kernel_rfl) (by kernel_rfl) (fun _ _ _ h => h) (Or.inr ⟨?_, rfl⟩) (by assumption) ?_; (rfl); try simp only [Act.put, List.setIfInBounds_toArray, List.set_cons_zero, List.set_cons_succ]) | (refine wpAnyH_take (i := 0) (v := ?_) (by exact gE rfl) (by kernel_rfl) (by kernel_rfl) (by kernel_rfl) (fun _ _ _ h => h) (Or.inl ⟨?_, ?_⟩) (by assumption) ?_; rotate_left; (rfl); (focus (intro w hSw; (try dsimp only at hSw); go_simp; try with_reducible rfl)); try simp only [Act.put, List.setIfInBounds_toArray, List.set_cons_zero, List.set_cons_succ])
  first | (refine wpAnyH_take (i := 1) (v := undef) (by exact gE rfl) (by kernel_rfl) (by kernel_rfl) (by kernel_rfl) (fun _ _ _ h => h) (Or.inr ⟨?_, rfl⟩) (by assumption) ?_; (rfl); try simp only [Act.put, List.setIfInBounds_toArray, List.set_cons_zero, List.set_cons_succ]) | (refine wpAnyH_take (i := 1) (v := ?_) (by exact gE rfl) (by kernel_rfl) (by kernel_rfl) (by kernel_rfl) (fun _ _ _ h => h) (Or.inl ⟨?_, ?_⟩) (by assumption) ?_; rotate_left; (rfl); (focus (intro w hSw; (try dsimp only at hSw); go_simp; try with_reducible rfl)); try simp only [Act.put, List.setIfInBounds_toArray, List.set_cons_zero, List.set_cons_succ])
  first | (refine wpAnyH_take (i := 2) (v := undef) (by exact gE rfl) (by kernel_rfl) (by kernel_rfl) (by kernel_rfl) (fun _ _ _ h => h) (Or.inr ⟨?_, rfl⟩) (by assumption) ?_; (rfl); try simp only [Act.put, List.setIfInBounds_toArray, List.set_cons_zero, List.set_cons_succ]) | (refine wpAnyH_take (i := 2) (v := ?_) (by exact gE rfl) (by kernel_rfl) (by kernel_rfl) (by kernel_rfl) (fun _ _ _ h => h) (Or.inl ⟨?_, ?_⟩) (by assumption) ?_; rotate_left; (rfl); (focus (intro w hSw; (try dsimp only at hSw); go_simp; try with_reducible rfl)); try simp only [Act.put, List.setIfInBounds_toArray, List.set_cons_zero, List.set_cons_succ])
  first | (refine wpAnyH_take (i := 3) (v := undef) (by exact gE rfl) (by kernel_rfl) (by kernel_rfl) (by kernel_rfl) (fun _ _ _ h => h) (Or.inr ⟨?_, rfl⟩) (by assumption) ?_; (rfl); try simp only [Act.put, List.setIfInBounds_toArray, List.set_cons_zero, List.set_cons_succ]) | (refine wpAnyH_take (i := 3) (v := ?_) (by exact gE rfl) (by kernel_rfl) (by kernel_rfl) (by kernel_rfl) (fun _ _ _ h => h) (Or.inl ⟨?_, ?_⟩) (by assumption) ?_; rotate_left; (rfl); (focus (intro W hSw; have hc0 := (show W.cell? ⟨gs, 0, none⟩ = some (.string s) from hSw.2.2.cell 0); clear hSw; go_simp; try with_reducible rfl)); try simp only [Act.put, List.setIfInBounds_toArray, List.set_cons_zero, List.set_cons_succ])
  first | (refine wpAnyH_take (i := 4) (v := undef) (by exact gE rfl) (by kernel_rfl) (by kernel_rfl) (by kernel_rfl) (fun _ _ _ h => h) (Or.inr ⟨?_, rfl⟩) (by assumption) ?_; (rfl); try simp only [Act.put, List.setIfInBounds_toArray, List.set_cons_zero, List.set_cons_succ]) | (refine wpAnyH_take (i := 4) (v := ?_) (by exact gE rfl) (by kernel_rfl) (by kernel_rfl) (by kernel_rfl) (fun _ _ _ h => h) (Or.inl ⟨?_, ?_⟩) (by assumption) ?_; rotate_left; (rfl); (focus (intro w hSw; (try dsimp only at hSw); go_simp; try with_reducible rfl)); try simp only [Act.put, List.setIfInBounds_toArray, List.set_cons_zero, List.set_cons_succ])
  first | (refine wpAnyH_take (i := 5) (v := undef) (by exact gE rfl) (by kernel_rfl) (by kernel_rfl) (by kernel_rfl) (fun _ _ _ h => h) (Or.inr ⟨?_, rfl⟩) (by assumption) ?_; (rfl); try simp only [Act.put, List.setIfInBounds_toArray, List.set_cons_zero, List.set_cons_succ]) | (refine wpAnyH_take (i := 5) (v := ?_) (by exact gE rfl) (by kernel_rfl) (by kernel_rfl) (by kernel_rfl) (fun _ _ _ h => h) (Or.inl ⟨?_, ?_⟩) (by assumption) ?_; rotate_left; (rfl); (focus (intro W hSw; have hc0 := HL.out; clear hSw; go_simp; try with_reducible rfl)); try simp only [Act.put, List.setIfInBounds_toArray, List.set_cons_zero, List.set_cons_succ])
  first | (refine wpAnyH_take (i := 6) (v := undef) (by exact gE rfl) (by kernel_rfl) (by kernel_rfl) (by kernel_rfl) (fun _ _ _ h => h) (Or.inr ⟨?_, rfl⟩) (by assumption) ?_; (rfl); try simp only [Act.put, List.setIfInBounds_toArray, List.set_cons_zero, List.set_cons_succ]) | (refine wpAnyH_take (i := 6) (v := ?_) (by exact gE rfl) (by kernel_rfl) (by kernel_rfl) (by kernel_rfl) (fun _ _ _ h => h) (Or.inl ⟨?_, ?_⟩) (by assumption) ?_; rotate_left; (rfl); (focus (intro w hSw; (try dsimp only at hSw); go_simp; try with_reducible rfl)); try simp only [Act.put, List.setIfInBounds_toArray, List.set_cons_zero, List.set_cons_succ])
  first | (refine wpAnyH_take (i := 7) (v := undef) (by exact gE rfl) (by kernel_rfl) (by kernel_rfl) (by kernel_rfl) (fun _ _ _ h => h) (Or.inr ⟨?_, rfl⟩) (by assumption) ?_; (rfl); try simp only [Act.put, List.setIfInBounds_toArray, List.set_cons_zero, List.set_cons_succ]) | (refine wpAnyH_take (i := 7) (v := ?_) (by exact gE rfl) (by kernel_rfl) (by kernel_rfl) (by kernel_rfl) (fun _ _ _ h => h) (Or.inl ⟨?_, ?_⟩) (by assumption) ?_; rotate_left; (rfl); (focus (intro w hSw; (try dsimp only at hSw); go_simp; try with_reducible rfl)); try simp only [Act.put, List.setIfInBounds_toArray, List.set_cons_zero, List.set_cons_succ])
  (refine wpAnyH_take (i := 8) (v := undef) (by exact gE rfl) (by kernel_rfl) (by kernel_rfl) (by kernel_rfl) (fun _ _ _ h => h) (Or.inr ⟨?_, rfl⟩) (by assumption) ?_; (rfl); try simp only [Act.put, List.setIfInBounds_toArray, List.set_cons_zero, List.set_cons_succ])
  (refine wpAnyH_take (i := 9) (v := undef) (by exact gE rfl) (by kernel_rfl) (by kernel_rfl) (by kernel_rfl) (fun _ _ _ h => h) (Or.inr ⟨?_, rfl⟩) (by assumption) ?_; (rfl); try simp only [Act.put, List.setIfInBounds_toArray, List.set_cons_zero, List.set_cons_succ])
  (refine wpAnyH_take (i := 10) (v := undef) (by exact gE rfl) (by kernel_rfl) (by kernel_rfl) (by kernel_rfl) (fun _ _ _ h => h) (Or.inr ⟨?_, rfl⟩) (by assumption) ?_; (rfl); try simp only [Act.put, List.setIfInBounds_toArray, List.set_cons_zero, List.set_cons_succ])
  (refine wpAnyH_take (i := 11) (v := undef) (by exact gE rfl) (by kernel_rfl) (by kernel_rfl) (by kernel_rfl) (fun _ _ _ h => h) (Or.inr ⟨?_, rfl⟩) (by assumption) ?_; (rfl); try simp only [Act.put, List.setIfInBounds_toArray, List.set_cons_zero, List.set_cons_succ])
  first | (refine wpAnyH_take (i := 12) (v := undef) (by exact gE rfl) (by kernel_rfl) (by kernel_rfl) (by kernel_rfl) (fun _ _ _ h => h) (Or.inr ⟨?_, rfl⟩) (by assumption) ?_; (rfl); try simp only [Act.put, List.setIfInBounds_toArray, List.set_cons_zero, List.set_cons_succ]) | (refine wpAnyH_take (i := 12) (v := ?_) (by exact gE rfl) (by kernel_rfl) (by kernel_rfl) (by kernel_rfl) (fun _ _ _ h => h) (Or.inl ⟨?_, ?_⟩) (by assumption) ?_; rotate_left; (rfl); (focus (intro w hSw; (try dsimp only at hSw); go_simp; try with_reducible rfl)); try simp only [Act.put, List.setIfInBounds_toArray, List.set_cons_zero, List.set_cons_succ])
  first | (refine wpAnyH_take (i := 13) (v := undef) (by exact gE rfl) (by kernel_rfl) (by kernel_rfl) (by kernel_rfl) (fun _ _ _ h => h) (Or.inr ⟨?_, rfl⟩) (by assumption) ?_; (rfl); try simp only [Act.put, List.setIfInBounds_toArray, List.set_cons_zero, List.set_cons_succ]) | (refine wpAnyH_take (i := 13) (v := ?_) (by exact gE rfl) (by kernel_rfl) (by kernel_rfl) (by kernel_rfl) (fun _ _ _ h => h) (Or.inl ⟨?_, ?_⟩) (by assumption) ?_; rotate_left; (rfl); (focus (intro w hSw; (try dsimp only at hSw); go_simp; try with_reducible rfl)); try simp only [Act.put, List.setIfInBounds_toArray, List.set_cons_zero, List.set_cons_succ])
  refine wpAnyH_done (by kernel_rfl) ?_ _
  refine NoPanic.normal ?_
  go_wp2_with fail
  go_ret
  exact ⟨ret_bool (by rw [HQ.out]), hHeld.1⟩
/-- What an array of a length may not have. -/
def arrP (m : Int) (q : PI) : Bool := (idxK q.k).isSome && decide (m ≤ idxN q.k)
set_option maxHeartbeats 8000000 in
set_option maxRecDepth 100000 in
theorem array1_any (x : Nat) (m : Int) (hc : ∀ W : World, (convert 27 3 (.float .f64 x)).run Tryz.prog W = .ok (.int .i64 m) W) (q : PI) (hs : q.k.s.size ≤ maxLen) (gs : Nat) (w : World) (hg : Bk w gs 27 #[.float .f64 x]) : Calls Tryz.prog 99 #[q.a, .pointer (some ⟨gs, 0, none⟩)] w fun e w' => e = .returned (.bool (arrP m q)) ∧ Below w.heap.size w w' := by
  have KA := hidB (fun W => index_any q.k hs W)
  have GG := hidB (hg.on (box_one w (.cells q.cs 91)))
  have X := hidB (show Bk (w.alloc (.cells (q.cs) 91)) (w.heap.size) 91 (q.cs) from Bk.new w _ _)
  have B := hidB (show Below w.heap.size w (w.alloc (.cells (q.cs) 91)) from box_one w _)
  clear hg hs
  go_enter Tryz.func99, Tryz.ntmps99
  go_upto_region 1 with fail
  generalize hW : (w.alloc (.cells (q.cs) 91)) = w1 at *
  clear hW
  go_wp2_with (first | ((with_reducible refine ldId 26 (.tmp 7) ?_); refine wpList_load_mid (by rfl) 26 (.tmp 7) (by rfl) (w.heap.size) 0 (by rfl) (q.k.cells) _ (by exact Bk.mid X.out 0 _ rfl) Tryz.underlying26 (by rfl) (by kernel_rfl) ?_))
  refine (KA.out _).mono ?_; rintro e w2 ⟨rfl, hb⟩
  replace X := hidB (X.out.on hb)
  replace GG := hidB (GG.out.on hb)
  replace B := hidB (B.out.trans (hb.mono B.out.size))
  clear hb
  generalize hn : idxN q.k = n at *
  have y0 : w2.cell? ⟨gs, 0, none⟩ = some (.float .f64 x) := GG.out.cell 0
  cases hi : (idxK q.k).isSome
  · have HQ := hidB (show arrP m q = false by unfold arrP; rw [hi]; rfl)
    clear hi hn
    go_wp2_with fail
    go_ret
    exact ⟨ret_bool (by rw [HQ.out]), B.out⟩
  by_cases hlt : m ≤ n
  · have HQ := hidB (show arrP m q = true by unfold arrP; rw [hi, hn, decide_eq_true hlt]; rfl)
    clear hi hn
    go_wp2_with fail
    go_ret
    exact ⟨ret_bool (by rw [HQ.out]), B.out⟩
  · have HQ := hidB (show arrP m q = false by unfold arrP; rw [hi, hn, decide_eq_false hlt]; rfl)
    clear hi hn
    go_wp2_with fail
    go_ret
    exact ⟨ret_bool (by first | (rw [HQ.out]; done) | (rw [HQ.out]; exact decide_eq_false (by omega))), B.out⟩

theorem boxed1_pick (s : ByteArray) (l : List PI) (hl : ∀ q ∈ l, q.k.s.size ≤ maxLen) (gs : Nat) (w : World) (hg : Bk w gs 9 #[.string s]) : Pick 101 #[.pointer (some ⟨gs, 0, none⟩)] (boxP s) l w where
  body := fun args w => by kernel_rfl
  run := fun q hq W hb => boxed1_any s q (hl q hq) gs W (hg.on hb)
theorem array1_pick (x : Nat) (m : Int) (hc : ∀ W : World, (convert 27 3 (.float .f64 x)).run Tryz.prog W = .ok (.int .i64 m) W) (l : List PI) (hl : ∀ q ∈ l, q.k.s.size ≤ maxLen) (gs : Nat) (w : World) (hg : Bk w gs 27 #[.float .f64 x]) : Pick 99 #[.pointer (some ⟨gs, 0, none⟩)] (arrP m) l w where
  body := fun args w => by kernel_rfl
  run := fun q hq W hb => array1_any x m hc q (hl q hq) gs W (hg.on hb)
/-- May a string object's properties be? -/
def boxB (l : List PI) (s : ByteArray) : Bool := decide (s.size ≤ 4096) && !l.any (boxP s)
set_option maxHeartbeats 8000000 in
set_option maxRecDepth 100000 in
theorem boxed_any (l : List PI) (hl : ∀ q ∈ l, q.k.s.size ≤ maxLen) (s : ByteArray) (v : Value) (w : World) (hr : RdP l v w) : Calls Tryz.prog 70 #[v, .string s] w fun e w' => e = .returned (.bool (boxB l s)) ∧ Below w.heap.size w w' := by
  have X := hidB (Bk.new w 9 #[.string s])
  have B := hidB (box_one w (.cells #[.string s] 9))
  have CP := hidB (containsP_any _ _ (boxP s) l v _ (hr.on (box_one w (.cells #[.string s] 9))) (boxed1_pick s l hl w.heap.size _ (Bk.new w 9 #[.string s])))
  clear hr hl
  go_enter Tryz.func70, Tryz.ntmps70
  go_upto_region 1 with fail
  generalize hW : (w.alloc (.cells #[.string s] 9)) = w1 at *
  clear hW
  have y0 : w1.cell? ⟨w.heap.size, 0, none⟩ = some (.string s) := X.out.cell 0
  by_cases h4 : (s.size : Int) ≤ 4096
  · have HQ := hidB (show boxB l s = !l.any (boxP s) by unfold boxB; rw [decide_eq_true (by omega)]; rfl)
    generalize hla : l.any (boxP s) = la at *
    clear hla
    go_wp2_with fail
    refine CP.out.mono ?_; rintro e w2 ⟨rfl, hb⟩
    replace B := hidB (B.out.trans (hb.mono B.out.size))
    clear hb CP
    go_wp2_with fail
    go_ret
    exact ⟨ret_bool (by rw [HQ.out]), B.out⟩
  · have HQ := hidB (show boxB l s = false by unfold boxB; rw [decide_eq_false (by omega)]; rfl)
    clear CP
    go_wp2_with fail
    go_ret
    exact ⟨ret_bool (by first | (rw [HQ.out]; done) | (rw [HQ.out]; exact decide_eq_false (by omega))), B.out⟩
theorem range_left {W : World} {g o : Nat} {a b : List Value} (h : W.rangeAt g o (a ++ b)) : W.rangeAt g o a := fun j u hu => h j u (by rw [List.getElem?_append_left (List.getElem?_eq_some_iff.1 hu).1]; exact hu)
theorem range_right {W : World} {g o : Nat} {a b : List Value} (h : W.rangeAt g o (a ++ b)) : W.rangeAt g (o + a.length) b := fun j u hu => by
  have := h (a.length + j) u (by rw [List.getElem?_append_right (by omega)]; simpa using hu)
  rwa [← Nat.add_assoc] at this
/-- Is it the length of an array? -/
def ge0 (x : Nat) : Bool := FloatKind.f64.format.order x 0 == some .gt || FloatKind.f64.format.order x 0 == some .eq
def leM (x : Nat) : Bool := FloatKind.f64.format.order x 4652218415073722368 == some .lt || FloatKind.f64.format.order x 4652218415073722368 == some .eq
def lenOk (d : DI) : Bool := (bits .and .u8 d.has 3 != 0) && (!d.en && (!d.cf && ((d.v.k == 3) && (ge0 d.v.x && leM d.v.x))))
/-- May an array's properties be? -/
def arrB (l : List PI) : Bool := match l with
  | [] => false
  | q :: _ => KI.eq q.k lenK && (lenOk q.d && !l.any (arrP (Fl.tr q.d.v.x)))
theorem arrB_at {l : List PI} (h : 0 < l.length) : arrB l = (KI.eq l[0].k lenK && (lenOk l[0].d && !l.any (arrP (Fl.tr l[0].d.v.x)))) := by
  cases l with
  | nil => cases h
  | cons q r => rfl

theorem conv_len {x : Nat} (h1 : ge0 x = true) (h2 : leM x = true) (W : World) : (convert 27 3 (.float .f64 x)).run Tryz.prog W = .ok (.int .i64 (Fl.tr x)) W := by
  unfold ge0 at h1
  unfold leM at h2
  rcases Fl.kinds x with hf | hi | hn
  · rw [Fl.gt_fin hf Fl.fin_0, Fl.eq_fin hf Fl.fin_0, Fl.sc_0, Bool.or_eq_true, decide_eq_true_eq, decide_eq_true_eq] at h1
    rw [Fl.lt_fin hf Fl.is_1024.1, Fl.eq_fin hf Fl.is_1024.1, Fl.is_1024.2.1, Bool.or_eq_true, decide_eq_true_eq, decide_eq_true_eq] at h2
    have hK : 0 < (Fl.K : Int) := by have : 0 < Fl.K := Nat.pow_pos (by decide); omega
    obtain ⟨b1, b2⟩ := Fl.tr_bounds (b := x) (by unfold Fl.safe; omega) (by unfold Fl.safe; omega)
    exact run_convert_float_int (P := Tryz.prog) W 27 3 .f64 .i64 x (Fl.tr x) (by rw [Tryz.underlying27]; rfl) Tryz.underlying3 (Fl.toI64 hf b1 b2)
  · rw [Fl.order_inf_fin hi Fl.fin_0] at h1
    rw [Fl.order_inf_fin hi Fl.is_1024.1] at h2
    cases hs : Fl.sg x <;> rw [hs] at h1 h2 <;> first | (cases h1; done) | (cases h2; done)
  · rw [show FloatKind.f64.format.order x 0 = none from Fl.order_nan_left hn] at h1
    cases h1

set_option maxHeartbeats 8000000 in
set_option maxRecDepth 100000 in
theorem array_any (l : List PI) (hl : ∀ q ∈ l, q.k.s.size ≤ maxLen) (v : Value) (w : World) (hr : RdP l v w) : Calls Tryz.prog 69 #[v] w fun e w' => e = .returned (.bool (arrB l)) ∧ Below w.heap.size w w' := by
  have HRP := hidB hr
  obtain ⟨pa, c, rfl, h1, h2, h3⟩ := hr
  unfold maxLen at h2
  have hlm : l.length ≤ 9223372036854775807 := by omega
  go_enter Tryz.func69, Tryz.ntmps69
  go_upto_region 1 with fail
  by_cases h0 : l.length = 0
  · have HL0 := hidB (show ((l.length : Int) == 0) = true by rw [h0]; rfl)
    have HQ := hidB (show arrB l = false by cases l with | nil => rfl | cons _ _ => cases h0)
    clear h3 h0
    refine wp_region_noPanic ?_
    refine wp_region_held_drew (S := fun W => Below w.heap.size w W) (by kernel_rfl) ?_ (fun hHeld => ?_)
    · exact (Below.refl _ _).drew
    generalize hWd : w.drew = wd at *
    clear hWd
    first | (refine wpAnyH_take (i := 0) (v := undef) (by exact gE rfl) (by kernel_rfl) (by kernel_rfl) (by kernel_rfl) (fun _ _ _ h => h) (Or.inr ⟨?_, rfl⟩) (by assumption) ?_; (rfl); try simp only [Act.put, List.setIfInBounds_toArray, List.set_cons_zero, List.set_cons_succ]) | (refine wpAnyH_take (i := 0) (v := ?_) (by exact gE rfl) (by kernel_rfl) (by kernel_rfl) (by kernel_rfl) (fun _ _ _ h => h) (Or.inl ⟨?_, ?_⟩) (by assumption) ?_; rotate_left; (rfl); (focus (intro w hSw; (try dsimp only at hSw); go_simp; try with_reducible rfl)); try simp only [Act.put, List.setIfInBounds_toArray, List.set_cons_zero, List.set_cons_succ])
    first | (refine wpAnyH_take (i := 1) (v := undef) (by exact gE rfl) (by kernel_rfl) (by kernel_rfl) (by kernel_rfl) (fun _ _ _ h => h) (Or.inr ⟨?_, rfl⟩) (by assumption) ?_; (rfl); try simp only [Act.put, List.setIfInBounds_toArray, List.set_cons_zero, List.set_cons_succ]) | (refine wpAnyH_take (i := 1) (v := ?_) (by exact gE rfl) (by kernel_rfl) (by kernel_rfl) (by kernel_rfl) (fun _ _ _ h => h) (Or.inl ⟨?_, ?_⟩) (by assumption) ?_; rotate_left; (rfl); (focus (intro w hSw; (try dsimp only at hSw); go_simp; try with_reducible rfl)); try simp only [Act.put, List.setIfInBounds_toArray, List.set_cons_zero, List.set_cons_succ])
    first | (refine wpAnyH_take (i := 2) (v := undef) (by exact gE rfl) (by kernel_rfl) (by kernel_rfl) (by kernel_rfl) (fun _ _ _ h => h) (Or.inr ⟨?_, rfl⟩) (by assumption) ?_; (rfl); try simp only [Act.put, List.setIfInBounds_toArray, List.set_cons_zero, List.set_cons_succ]) | (refine wpAnyH_take (i := 2) (v := ?_) (by exact gE rfl) (by kernel_rfl) (by kernel_rfl) (by kernel_rfl) (fun _ _ _ h => h) (Or.inl ⟨?_, ?_⟩) (by assumption) ?_; rotate_left; (rfl); (focus (intro W hSw; have hc0 := HL0.out; clear hSw; go_simp; try with_reducible rfl)); try simp only [Act.put, List.setIfInBounds_toArray, List.set_cons_zero, List.set_cons_succ])
    first | (refine wpAnyH_take (i := 3) (v := undef) (by exact gE rfl) (by kernel_rfl) (by kernel_rfl) (by kernel_rfl) (fun _ _ _ h => h) (Or.inr ⟨?_, rfl⟩) (by assumption) ?_; (rfl); try simp only [Act.put, List.setIfInBounds_toArray, List.set_cons_zero, List.set_cons_succ]) | (refine wpAnyH_take (i := 3) (v := ?_) (by exact gE rfl) (by kernel_rfl) (by kernel_rfl) (by kernel_rfl) (fun _ _ _ h => h) (Or.inl ⟨?_, ?_⟩) (by assumption) ?_; rotate_left; (rfl); (focus (intro w hSw; (try dsimp only at hSw); go_simp; try with_reducible rfl)); try simp only [Act.put, List.setIfInBounds_toArray, List.set_cons_zero, List.set_cons_succ])
    (refine wpAnyH_take (i := 4) (v := undef) (by exact gE rfl) (by kernel_rfl) (by kernel_rfl) (by kernel_rfl) (fun _ _ _ h => h) (Or.inr ⟨?_, rfl⟩) (by assumption) ?_; (rfl); try simp only [Act.put, List.setIfInBounds_toArray, List.set_cons_zero, List.set_cons_succ])
    (refine wpAnyH_take (i := 5) (v := undef) (by exact gE rfl) (by kernel_rfl) (by kernel_rfl) (by kernel_rfl) (fun _ _ _ h => h) (Or.inr ⟨?_, rfl⟩) (by assumption) ?_; (rfl); try simp only [Act.put, List.setIfInBounds_toArray, List.set_cons_zero, List.set_cons_succ])
    (refine wpAnyH_take (i := 6) (v := undef) (by exact gE rfl) (by kernel_rfl) (by kernel_rfl) (by kernel_rfl) (fun _ _ _ h => h) (Or.inr ⟨?_, rfl⟩) (by assumption) ?_; (rfl); try simp only [Act.put, List.setIfInBounds_toArray, List.set_cons_zero, List.set_cons_succ])
    (refine wpAnyH_take (i := 7) (v := undef) (by exact gE rfl) (by kernel_rfl) (by kernel_rfl) (by kernel_rfl) (fun _ _ _ h => h) (Or.inr ⟨?_, rfl⟩) (by assumption) ?_; (rfl); try simp only [Act.put, List.setIfInBounds_toArray, List.set_cons_zero, List.set_cons_succ])
    (refine wpAnyH_take (i := 8) (v := undef) (by exact gE rfl) (by kernel_rfl) (by kernel_rfl) (by kernel_rfl) (fun _ _ _ h => h) (Or.inr ⟨?_, rfl⟩) (by assumption) ?_; (rfl); try simp only [Act.put, List.setIfInBounds_toArray, List.set_cons_zero, List.set_cons_succ])
    (refine wpAnyH_take (i := 9) (v := undef) (by exact gE rfl) (by kernel_rfl) (by kernel_rfl) (by kernel_rfl) (fun _ _ _ h => h) (Or.inr ⟨?_, rfl⟩) (by assumption) ?_; (rfl); try simp only [Act.put, List.setIfInBounds_toArray, List.set_cons_zero, List.set_cons_succ])
    first | (refine wpAnyH_take (i := 10) (v := undef) (by exact gE rfl) (by kernel_rfl) (by kernel_rfl) (by kernel_rfl) (fun _ _ _ h => h) (Or.inr ⟨?_, rfl⟩) (by assumption) ?_; (rfl); try simp only [Act.put, List.setIfInBounds_toArray, List.set_cons_zero, List.set_cons_succ]) | (refine wpAnyH_take (i := 10) (v := ?_) (by exact gE rfl) (by kernel_rfl) (by kernel_rfl) (by kernel_rfl) (fun _ _ _ h => h) (Or.inl ⟨?_, ?_⟩) (by assumption) ?_; rotate_left; (rfl); (focus (intro w hSw; (try dsimp only at hSw); go_simp; try with_reducible rfl)); try simp only [Act.put, List.setIfInBounds_toArray, List.set_cons_zero, List.set_cons_succ])
    refine wpAnyH_done (by kernel_rfl) ?_ _
    refine NoPanic.normal ?_
    go_wp2_with fail
    go_ret
    exact ⟨ret_bool (by rw [HQ.out]), hHeld⟩
  have h00 : 0 < l.length := by omega
  obtain ⟨g, o, rfl, hg, hcell⟩ := h3 h00
  have HG := hidB hg
  have hr0 : w.rangeAt g o (l[0].k.cells ++ l[0].d.cs.toList) := by have := hcell 0 h00; rw [Nat.zero_mul, Nat.add_zero] at this; exact this
  have HRK := hidB (range_left hr0)
  have HRD := hidB (show w.rangeAt g (o + 2) l[0].d.cs.toList from range_right hr0)
  have HQ0 := hidB (arrB_at h00)
  have HL0 := hidB (show ((l.length : Int) == 0) = false by rw [beq_eq_false_iff_ne]; omega)
  have HX := hidB (show (0 : Int) < (l.length : Int) by omega)
  clear hr0 hcell hg h0 h3
  generalize l[0] = q at *
  have z1 : Tryz.prog.eqGuardType Tryz.prog.depth 26 = false := by kernel_rfl
  have V1 : ∀ W : World, (Op.equalIn 10000 26 q.k.a lenK.a).run Tryz.prog W = .ok (KI.eq q.k lenK) W := fun W => equal_key 9998 q.k lenK W
  have HKE := hidB (rfl : KI.eq q.k lenK = KI.eq q.k lenK)
  generalize hke : KI.eq q.k lenK = ke at *
  refine wp_region_noPanic ?_
  refine wp_region_held_drew (S := fun W => Below w.heap.size w W) (by kernel_rfl) ?_ (fun hHeld => ?_)
  · exact (Below.refl _ _).drew
  generalize hWd : w.drew = wd at *
  clear hWd
  first | (refine wpAnyH_take (i := 0) (v := undef) (by exact gE rfl) (by kernel_rfl) (by kernel_rfl) (by kernel_rfl) (fun _ _ _ h => h) (Or.inr ⟨?_, rfl⟩) (by assumption) ?_; (rfl); try simp only [Act.put, List.setIfInBounds_toArray, List.set_cons_zero, List.set_cons_succ]) | (refine wpAnyH_take (i := 0) (v := ?_) (by exact gE rfl) (by kernel_rfl) (by kernel_rfl) (by kernel_rfl) (fun _ _ _ h => h) (Or.inl ⟨?_, ?_⟩) (by assumption) ?_; rotate_left; (rfl); (focus (intro w hSw; (try dsimp only at hSw); go_simp; try with_reducible rfl)); try simp only [Act.put, List.setIfInBounds_toArray, List.set_cons_zero, List.set_cons_succ])
  first | (refine wpAnyH_take (i := 1) (v := undef) (by exact gE rfl) (by kernel_rfl) (by kernel_rfl) (by kernel_rfl) (fun _ _ _ h => h) (Or.inr ⟨?_, rfl⟩) (by assumption) ?_; (rfl); try simp only [Act.put, List.setIfInBounds_toArray, List.set_cons_zero, List.set_cons_succ]) | (refine wpAnyH_take (i := 1) (v := ?_) (by exact gE rfl) (by kernel_rfl) (by kernel_rfl) (by kernel_rfl) (fun _ _ _ h => h) (Or.inl ⟨?_, ?_⟩) (by assumption) ?_; rotate_left; (rfl); (focus (intro w hSw; (try dsimp only at hSw); go_simp; try with_reducible rfl)); try simp only [Act.put, List.setIfInBounds_toArray, List.set_cons_zero, List.set_cons_succ])
  first | (refine wpAnyH_take (i := 2) (v := undef) (by exact gE rfl) (by kernel_rfl) (by kernel_rfl) (by kernel_rfl) (fun _ _ _ h => h) (Or.inr ⟨?_, rfl⟩) (by assumption) ?_; (rfl); try simp only [Act.put, List.setIfInBounds_toArray, List.set_cons_zero, List.set_cons_succ]) | (refine wpAnyH_take (i := 2) (v := ?_) (by exact gE rfl) (by kernel_rfl) (by kernel_rfl) (by kernel_rfl) (fun _ _ _ h => h) (Or.inl ⟨?_, ?_⟩) (by assumption) ?_; rotate_left; (rfl); (focus (intro W hSw; have hc0 := HL0.out; clear hSw; go_simp; try with_reducible rfl)); try simp only [Act.put, List.setIfInBounds_toArray, List.set_cons_zero, List.set_cons_succ])
  first | (refine wpAnyH_take (i := 3) (v := undef) (by exact gE rfl) (by kernel_rfl) (by kernel_rfl) (by kernel_rfl) (fun _ _ _ h => h) (Or.inr ⟨?_, rfl⟩) (by assumption) ?_; (rfl); try simp only [Act.put, List.setIfInBounds_toArray, List.set_cons_zero, List.set_cons_succ]) | (refine wpAnyH_take (i := 3) (v := ?_) (by exact gE rfl) (by kernel_rfl) (by kernel_rfl) (by kernel_rfl) (fun _ _ _ h => h) (Or.inl ⟨?_, ?_⟩) (by assumption) ?_; rotate_left; (rfl); (focus (intro w hSw; (try dsimp only at hSw); go_simp; try with_reducible rfl)); try simp only [Act.put, List.setIfInBounds_toArray, List.set_cons_zero, List.set_cons_succ])
  first | (refine wpAnyH_take (i := 4) (v := undef) (by exact gE rfl) (by kernel_rfl) (by kernel_rfl) (by kernel_rfl) (fun _ _ _ h => h) (Or.inr ⟨?_, rfl⟩) (by assumption) ?_; (rfl); try simp only [Act.put, List.setIfInBounds_toArray, List.set_cons_zero, List.set_cons_succ]) | (refine wpAnyH_take (i := 4) (v := ?_) (by exact gE rfl) (by kernel_rfl) (by kernel_rfl) (by kernel_rfl) (fun _ _ _ h => h) (Or.inl ⟨?_, ?_⟩) (by assumption) ?_; rotate_left; (rfl); (focus (intro w hSw; (try dsimp only at hSw); go_simp; try with_reducible rfl)); try simp only [Act.put, List.setIfInBounds_toArray, List.set_cons_zero, List.set_cons_succ])
  first | (refine wpAnyH_take (i := 5) (v := undef) (by exact gE rfl) (by kernel_rfl) (by kernel_rfl) (by kernel_rfl) (fun _ _ _ h => h) (Or.inr ⟨?_, rfl⟩) (by assumption) ?_; (rfl); try simp only [Act.put, List.setIfInBounds_toArray, List.set_cons_zero, List.set_cons_succ]) | (refine wpAnyH_take (i := 5) (v := ?_) (by exact gE rfl) (by kernel_rfl) (by kernel_rfl) (by kernel_rfl) (fun _ _ _ h => h) (Or.inl ⟨?_, ?_⟩) (by assumption) ?_; rotate_left; (rfl); (focus (intro W hSw; have hc0 := HX.out; clear hSw; go_simp; try with_reducible rfl)); try simp only [Act.put, List.setIfInBounds_toArray, List.set_cons_zero, List.set_cons_succ])
  first | (refine wpAnyH_take (i := 6) (v := undef) (by exact gE rfl) (by kernel_rfl) (by kernel_rfl) (by kernel_rfl) (fun _ _ _ h => h) (Or.inr ⟨?_, rfl⟩) (by assumption) ?_; (rfl); try simp only [Act.put, List.setIfInBounds_toArray, List.set_cons_zero, List.set_cons_succ]) | (refine wpAnyH_take (i := 6) (v := ?_) (by exact gE rfl) (by kernel_rfl) (by kernel_rfl) (by kernel_rfl) (fun _ _ _ h => h) (Or.inl ⟨?_, ?_⟩) (by assumption) ?_; rotate_left; (rfl); (focus (intro w hSw; (try dsimp only at hSw); go_simp; try with_reducible rfl)); try simp only [Act.put, List.setIfInBounds_toArray, List.set_cons_zero, List.set_cons_succ])
  (refine wpAnyH_take (i := 7) (v := q.k.a) (by exact gE rfl) (by kernel_rfl) (by kernel_rfl) (by kernel_rfl) (fun _ _ _ h => h) (yieldsIf_load_mid (by rfl) 26 (.tmp 11) (by rfl) (g) (o) (by rfl) (q.k.cells) _ (fun W hS => rangeOn hS HG.out HRK.out) Tryz.underlying26 (by rfl) (by kernel_rfl)) (by assumption) ?_; try simp only [Act.put, List.setIfInBounds_toArray, List.set_cons_zero, List.set_cons_succ])
  refine wpAnyH_ready (rs := [8]) (by kernel_rfl) (by simp) ?_
  refine AllReadyH.cons rfl (fun K hK => ?_) AllReadyH.nil
  go_simp
  refine (keyOfH_any _).mono ?_; rintro e w3 ⟨rfl, hb⟩
  replace hHeld := hHeld.trans (hb.mono hHeld.size)
  clear hb
  refine hK.out _ _ hHeld (fun _ => ?_)
  clear hK K
  try simp only [Act.put, List.setIfInBounds_toArray, List.set_cons_zero, List.set_cons_succ]
  first | (refine wpAnyH_take (i := 9) (v := undef) (by exact gE rfl) (by kernel_rfl) (by kernel_rfl) (by kernel_rfl) (fun _ _ _ h => h) (Or.inr ⟨?_, rfl⟩) (by assumption) ?_; (rfl); try simp only [Act.put, List.setIfInBounds_toArray, List.set_cons_zero, List.set_cons_succ]) | (refine wpAnyH_take (i := 9) (v := ?_) (by exact gE rfl) (by kernel_rfl) (by kernel_rfl) (by kernel_rfl) (fun _ _ _ h => h) (Or.inl ⟨?_, ?_⟩) (by assumption) ?_; rotate_left; (rfl); (focus (intro w hSw; (try dsimp only at hSw); go_simp; try with_reducible rfl)); try simp only [Act.put, List.setIfInBounds_toArray, List.set_cons_zero, List.set_cons_succ])
  first | (refine wpAnyH_take (i := 10) (v := undef) (by exact gE rfl) (by kernel_rfl) (by kernel_rfl) (by kernel_rfl) (fun _ _ _ h => h) (Or.inr ⟨?_, rfl⟩) (by assumption) ?_; (rfl); try simp only [Act.put, List.setIfInBounds_toArray, List.set_cons_zero, List.set_cons_succ]) | (refine wpAnyH_take (i := 10) (v := ?_) (by exact gE rfl) (by kernel_rfl) (by kernel_rfl) (by kernel_rfl) (fun _ _ _ h => h) (Or.inl ⟨?_, ?_⟩) (by assumption) ?_; rotate_left; (rfl); (focus (intro w hSw; (try dsimp only at hSw); go_simp; try with_reducible rfl)); try simp only [Act.put, List.setIfInBounds_toArray, List.set_cons_zero, List.set_cons_succ])
  refine wpAnyH_done (by kernel_rfl) ?_ _
  refine NoPanic.normal ?_
  cases ke
  · have HQ := hidB (show arrB l = false by rw [HQ0.out]; rfl)
    clear hke HKE V1
    go_wp2_with fail
    go_ret
    exact ⟨ret_bool (by rw [HQ.out]), hHeld⟩
  clear hke HKE V1 z1
  have B := hidB hHeld
  skip
  have HRD2 := hidB (rangeOn B.out HG.out HRD.out)
  have HRP2 := hidB (HRP.out.on B.out)
  have hx := HX.out
  clear hHeld HRD HRK HRP
  skip
  have X := hidB (show Bk (w3.alloc (.cells q.d.cs 31)) w3.heap.size 31 q.d.cs from Bk.new w3 _ _)
  skip
  have B4 := hidB (show Below w.heap.size w (w3.alloc (.cells q.d.cs 31)) from B.out.alloc B.out.size _)
  have HRP3 := hidB (show RdP l (.slice (some ⟨g, o, none⟩) l.length c) (w3.alloc (.cells q.d.cs 31)) from HRP2.out.on (box_one w3 _))
  go_upto_region 4 with (first | ((with_reducible refine ldId 31 (.tmp 18) ?_); refine wpList_load_mid (by rfl) 31 (.tmp 18) (by rfl) g (o + 2) (by rfl) q.d.cs.toList _ (by exact HRD2.out) Tryz.underlying31 (by rfl) (by kernel_rfl) ?_) | ((with_reducible refine wpId ?_); refine wpList_store_new (by rfl) 31 (.tmp 3) (.tmp 19) (by rfl) q.d.cs 31 _ (by rfl) (by rfl) (by kernel_rfl) (by rfl) (by rfl) ?_))
  clear B HRD2 HRP2
  generalize hW : (w3.alloc (.cells q.d.cs 31)) = w4 at *
  clear hW
  generalize hgd : w3.heap.size = gd at *
  clear hgd
  have x2 : w4.cell? ⟨gd, 2, none⟩ = some (.float .f64 q.d.v.x) := X.out.cell 2
  have Z := hidB (show Bk (w4.alloc (.cells #[.float .f64 q.d.v.x] 27)) w4.heap.size 27 #[.float .f64 q.d.v.x] from Bk.new w4 _ _)
  replace X := hidB (show Bk (w4.alloc (.cells #[.float .f64 q.d.v.x] 27)) gd 31 q.d.cs from X.out.alloc _)
  have B5 := hidB (show Below w.heap.size w (w4.alloc (.cells #[.float .f64 q.d.v.x] 27)) from B4.out.alloc B4.out.size _)
  have HRP4 := hidB (show RdP l (.slice (some ⟨g, o, none⟩) l.length c) (w4.alloc (.cells #[.float .f64 q.d.v.x] 27)) from HRP3.out.on (box_one w4 _))
  go_upto_region 5 with fail
  generalize hW : (w4.alloc (.cells #[.float .f64 q.d.v.x] 27)) = w5 at *
  clear hW
  have HZ4 := hidB Z.out.lt
  generalize hg6 : w4.heap.size = g6 at *
  clear hg6 x2 B4 HRP3
  have HLO : Hid (lenOk q.d = lenOk q.d) := hidB rfl
  generalize hlo : lenOk q.d = lo at *
  go_wp2_with (first | ((with_reducible refine ldId 31 (.tmp 3) ?_); refine wpList_load_row (by rfl) 31 (.tmp 3) (by rfl) (gd) (by rfl) 31 (q.d.cs) (0, 0) _ (by exact X.out) Tryz.underlying31 (by rfl) (by kernel_rfl) ?_))
  refine (isData_any q.d _).mono ?_; rintro e w6 ⟨rfl, hb⟩
  replace X := hidB (X.out.on hb)
  replace Z := hidB (Z.out.on hb)
  replace HRP4 := hidB (HRP4.out.on hb)
  replace B5 := hidB (B5.out.trans (hb.mono B5.out.size))
  clear hb
  have x1 : w6.cell? ⟨gd, 1, none⟩ = some (.int .u8 q.d.v.k) := X.out.cell 1
  have x14 : w6.cell? ⟨gd, 14, none⟩ = some (.bool q.d.en) := X.out.cell 14
  have x15 : w6.cell? ⟨gd, 15, none⟩ = some (.bool q.d.cf) := X.out.cell 15
  have z0 : w6.cell? ⟨g6, 0, none⟩ = some (.float .f64 q.d.v.x) := Z.out.cell 0
  have HLE := hidB hlo
  clear hlo HLO
  cases hd : (bits .and .u8 q.d.has 3 != 0)
  · have HD := hidB hd
    clear hd
    have HQ := hidB (show arrB l = false by rw [HQ0.out, ← HLE.out]; unfold lenOk; simp [HD.out])
    go_wp2_with fail
    go_ret
    exact ⟨ret_bool (by rw [HQ.out]), B5.out⟩
  have HD := hidB hd
  clear hd
  cases hen : q.d.en
  rotate_left
  · rw [hen] at x14
    have HQ := hidB (show arrB l = false by rw [HQ0.out, ← HLE.out]; unfold lenOk; simp [HD.out, hen])
    go_wp2_with fail
    go_ret
    exact ⟨ret_bool (by rw [HQ.out]), B5.out⟩
  rw [hen] at x14
  cases hcf : q.d.cf
  rotate_left
  · rw [hcf] at x15
    have HQ := hidB (show arrB l = false by rw [HQ0.out, ← HLE.out]; unfold lenOk; simp [HD.out, hen, hcf])
    go_wp2_with fail
    go_ret
    exact ⟨ret_bool (by rw [HQ.out]), B5.out⟩
  rw [hcf] at x15
  by_cases hk : q.d.v.k = 3
  rotate_left
  · have hk2 : (q.d.v.k != 3) = true := by rw [bne_iff_ne]; exact hk
    have HK := hidB hk
    have HQ := hidB (show arrB l = false by rw [HQ0.out, ← HLE.out]; unfold lenOk; simp [HD.out, hen, hcf, HK.out])
    go_wp2_with fail
    go_ret
    exact ⟨ret_bool (by rw [HQ.out]), B5.out⟩
  rw [hk] at x1
  have HK := hidB hk
  clear hk
  cases hge : ge0 q.d.v.x
  · have HGE := hidB hge
    unfold ge0 at hge
    have HQ := hidB (show arrB l = false by rw [HQ0.out, ← HLE.out]; unfold lenOk; simp [HD.out, hen, hcf, HK.out, HGE.out])
    go_wp2_with fail
    go_ret
    exact ⟨ret_bool (by rw [HQ.out]), B5.out⟩
  have HGE := hidB hge
  unfold ge0 at hge
  cases hle : leM q.d.v.x
  · have HLM := hidB hle
    unfold leM at hle
    have HQ := hidB (show arrB l = false by rw [HQ0.out, ← HLE.out]; unfold lenOk; simp [HD.out, hen, hcf, HK.out, HGE.out, HLM.out])
    go_wp2_with fail
    go_ret
    exact ⟨ret_bool (by rw [HQ.out]), B5.out⟩
  have HLM := hidB hle
  unfold leM at hle
  have HQ := hidB (show arrB l = !l.any (arrP (Fl.tr q.d.v.x)) by rw [HQ0.out, ← HLE.out]; unfold lenOk; simp [HD.out, hen, hcf, HK.out, HGE.out, HLM.out])
  have CP := hidB (containsP_any _ _ (arrP (Fl.tr q.d.v.x)) l _ _ HRP4.out (array1_pick q.d.v.x (Fl.tr q.d.v.x) (conv_len HGE.out HLM.out) l hl g6 _ Z.out))
  generalize hla : l.any (arrP (Fl.tr q.d.v.x)) = la at *
  clear hla HLE HQ0
  go_wp2_with fail
  refine CP.out.mono ?_; rintro e w7 ⟨rfl, hb⟩
  replace B5 := hidB (B5.out.trans (hb.mono B5.out.size))
  clear hb CP
  go_wp2_with fail
  go_ret
  exact ⟨ret_bool (by rw [HQ.out]), B5.out⟩

end Go.Proofs.YtbmaodlghglopaaGreatDoor
