/-
  What reads alike is the same, as the reference says: wants.
-/
import Derived.Test.YtbkjbpefbdoenaaTask
import Derived.Test.YtbkjbpefbdoenaaRefDesc
namespace Go.Proofs.Ytbkjbpefbdoenaa
open Go.RowKit

theorem KI.eq_selfR (k : KI) : KI.eq k k = true := by unfold KI.eq; simp
abbrev AI.put (a : AI) (v : Value) : AI := { a with args := v }
abbrev WI.put3 (t : WI) (a b k : Value) : WI := { t with ask := t.ask.put a, args := b, out := t.out.put k }
set_option maxHeartbeats 8000000 in
set_option maxRecDepth 100000 in
theorem rlike_self (v : VI) (w : World) : Calls Try.prog 59 #[v.a, v.a] w fun e w' => e = .returned (.bool true) ∧ Below w.heap.size w w' := by
  have HN : Fl.isNaN v.x = true ∨ Fl.isNaN v.x = false := by cases Fl.isNaN v.x <;> simp
  rcases HN with hn | hn
  all_goals first | have ho := ordN hn v.x | have ho := ordE hn
  all_goals clear hn
  all_goals
    have X := hidB (show Bk ((w.alloc (.cells (v.cells.toArray) 24)).alloc (.cells (v.cells.toArray) 24)) (w.heap.size) 24 (v.cells.toArray) from (Bk.new w _ _).alloc _)
    have Y := hidB (show Bk ((w.alloc (.cells (v.cells.toArray) 24)).alloc (.cells (v.cells.toArray) 24)) (w.heap.size + 1) 24 (v.cells.toArray) from Bk.new2 w _ _ _)
    have B := hidB (show Below w.heap.size w ((w.alloc (.cells (v.cells.toArray) 24)).alloc (.cells (v.cells.toArray) 24)) from (box_one w _).alloc (by simp) _)
    go_enter Try.func59, Try.ntmps59
    go_upto_region 1 with fail
    generalize hW : ((w.alloc (.cells (v.cells.toArray) 24)).alloc (.cells (v.cells.toArray) 24)) = w1 at *
    clear hW
    have x0 : w1.cell? ⟨w.heap.size, 0, none⟩ = some (.int .u8 v.k) := X.out.cell 0
    have x1 : w1.cell? ⟨w.heap.size, 1, none⟩ = some (.float .f64 v.x) := X.out.cell 1
    have x2 : w1.cell? ⟨w.heap.size, 2, none⟩ = some (.string v.s) := X.out.cell 2
    have x3 : w1.cell? ⟨w.heap.size, 3, none⟩ = some (.int .i64 v.r) := X.out.cell 3
    have y0 : w1.cell? ⟨w.heap.size + 1, 0, none⟩ = some (.int .u8 v.k) := Y.out.cell 0
    have y1 : w1.cell? ⟨w.heap.size + 1, 1, none⟩ = some (.float .f64 v.x) := Y.out.cell 1
    have y2 : w1.cell? ⟨w.heap.size + 1, 2, none⟩ = some (.string v.s) := Y.out.cell 2
    have y3 : w1.cell? ⟨w.heap.size + 1, 3, none⟩ = some (.int .i64 v.r) := Y.out.cell 3
    go_wp2_with fail
    go_ret
    exact ⟨rfl, B.out⟩
set_option maxHeartbeats 8000000 in
set_option maxRecDepth 100000 in
theorem rlikeD_self (d : DI) (w : World) : Calls Try.prog 83 #[d.a, d.a] w fun e w' => e = .returned (.bool true) ∧ Below w.heap.size w w' := by
  have X := hidB (show Bk ((w.alloc (.cells (d.cs) 33)).alloc (.cells (d.cs) 33)) (w.heap.size) 33 (d.cs) from (Bk.new w _ _).alloc _)
  have Y := hidB (show Bk ((w.alloc (.cells (d.cs) 33)).alloc (.cells (d.cs) 33)) (w.heap.size + 1) 33 (d.cs) from Bk.new2 w _ _ _)
  have B := hidB (show Below w.heap.size w ((w.alloc (.cells (d.cs) 33)).alloc (.cells (d.cs) 33)) from (box_one w _).alloc (by simp) _)
  go_enter Try.func83, Try.ntmps83
  go_upto_region 1 with fail
  generalize hW : ((w.alloc (.cells (d.cs) 33)).alloc (.cells (d.cs) 33)) = w1 at *
  clear hW
  have x0 : w1.cell? ⟨w.heap.size, 0, none⟩ = some (.int .u8 d.has) := X.out.cell 0
  have x13 : w1.cell? ⟨w.heap.size, 13, none⟩ = some (.bool d.wr) := X.out.cell 13
  have x14 : w1.cell? ⟨w.heap.size, 14, none⟩ = some (.bool d.en) := X.out.cell 14
  have x15 : w1.cell? ⟨w.heap.size, 15, none⟩ = some (.bool d.cf) := X.out.cell 15
  have y0 : w1.cell? ⟨w.heap.size + 1, 0, none⟩ = some (.int .u8 d.has) := Y.out.cell 0
  have y13 : w1.cell? ⟨w.heap.size + 1, 13, none⟩ = some (.bool d.wr) := Y.out.cell 13
  have y14 : w1.cell? ⟨w.heap.size + 1, 14, none⟩ = some (.bool d.en) := Y.out.cell 14
  have y15 : w1.cell? ⟨w.heap.size + 1, 15, none⟩ = some (.bool d.cf) := Y.out.cell 15
  go_wp2_with (first | ((with_reducible refine ldId 24 (.tmp 32) ?_); refine wpList_wload_mid 24 (.tmp 32) (by rfl) (by rfl) (w.heap.size) 1 (by rfl) (d.v.cells) _ (by exact Bk.mid X.out 1 _ rfl) Try.underlying24 (by rfl) (by kernel_rfl) ?_) | ((with_reducible refine ldId 24 (.tmp 34) ?_); refine wpList_wload_mid 24 (.tmp 34) (by rfl) (by rfl) (w.heap.size + 1) 1 (by rfl) (d.v.cells) _ (by exact Bk.mid Y.out 1 _ rfl) Try.underlying24 (by rfl) (by kernel_rfl) ?_) | ((with_reducible refine ldId 24 (.tmp 39) ?_); refine wpList_wload_mid 24 (.tmp 39) (by rfl) (by rfl) (w.heap.size) 5 (by rfl) (d.g.cells) _ (by exact Bk.mid X.out 5 _ rfl) Try.underlying24 (by rfl) (by kernel_rfl) ?_) | ((with_reducible refine ldId 24 (.tmp 41) ?_); refine wpList_wload_mid 24 (.tmp 41) (by rfl) (by rfl) (w.heap.size + 1) 5 (by rfl) (d.g.cells) _ (by exact Bk.mid Y.out 5 _ rfl) Try.underlying24 (by rfl) (by kernel_rfl) ?_) | ((with_reducible refine ldId 24 (.tmp 46) ?_); refine wpList_wload_mid 24 (.tmp 46) (by rfl) (by rfl) (w.heap.size) 9 (by rfl) (d.t.cells) _ (by exact Bk.mid X.out 9 _ rfl) Try.underlying24 (by rfl) (by kernel_rfl) ?_) | ((with_reducible refine ldId 24 (.tmp 48) ?_); refine wpList_wload_mid 24 (.tmp 48) (by rfl) (by rfl) (w.heap.size + 1) 9 (by rfl) (d.t.cells) _ (by exact Bk.mid Y.out 9 _ rfl) Try.underlying24 (by rfl) (by kernel_rfl) ?_) | (go_at_call 59; with_reducible refine (rlike_self d.v _).mono ?_; rintro e v1 ⟨rfl, hb⟩; replace X := hidB (X.out.on hb); replace Y := hidB (Y.out.on hb); replace B := hidB (B.out.trans (hb.mono B.out.size)); clear hb) | (go_at_call 59; with_reducible refine (rlike_self d.g _).mono ?_; rintro e v1 ⟨rfl, hb⟩; replace X := hidB (X.out.on hb); replace Y := hidB (Y.out.on hb); replace B := hidB (B.out.trans (hb.mono B.out.size)); clear hb) | (go_at_call 59; with_reducible refine (rlike_self d.t _).mono ?_; rintro e v1 ⟨rfl, hb⟩; replace X := hidB (X.out.on hb); replace Y := hidB (Y.out.on hb); replace B := hidB (B.out.trans (hb.mono B.out.size)); clear hb))
  go_ret
  exact ⟨rfl, B.out⟩
set_option maxHeartbeats 8000000 in
set_option maxRecDepth 100000 in
theorem rvals_self (l : List VI) (v1 v2 : Value) (w : World) (hr1 : RdL VI.cells 4 l v1 w) (hr2 : RdL VI.cells 4 l v2 w) : Calls Try.prog 60 #[v1, v2] w fun e w' => e = .returned (.bool true) ∧ Below w.heap.size w w' := by
  obtain ⟨p1, c1, rfl, a1, a2, a3⟩ := hr1
  obtain ⟨p2, c2, rfl, _, _, b3⟩ := hr2
  unfold maxLen at a2
  have hlm : l.length ≤ 9223372036854775807 := by omega
  have HA := hidB a3
  have HB := hidB b3
  clear a3 b3
  go_enter Try.func60, Try.ntmps60
  go_wp2_with fail
  go_loopw [5] (fun s5 wr => ∃ i : Nat, i ≤ l.length ∧ s5 = .int .i64 i ∧ Below w.heap.size w wr) (fun i _ => l.length - (intOf i).toNat)
  case atStart => exact ⟨0, by omega, rfl, Below.refl _ _⟩
  case round =>
    obtain ⟨i, hi, rfl, hb⟩ := hrel
    have B := hidB hb
    clear hb
    have hx2 : (0 : Int) ≤ (i : Int) := by omega
    by_cases hlt : i < l.length
    rotate_left
    · obtain rfl : i = l.length := by omega
      have hx4 : ¬ ((l.length : Int) < (l.length : Int)) := by omega
      clear HA HB hi hlt
      go_wp2_with fail
      go_ret
      exact ⟨rfl, B.out⟩
    have hx1 : (i : Int) < (l.length : Int) := by omega
    obtain ⟨g1, o1, rfl, hg1, hr1⟩ := HA.out (by omega)
    obtain ⟨g2, o2, rfl, hg2, hr2⟩ := HB.out (by omega)
    have HC1 := hidB (fun W (hS : Below w.heap.size w W) => rangeOn hS hg1 (hr1 i hlt))
    have HC2 := hidB (fun W (hS : Below w.heap.size w W) => rangeOn hS hg2 (hr2 i hlt))
    clear hr1 hr2 hg1 hg2
    generalize l[i]'hlt = q0 at *
    go_upto_region 6 with fail
    refine wp_region_noPanic ?_
    refine wp_region_held_drew (S := fun W => Below w.heap.size w W) (by kernel_rfl) ?_ (fun hHeld => ?_)
    · exact B.out.drew
    generalize hWd : wr.drew = wd at *
    clear hWd
    first | (refine wpAnyH_take (i := 0) (v := undef) (by simp only [List.getElem?_toArray, List.getElem?_cons_zero]; exact rfl) (by kernel_rfl) (by kernel_rfl) (by kernel_rfl) (fun _ _ _ h => h) (Or.inr ⟨?_, rfl⟩) (by assumption) ?_; (rfl); try simp only [Act.put, List.setIfInBounds_toArray, List.set_cons_zero, List.set_cons_succ]) | (refine wpAnyH_take (i := 0) (v := ?_) (by simp only [List.getElem?_toArray, List.getElem?_cons_zero]; exact rfl) (by kernel_rfl) (by kernel_rfl) (by kernel_rfl) (fun _ _ _ h => h) (Or.inl ⟨?_, ?_⟩) (by assumption) ?_; rotate_left; (rfl); (focus (intro w hSw; (try dsimp only at hSw); go_simp; try with_reducible rfl)); try simp only [Act.put, List.setIfInBounds_toArray, List.set_cons_zero, List.set_cons_succ])
    first | (refine wpAnyH_take (i := 1) (v := undef) (by simp only [List.getElem?_toArray, List.getElem?_cons_succ, List.getElem?_cons_zero]; exact rfl) (by kernel_rfl) (by kernel_rfl) (by kernel_rfl) (fun _ _ _ h => h) (Or.inr ⟨?_, rfl⟩) (by assumption) ?_; (rfl); try simp only [Act.put, List.setIfInBounds_toArray, List.set_cons_zero, List.set_cons_succ]) | (refine wpAnyH_take (i := 1) (v := ?_) (by simp only [List.getElem?_toArray, List.getElem?_cons_succ, List.getElem?_cons_zero]; exact rfl) (by kernel_rfl) (by kernel_rfl) (by kernel_rfl) (fun _ _ _ h => h) (Or.inl ⟨?_, ?_⟩) (by assumption) ?_; rotate_left; (rfl); (focus (intro w hSw; (try dsimp only at hSw); go_simp; try with_reducible rfl)); try simp only [Act.put, List.setIfInBounds_toArray, List.set_cons_zero, List.set_cons_succ])
    first | (refine wpAnyH_take (i := 2) (v := undef) (by simp only [List.getElem?_toArray, List.getElem?_cons_succ, List.getElem?_cons_zero]; exact rfl) (by kernel_rfl) (by kernel_rfl) (by kernel_rfl) (fun _ _ _ h => h) (Or.inr ⟨?_, rfl⟩) (by assumption) ?_; (rfl); try simp only [Act.put, List.setIfInBounds_toArray, List.set_cons_zero, List.set_cons_succ]) | (refine wpAnyH_take (i := 2) (v := ?_) (by simp only [List.getElem?_toArray, List.getElem?_cons_succ, List.getElem?_cons_zero]; exact rfl) (by kernel_rfl) (by kernel_rfl) (by kernel_rfl) (fun _ _ _ h => h) (Or.inl ⟨?_, ?_⟩) (by assumption) ?_; rotate_left; (rfl); (focus (intro w hSw; (try dsimp only at hSw); go_simp; try with_reducible rfl)); try simp only [Act.put, List.setIfInBounds_toArray, List.set_cons_zero, List.set_cons_succ])
    (refine wpAnyH_take (i := 3) (v := q0.a) (by simp only [List.getElem?_toArray, List.getElem?_cons_succ, List.getElem?_cons_zero]; exact rfl) (by kernel_rfl) (by kernel_rfl) (by kernel_rfl) (fun _ _ _ h => h) (yieldsIf_load_mid (by rfl) 24 (.tmp 19) (by rfl) (g1) (o1 + i * 4) (by rfl) (q0.cells) _ (fun W hS => HC1.out _ hS) Try.underlying24 (by rfl) (by kernel_rfl)) (by assumption) ?_; try simp only [Act.put, List.setIfInBounds_toArray, List.set_cons_zero, List.set_cons_succ])
    first | (refine wpAnyH_take (i := 4) (v := undef) (by simp only [List.getElem?_toArray, List.getElem?_cons_succ, List.getElem?_cons_zero]; exact rfl) (by kernel_rfl) (by kernel_rfl) (by kernel_rfl) (fun _ _ _ h => h) (Or.inr ⟨?_, rfl⟩) (by assumption) ?_; (rfl); try simp only [Act.put, List.setIfInBounds_toArray, List.set_cons_zero, List.set_cons_succ]) | (refine wpAnyH_take (i := 4) (v := ?_) (by simp only [List.getElem?_toArray, List.getElem?_cons_succ, List.getElem?_cons_zero]; exact rfl) (by kernel_rfl) (by kernel_rfl) (by kernel_rfl) (fun _ _ _ h => h) (Or.inl ⟨?_, ?_⟩) (by assumption) ?_; rotate_left; (rfl); (focus (intro w hSw; (try dsimp only at hSw); go_simp; try with_reducible rfl)); try simp only [Act.put, List.setIfInBounds_toArray, List.set_cons_zero, List.set_cons_succ])
    first | (refine wpAnyH_take (i := 5) (v := undef) (by simp only [List.getElem?_toArray, List.getElem?_cons_succ, List.getElem?_cons_zero]; exact rfl) (by kernel_rfl) (by kernel_rfl) (by kernel_rfl) (fun _ _ _ h => h) (Or.inr ⟨?_, rfl⟩) (by assumption) ?_; (rfl); try simp only [Act.put, List.setIfInBounds_toArray, List.set_cons_zero, List.set_cons_succ]) | (refine wpAnyH_take (i := 5) (v := ?_) (by simp only [List.getElem?_toArray, List.getElem?_cons_succ, List.getElem?_cons_zero]; exact rfl) (by kernel_rfl) (by kernel_rfl) (by kernel_rfl) (fun _ _ _ h => h) (Or.inl ⟨?_, ?_⟩) (by assumption) ?_; rotate_left; (rfl); (focus (intro w hSw; (try dsimp only at hSw); go_simp; try with_reducible rfl)); try simp only [Act.put, List.setIfInBounds_toArray, List.set_cons_zero, List.set_cons_succ])
    first | (refine wpAnyH_take (i := 6) (v := undef) (by simp only [List.getElem?_toArray, List.getElem?_cons_succ, List.getElem?_cons_zero]; exact rfl) (by kernel_rfl) (by kernel_rfl) (by kernel_rfl) (fun _ _ _ h => h) (Or.inr ⟨?_, rfl⟩) (by assumption) ?_; (rfl); try simp only [Act.put, List.setIfInBounds_toArray, List.set_cons_zero, List.set_cons_succ]) | (refine wpAnyH_take (i := 6) (v := ?_) (by simp only [List.getElem?_toArray, List.getElem?_cons_succ, List.getElem?_cons_zero]; exact rfl) (by kernel_rfl) (by kernel_rfl) (by kernel_rfl) (fun _ _ _ h => h) (Or.inl ⟨?_, ?_⟩) (by assumption) ?_; rotate_left; (rfl); (focus (intro w hSw; (try dsimp only at hSw); go_simp; try with_reducible rfl)); try simp only [Act.put, List.setIfInBounds_toArray, List.set_cons_zero, List.set_cons_succ])
    (refine wpAnyH_take (i := 7) (v := q0.a) (by simp only [List.getElem?_toArray, List.getElem?_cons_succ, List.getElem?_cons_zero]; exact rfl) (by kernel_rfl) (by kernel_rfl) (by kernel_rfl) (fun _ _ _ h => h) (yieldsIf_load_mid (by rfl) 24 (.tmp 23) (by rfl) (g2) (o2 + i * 4) (by rfl) (q0.cells) _ (fun W hS => HC2.out _ hS) Try.underlying24 (by rfl) (by kernel_rfl)) (by assumption) ?_; try simp only [Act.put, List.setIfInBounds_toArray, List.set_cons_zero, List.set_cons_succ])
    refine wpAnyH_ready (rs := [8]) (by kernel_rfl) (by simp) ?_
    refine AllReadyH.cons rfl (fun K hK => ?_) AllReadyH.nil
    go_simp
    refine (rlike_self q0 _).mono ?_; rintro e w5 ⟨rfl, hb⟩
    replace hHeld := hHeld.trans (hb.mono hHeld.size)
    clear hb
    refine hK.out _ _ hHeld (fun _ => ?_)
    clear hK K
    try simp only [Act.put, List.setIfInBounds_toArray, List.set_cons_zero, List.set_cons_succ]
    first | (refine wpAnyH_take (i := 9) (v := undef) (by simp only [List.getElem?_toArray, List.getElem?_cons_succ, List.getElem?_cons_zero]; exact rfl) (by kernel_rfl) (by kernel_rfl) (by kernel_rfl) (fun _ _ _ h => h) (Or.inr ⟨?_, rfl⟩) (by assumption) ?_; (rfl); try simp only [Act.put, List.setIfInBounds_toArray, List.set_cons_zero, List.set_cons_succ]) | (refine wpAnyH_take (i := 9) (v := ?_) (by simp only [List.getElem?_toArray, List.getElem?_cons_succ, List.getElem?_cons_zero]; exact rfl) (by kernel_rfl) (by kernel_rfl) (by kernel_rfl) (fun _ _ _ h => h) (Or.inl ⟨?_, ?_⟩) (by assumption) ?_; rotate_left; (rfl); (focus (intro w hSw; (try dsimp only at hSw); go_simp; try with_reducible rfl)); try simp only [Act.put, List.setIfInBounds_toArray, List.set_cons_zero, List.set_cons_succ])
    refine wpAnyH_done (by kernel_rfl) ?_ _
    refine NoPanic.normal ?_
    replace B := hidB hHeld
    go_wp2_with fail
    go_roundw
    case rel => exact ⟨i + 1, by omega, by go_num, B.out⟩
    case measure => simp [intOf]; omega
set_option maxHeartbeats 8000000 in
set_option maxRecDepth 100000 in
theorem rkeys_self (l : List KI) (v1 v2 : Value) (w : World) (hr1 : RdL KI.cells 2 l v1 w) (hr2 : RdL KI.cells 2 l v2 w) : Calls Try.prog 84 #[v1, v2] w fun e w' => e = .returned (.bool true) ∧ Below w.heap.size w w' := by
  obtain ⟨p1, c1, rfl, a1, a2, a3⟩ := hr1
  obtain ⟨p2, c2, rfl, _, _, b3⟩ := hr2
  unfold maxLen at a2
  have hlm : l.length ≤ 9223372036854775807 := by omega
  have HA := hidB a3
  have HB := hidB b3
  clear a3 b3
  go_enter Try.func84, Try.ntmps84
  go_wp2_with fail
  go_loopw [5] (fun s5 wr => ∃ i : Nat, i ≤ l.length ∧ s5 = .int .i64 i ∧ Below w.heap.size w wr) (fun i _ => l.length - (intOf i).toNat)
  case atStart => exact ⟨0, by omega, rfl, Below.refl _ _⟩
  case round =>
    obtain ⟨i, hi, rfl, hb⟩ := hrel
    have B := hidB hb
    clear hb
    have hx2 : (0 : Int) ≤ (i : Int) := by omega
    by_cases hlt : i < l.length
    rotate_left
    · obtain rfl : i = l.length := by omega
      have hx4 : ¬ ((l.length : Int) < (l.length : Int)) := by omega
      clear HA HB hi hlt
      go_wp2_with fail
      go_ret
      exact ⟨rfl, B.out⟩
    have hx1 : (i : Int) < (l.length : Int) := by omega
    obtain ⟨g1, o1, rfl, hg1, hr1⟩ := HA.out (by omega)
    obtain ⟨g2, o2, rfl, hg2, hr2⟩ := HB.out (by omega)
    have HC1 := hidB (fun W (hS : Below w.heap.size w W) => rangeOn hS hg1 (hr1 i hlt))
    have HC2 := hidB (fun W (hS : Below w.heap.size w W) => rangeOn hS hg2 (hr2 i hlt))
    clear hr1 hr2 hg1 hg2
    generalize l[i]'hlt = q0 at *
    have z1 : Try.prog.eqGuardType Try.prog.depth 38 = false := by kernel_rfl
    have V1 : ∀ W : World, (Op.equalIn 10000 38 q0.a q0.a).run Try.prog W = .ok true W := fun W => (equal_key 9998 q0 q0 W).trans (by rw [KI.eq_selfR])
    go_upto_region 6 with fail
    refine wp_region_noPanic ?_
    refine wp_region_held_drew (S := fun W => Below w.heap.size w W) (by kernel_rfl) ?_ (fun hHeld => ?_)
    · exact B.out.drew
    generalize hWd : wr.drew = wd at *
    clear hWd
    first | (refine wpAnyH_take (i := 0) (v := undef) (by simp only [List.getElem?_toArray, List.getElem?_cons_zero]; exact rfl) (by kernel_rfl) (by kernel_rfl) (by kernel_rfl) (fun _ _ _ h => h) (Or.inr ⟨?_, rfl⟩) (by assumption) ?_; (rfl); try simp only [Act.put, List.setIfInBounds_toArray, List.set_cons_zero, List.set_cons_succ]) | (refine wpAnyH_take (i := 0) (v := ?_) (by simp only [List.getElem?_toArray, List.getElem?_cons_zero]; exact rfl) (by kernel_rfl) (by kernel_rfl) (by kernel_rfl) (fun _ _ _ h => h) (Or.inl ⟨?_, ?_⟩) (by assumption) ?_; rotate_left; (rfl); (focus (intro w hSw; (try dsimp only at hSw); go_simp; try with_reducible rfl)); try simp only [Act.put, List.setIfInBounds_toArray, List.set_cons_zero, List.set_cons_succ])
    first | (refine wpAnyH_take (i := 1) (v := undef) (by simp only [List.getElem?_toArray, List.getElem?_cons_succ, List.getElem?_cons_zero]; exact rfl) (by kernel_rfl) (by kernel_rfl) (by kernel_rfl) (fun _ _ _ h => h) (Or.inr ⟨?_, rfl⟩) (by assumption) ?_; (rfl); try simp only [Act.put, List.setIfInBounds_toArray, List.set_cons_zero, List.set_cons_succ]) | (refine wpAnyH_take (i := 1) (v := ?_) (by simp only [List.getElem?_toArray, List.getElem?_cons_succ, List.getElem?_cons_zero]; exact rfl) (by kernel_rfl) (by kernel_rfl) (by kernel_rfl) (fun _ _ _ h => h) (Or.inl ⟨?_, ?_⟩) (by assumption) ?_; rotate_left; (rfl); (focus (intro w hSw; (try dsimp only at hSw); go_simp; try with_reducible rfl)); try simp only [Act.put, List.setIfInBounds_toArray, List.set_cons_zero, List.set_cons_succ])
    first | (refine wpAnyH_take (i := 2) (v := undef) (by simp only [List.getElem?_toArray, List.getElem?_cons_succ, List.getElem?_cons_zero]; exact rfl) (by kernel_rfl) (by kernel_rfl) (by kernel_rfl) (fun _ _ _ h => h) (Or.inr ⟨?_, rfl⟩) (by assumption) ?_; (rfl); try simp only [Act.put, List.setIfInBounds_toArray, List.set_cons_zero, List.set_cons_succ]) | (refine wpAnyH_take (i := 2) (v := ?_) (by simp only [List.getElem?_toArray, List.getElem?_cons_succ, List.getElem?_cons_zero]; exact rfl) (by kernel_rfl) (by kernel_rfl) (by kernel_rfl) (fun _ _ _ h => h) (Or.inl ⟨?_, ?_⟩) (by assumption) ?_; rotate_left; (rfl); (focus (intro w hSw; (try dsimp only at hSw); go_simp; try with_reducible rfl)); try simp only [Act.put, List.setIfInBounds_toArray, List.set_cons_zero, List.set_cons_succ])
    (refine wpAnyH_take (i := 3) (v := q0.a) (by simp only [List.getElem?_toArray, List.getElem?_cons_succ, List.getElem?_cons_zero]; exact rfl) (by kernel_rfl) (by kernel_rfl) (by kernel_rfl) (fun _ _ _ h => h) (yieldsIf_load_mid (by rfl) 38 (.tmp 19) (by rfl) (g1) (o1 + i * 2) (by rfl) (q0.cells) _ (fun W hS => HC1.out _ hS) Try.underlying38 (by rfl) (by kernel_rfl)) (by assumption) ?_; try simp only [Act.put, List.setIfInBounds_toArray, List.set_cons_zero, List.set_cons_succ])
    first | (refine wpAnyH_take (i := 4) (v := undef) (by simp only [List.getElem?_toArray, List.getElem?_cons_succ, List.getElem?_cons_zero]; exact rfl) (by kernel_rfl) (by kernel_rfl) (by kernel_rfl) (fun _ _ _ h => h) (Or.inr ⟨?_, rfl⟩) (by assumption) ?_; (rfl); try simp only [Act.put, List.setIfInBounds_toArray, List.set_cons_zero, List.set_cons_succ]) | (refine wpAnyH_take (i := 4) (v := ?_) (by simp only [List.getElem?_toArray, List.getElem?_cons_succ, List.getElem?_cons_zero]; exact rfl) (by kernel_rfl) (by kernel_rfl) (by kernel_rfl) (fun _ _ _ h => h) (Or.inl ⟨?_, ?_⟩) (by assumption) ?_; rotate_left; (rfl); (focus (intro w hSw; (try dsimp only at hSw); go_simp; try with_reducible rfl)); try simp only [Act.put, List.setIfInBounds_toArray, List.set_cons_zero, List.set_cons_succ])
    first | (refine wpAnyH_take (i := 5) (v := undef) (by simp only [List.getElem?_toArray, List.getElem?_cons_succ, List.getElem?_cons_zero]; exact rfl) (by kernel_rfl) (by kernel_rfl) (by kernel_rfl) (fun _ _ _ h => h) (Or.inr ⟨?_, rfl⟩) (by assumption) ?_; (rfl); try simp only [Act.put, List.setIfInBounds_toArray, List.set_cons_zero, List.set_cons_succ]) | (refine wpAnyH_take (i := 5) (v := ?_) (by simp only [List.getElem?_toArray, List.getElem?_cons_succ, List.getElem?_cons_zero]; exact rfl) (by kernel_rfl) (by kernel_rfl) (by kernel_rfl) (fun _ _ _ h => h) (Or.inl ⟨?_, ?_⟩) (by assumption) ?_; rotate_left; (rfl); (focus (intro w hSw; (try dsimp only at hSw); go_simp; try with_reducible rfl)); try simp only [Act.put, List.setIfInBounds_toArray, List.set_cons_zero, List.set_cons_succ])
    first | (refine wpAnyH_take (i := 6) (v := undef) (by simp only [List.getElem?_toArray, List.getElem?_cons_succ, List.getElem?_cons_zero]; exact rfl) (by kernel_rfl) (by kernel_rfl) (by kernel_rfl) (fun _ _ _ h => h) (Or.inr ⟨?_, rfl⟩) (by assumption) ?_; (rfl); try simp only [Act.put, List.setIfInBounds_toArray, List.set_cons_zero, List.set_cons_succ]) | (refine wpAnyH_take (i := 6) (v := ?_) (by simp only [List.getElem?_toArray, List.getElem?_cons_succ, List.getElem?_cons_zero]; exact rfl) (by kernel_rfl) (by kernel_rfl) (by kernel_rfl) (fun _ _ _ h => h) (Or.inl ⟨?_, ?_⟩) (by assumption) ?_; rotate_left; (rfl); (focus (intro w hSw; (try dsimp only at hSw); go_simp; try with_reducible rfl)); try simp only [Act.put, List.setIfInBounds_toArray, List.set_cons_zero, List.set_cons_succ])
    (refine wpAnyH_take (i := 7) (v := q0.a) (by simp only [List.getElem?_toArray, List.getElem?_cons_succ, List.getElem?_cons_zero]; exact rfl) (by kernel_rfl) (by kernel_rfl) (by kernel_rfl) (fun _ _ _ h => h) (yieldsIf_load_mid (by rfl) 38 (.tmp 23) (by rfl) (g2) (o2 + i * 2) (by rfl) (q0.cells) _ (fun W hS => HC2.out _ hS) Try.underlying38 (by rfl) (by kernel_rfl)) (by assumption) ?_; try simp only [Act.put, List.setIfInBounds_toArray, List.set_cons_zero, List.set_cons_succ])
    first | (refine wpAnyH_take (i := 8) (v := undef) (by simp only [List.getElem?_toArray, List.getElem?_cons_succ, List.getElem?_cons_zero]; exact rfl) (by kernel_rfl) (by kernel_rfl) (by kernel_rfl) (fun _ _ _ h => h) (Or.inr ⟨?_, rfl⟩) (by assumption) ?_; (rfl); try simp only [Act.put, List.setIfInBounds_toArray, List.set_cons_zero, List.set_cons_succ]) | (refine wpAnyH_take (i := 8) (v := ?_) (by simp only [List.getElem?_toArray, List.getElem?_cons_succ, List.getElem?_cons_zero]; exact rfl) (by kernel_rfl) (by kernel_rfl) (by kernel_rfl) (fun _ _ _ h => h) (Or.inl ⟨?_, ?_⟩) (by assumption) ?_; rotate_left; (rfl); (focus (intro W hSw; have hc0 := V1 W; clear hSw; go_simp; try with_reducible rfl)); try simp only [Act.put, List.setIfInBounds_toArray, List.set_cons_zero, List.set_cons_succ])
    refine wpAnyH_done (by kernel_rfl) ?_ _
    refine NoPanic.normal ?_
    replace B := hidB hHeld
    go_wp2_with fail
    go_roundw
    case rel => exact ⟨i + 1, by omega, by go_num, B.out⟩
    case measure => simp [intOf]; omega
set_option maxHeartbeats 8000000 in
set_option maxRecDepth 100000 in
theorem rlikeJ_self (o : JI) (hp : o.props = vNil) (w : World) : Calls Try.prog 61 #[o.a, o.a] w fun e w' => e = .returned (.bool true) ∧ Below w.heap.size w w' := by
  have HP := hidB hp
  clear hp
  have X := hidB (show Bk ((w.alloc (.cells (o.cs) 43)).alloc (.cells (o.cs) 43)) (w.heap.size) 43 (o.cs) from (Bk.new w _ _).alloc _)
  have Y := hidB (show Bk ((w.alloc (.cells (o.cs) 43)).alloc (.cells (o.cs) 43)) (w.heap.size + 1) 43 (o.cs) from Bk.new2 w _ _ _)
  have B := hidB (show Below w.heap.size w ((w.alloc (.cells (o.cs) 43)).alloc (.cells (o.cs) 43)) from (box_one w _).alloc (by simp) _)
  go_enter Try.func61, Try.ntmps61
  have x0 : ((w.alloc (.cells (o.cs) 43)).alloc (.cells (o.cs) 43)).cell? ⟨w.heap.size, 0, none⟩ = some (.int .u8 o.kd) := X.out.cell 0
  have x5 : ((w.alloc (.cells (o.cs) 43)).alloc (.cells (o.cs) 43)).cell? ⟨w.heap.size, 5, none⟩ = some (.bool o.ext) := X.out.cell 5
  have x15 : ((w.alloc (.cells (o.cs) 43)).alloc (.cells (o.cs) 43)).cell? ⟨w.heap.size, 15, none⟩ = some (.string o.tx) := X.out.cell 15
  have x16 : ((w.alloc (.cells (o.cs) 43)).alloc (.cells (o.cs) 43)).cell? ⟨w.heap.size, 16, none⟩ = some (.bool o.ca) := X.out.cell 16
  have x17 : ((w.alloc (.cells (o.cs) 43)).alloc (.cells (o.cs) 43)).cell? ⟨w.heap.size, 17, none⟩ = some (.bool o.ma) := X.out.cell 17
  have x1 : ((w.alloc (.cells (o.cs) 43)).alloc (.cells (o.cs) 43)).cell? ⟨w.heap.size, 1, none⟩ = some (.int .u8 o.pr.k) := X.out.cell 1
  have x2 : ((w.alloc (.cells (o.cs) 43)).alloc (.cells (o.cs) 43)).cell? ⟨w.heap.size, 2, none⟩ = some (.float .f64 o.pr.x) := X.out.cell 2
  have x3 : ((w.alloc (.cells (o.cs) 43)).alloc (.cells (o.cs) 43)).cell? ⟨w.heap.size, 3, none⟩ = some (.string o.pr.s) := X.out.cell 3
  have x4 : ((w.alloc (.cells (o.cs) 43)).alloc (.cells (o.cs) 43)).cell? ⟨w.heap.size, 4, none⟩ = some (.int .i64 o.pr.r) := X.out.cell 4
  have x7 : ((w.alloc (.cells (o.cs) 43)).alloc (.cells (o.cs) 43)).cell? ⟨w.heap.size, 7, none⟩ = some (.int .u8 o.tg.k) := X.out.cell 7
  have x8 : ((w.alloc (.cells (o.cs) 43)).alloc (.cells (o.cs) 43)).cell? ⟨w.heap.size, 8, none⟩ = some (.float .f64 o.tg.x) := X.out.cell 8
  have x9 : ((w.alloc (.cells (o.cs) 43)).alloc (.cells (o.cs) 43)).cell? ⟨w.heap.size, 9, none⟩ = some (.string o.tg.s) := X.out.cell 9
  have x10 : ((w.alloc (.cells (o.cs) 43)).alloc (.cells (o.cs) 43)).cell? ⟨w.heap.size, 10, none⟩ = some (.int .i64 o.tg.r) := X.out.cell 10
  have x11 : ((w.alloc (.cells (o.cs) 43)).alloc (.cells (o.cs) 43)).cell? ⟨w.heap.size, 11, none⟩ = some (.int .u8 o.hd.k) := X.out.cell 11
  have x12 : ((w.alloc (.cells (o.cs) 43)).alloc (.cells (o.cs) 43)).cell? ⟨w.heap.size, 12, none⟩ = some (.float .f64 o.hd.x) := X.out.cell 12
  have x13 : ((w.alloc (.cells (o.cs) 43)).alloc (.cells (o.cs) 43)).cell? ⟨w.heap.size, 13, none⟩ = some (.string o.hd.s) := X.out.cell 13
  have x14 : ((w.alloc (.cells (o.cs) 43)).alloc (.cells (o.cs) 43)).cell? ⟨w.heap.size, 14, none⟩ = some (.int .i64 o.hd.r) := X.out.cell 14
  have y0 : ((w.alloc (.cells (o.cs) 43)).alloc (.cells (o.cs) 43)).cell? ⟨w.heap.size + 1, 0, none⟩ = some (.int .u8 o.kd) := Y.out.cell 0
  have y5 : ((w.alloc (.cells (o.cs) 43)).alloc (.cells (o.cs) 43)).cell? ⟨w.heap.size + 1, 5, none⟩ = some (.bool o.ext) := Y.out.cell 5
  have y15 : ((w.alloc (.cells (o.cs) 43)).alloc (.cells (o.cs) 43)).cell? ⟨w.heap.size + 1, 15, none⟩ = some (.string o.tx) := Y.out.cell 15
  have y16 : ((w.alloc (.cells (o.cs) 43)).alloc (.cells (o.cs) 43)).cell? ⟨w.heap.size + 1, 16, none⟩ = some (.bool o.ca) := Y.out.cell 16
  have y17 : ((w.alloc (.cells (o.cs) 43)).alloc (.cells (o.cs) 43)).cell? ⟨w.heap.size + 1, 17, none⟩ = some (.bool o.ma) := Y.out.cell 17
  have y1 : ((w.alloc (.cells (o.cs) 43)).alloc (.cells (o.cs) 43)).cell? ⟨w.heap.size + 1, 1, none⟩ = some (.int .u8 o.pr.k) := Y.out.cell 1
  have y2 : ((w.alloc (.cells (o.cs) 43)).alloc (.cells (o.cs) 43)).cell? ⟨w.heap.size + 1, 2, none⟩ = some (.float .f64 o.pr.x) := Y.out.cell 2
  have y3 : ((w.alloc (.cells (o.cs) 43)).alloc (.cells (o.cs) 43)).cell? ⟨w.heap.size + 1, 3, none⟩ = some (.string o.pr.s) := Y.out.cell 3
  have y4 : ((w.alloc (.cells (o.cs) 43)).alloc (.cells (o.cs) 43)).cell? ⟨w.heap.size + 1, 4, none⟩ = some (.int .i64 o.pr.r) := Y.out.cell 4
  have y7 : ((w.alloc (.cells (o.cs) 43)).alloc (.cells (o.cs) 43)).cell? ⟨w.heap.size + 1, 7, none⟩ = some (.int .u8 o.tg.k) := Y.out.cell 7
  have y8 : ((w.alloc (.cells (o.cs) 43)).alloc (.cells (o.cs) 43)).cell? ⟨w.heap.size + 1, 8, none⟩ = some (.float .f64 o.tg.x) := Y.out.cell 8
  have y9 : ((w.alloc (.cells (o.cs) 43)).alloc (.cells (o.cs) 43)).cell? ⟨w.heap.size + 1, 9, none⟩ = some (.string o.tg.s) := Y.out.cell 9
  have y10 : ((w.alloc (.cells (o.cs) 43)).alloc (.cells (o.cs) 43)).cell? ⟨w.heap.size + 1, 10, none⟩ = some (.int .i64 o.tg.r) := Y.out.cell 10
  have y11 : ((w.alloc (.cells (o.cs) 43)).alloc (.cells (o.cs) 43)).cell? ⟨w.heap.size + 1, 11, none⟩ = some (.int .u8 o.hd.k) := Y.out.cell 11
  have y12 : ((w.alloc (.cells (o.cs) 43)).alloc (.cells (o.cs) 43)).cell? ⟨w.heap.size + 1, 12, none⟩ = some (.float .f64 o.hd.x) := Y.out.cell 12
  have y13 : ((w.alloc (.cells (o.cs) 43)).alloc (.cells (o.cs) 43)).cell? ⟨w.heap.size + 1, 13, none⟩ = some (.string o.hd.s) := Y.out.cell 13
  have y14 : ((w.alloc (.cells (o.cs) 43)).alloc (.cells (o.cs) 43)).cell? ⟨w.heap.size + 1, 14, none⟩ = some (.int .i64 o.hd.r) := Y.out.cell 14
  have x6 : ((w.alloc (.cells (o.cs) 43)).alloc (.cells (o.cs) 43)).cell? ⟨w.heap.size, 6, none⟩ = some (.slice none 0 0) := (X.out.cell 6).trans (congrArg some HP.out)
  have y6 : ((w.alloc (.cells (o.cs) 43)).alloc (.cells (o.cs) 43)).cell? ⟨w.heap.size + 1, 6, none⟩ = some (.slice none 0 0) := (Y.out.cell 6).trans (congrArg some HP.out)
  go_wp2_with fail
  refine (rlike_self o.pr _).mono ?_; rintro e w2 ⟨rfl, hb⟩
  replace X := hidB (X.out.on hb); replace Y := hidB (Y.out.on hb); replace B := hidB (B.out.trans (hb.mono B.out.size)); clear hb
  clear x0 y0 x1 y1 x2 y2 x3 y3 x4 y4 x5 y5 x6 y6 x7 y7 x8 y8 x9 y9 x10 y10 x11 y11 x12 y12 x13 y13 x14 y14 x15 y15 x16 y16 x17 y17
  have x0 : w2.cell? ⟨w.heap.size, 0, none⟩ = some (.int .u8 o.kd) := X.out.cell 0
  have x5 : w2.cell? ⟨w.heap.size, 5, none⟩ = some (.bool o.ext) := X.out.cell 5
  have x15 : w2.cell? ⟨w.heap.size, 15, none⟩ = some (.string o.tx) := X.out.cell 15
  have x16 : w2.cell? ⟨w.heap.size, 16, none⟩ = some (.bool o.ca) := X.out.cell 16
  have x17 : w2.cell? ⟨w.heap.size, 17, none⟩ = some (.bool o.ma) := X.out.cell 17
  have x1 : w2.cell? ⟨w.heap.size, 1, none⟩ = some (.int .u8 o.pr.k) := X.out.cell 1
  have x2 : w2.cell? ⟨w.heap.size, 2, none⟩ = some (.float .f64 o.pr.x) := X.out.cell 2
  have x3 : w2.cell? ⟨w.heap.size, 3, none⟩ = some (.string o.pr.s) := X.out.cell 3
  have x4 : w2.cell? ⟨w.heap.size, 4, none⟩ = some (.int .i64 o.pr.r) := X.out.cell 4
  have x7 : w2.cell? ⟨w.heap.size, 7, none⟩ = some (.int .u8 o.tg.k) := X.out.cell 7
  have x8 : w2.cell? ⟨w.heap.size, 8, none⟩ = some (.float .f64 o.tg.x) := X.out.cell 8
  have x9 : w2.cell? ⟨w.heap.size, 9, none⟩ = some (.string o.tg.s) := X.out.cell 9
  have x10 : w2.cell? ⟨w.heap.size, 10, none⟩ = some (.int .i64 o.tg.r) := X.out.cell 10
  have x11 : w2.cell? ⟨w.heap.size, 11, none⟩ = some (.int .u8 o.hd.k) := X.out.cell 11
  have x12 : w2.cell? ⟨w.heap.size, 12, none⟩ = some (.float .f64 o.hd.x) := X.out.cell 12
  have x13 : w2.cell? ⟨w.heap.size, 13, none⟩ = some (.string o.hd.s) := X.out.cell 13
  have x14 : w2.cell? ⟨w.heap.size, 14, none⟩ = some (.int .i64 o.hd.r) := X.out.cell 14
  have y0 : w2.cell? ⟨w.heap.size + 1, 0, none⟩ = some (.int .u8 o.kd) := Y.out.cell 0
  have y5 : w2.cell? ⟨w.heap.size + 1, 5, none⟩ = some (.bool o.ext) := Y.out.cell 5
  have y15 : w2.cell? ⟨w.heap.size + 1, 15, none⟩ = some (.string o.tx) := Y.out.cell 15
  have y16 : w2.cell? ⟨w.heap.size + 1, 16, none⟩ = some (.bool o.ca) := Y.out.cell 16
  have y17 : w2.cell? ⟨w.heap.size + 1, 17, none⟩ = some (.bool o.ma) := Y.out.cell 17
  have y1 : w2.cell? ⟨w.heap.size + 1, 1, none⟩ = some (.int .u8 o.pr.k) := Y.out.cell 1
  have y2 : w2.cell? ⟨w.heap.size + 1, 2, none⟩ = some (.float .f64 o.pr.x) := Y.out.cell 2
  have y3 : w2.cell? ⟨w.heap.size + 1, 3, none⟩ = some (.string o.pr.s) := Y.out.cell 3
  have y4 : w2.cell? ⟨w.heap.size + 1, 4, none⟩ = some (.int .i64 o.pr.r) := Y.out.cell 4
  have y7 : w2.cell? ⟨w.heap.size + 1, 7, none⟩ = some (.int .u8 o.tg.k) := Y.out.cell 7
  have y8 : w2.cell? ⟨w.heap.size + 1, 8, none⟩ = some (.float .f64 o.tg.x) := Y.out.cell 8
  have y9 : w2.cell? ⟨w.heap.size + 1, 9, none⟩ = some (.string o.tg.s) := Y.out.cell 9
  have y10 : w2.cell? ⟨w.heap.size + 1, 10, none⟩ = some (.int .i64 o.tg.r) := Y.out.cell 10
  have y11 : w2.cell? ⟨w.heap.size + 1, 11, none⟩ = some (.int .u8 o.hd.k) := Y.out.cell 11
  have y12 : w2.cell? ⟨w.heap.size + 1, 12, none⟩ = some (.float .f64 o.hd.x) := Y.out.cell 12
  have y13 : w2.cell? ⟨w.heap.size + 1, 13, none⟩ = some (.string o.hd.s) := Y.out.cell 13
  have y14 : w2.cell? ⟨w.heap.size + 1, 14, none⟩ = some (.int .i64 o.hd.r) := Y.out.cell 14
  have x6 : w2.cell? ⟨w.heap.size, 6, none⟩ = some (.slice none 0 0) := (X.out.cell 6).trans (congrArg some HP.out)
  have y6 : w2.cell? ⟨w.heap.size + 1, 6, none⟩ = some (.slice none 0 0) := (Y.out.cell 6).trans (congrArg some HP.out)
  go_wp2_with fail
  refine (rlike_self o.tg _).mono ?_; rintro e w3 ⟨rfl, hb⟩
  replace X := hidB (X.out.on hb); replace Y := hidB (Y.out.on hb); replace B := hidB (B.out.trans (hb.mono B.out.size)); clear hb
  clear x0 y0 x1 y1 x2 y2 x3 y3 x4 y4 x5 y5 x6 y6 x7 y7 x8 y8 x9 y9 x10 y10 x11 y11 x12 y12 x13 y13 x14 y14 x15 y15 x16 y16 x17 y17
  have x0 : w3.cell? ⟨w.heap.size, 0, none⟩ = some (.int .u8 o.kd) := X.out.cell 0
  have x5 : w3.cell? ⟨w.heap.size, 5, none⟩ = some (.bool o.ext) := X.out.cell 5
  have x15 : w3.cell? ⟨w.heap.size, 15, none⟩ = some (.string o.tx) := X.out.cell 15
  have x16 : w3.cell? ⟨w.heap.size, 16, none⟩ = some (.bool o.ca) := X.out.cell 16
  have x17 : w3.cell? ⟨w.heap.size, 17, none⟩ = some (.bool o.ma) := X.out.cell 17
  have x1 : w3.cell? ⟨w.heap.size, 1, none⟩ = some (.int .u8 o.pr.k) := X.out.cell 1
  have x2 : w3.cell? ⟨w.heap.size, 2, none⟩ = some (.float .f64 o.pr.x) := X.out.cell 2
  have x3 : w3.cell? ⟨w.heap.size, 3, none⟩ = some (.string o.pr.s) := X.out.cell 3
  have x4 : w3.cell? ⟨w.heap.size, 4, none⟩ = some (.int .i64 o.pr.r) := X.out.cell 4
  have x7 : w3.cell? ⟨w.heap.size, 7, none⟩ = some (.int .u8 o.tg.k) := X.out.cell 7
  have x8 : w3.cell? ⟨w.heap.size, 8, none⟩ = some (.float .f64 o.tg.x) := X.out.cell 8
  have x9 : w3.cell? ⟨w.heap.size, 9, none⟩ = some (.string o.tg.s) := X.out.cell 9
  have x10 : w3.cell? ⟨w.heap.size, 10, none⟩ = some (.int .i64 o.tg.r) := X.out.cell 10
  have x11 : w3.cell? ⟨w.heap.size, 11, none⟩ = some (.int .u8 o.hd.k) := X.out.cell 11
  have x12 : w3.cell? ⟨w.heap.size, 12, none⟩ = some (.float .f64 o.hd.x) := X.out.cell 12
  have x13 : w3.cell? ⟨w.heap.size, 13, none⟩ = some (.string o.hd.s) := X.out.cell 13
  have x14 : w3.cell? ⟨w.heap.size, 14, none⟩ = some (.int .i64 o.hd.r) := X.out.cell 14
  have y0 : w3.cell? ⟨w.heap.size + 1, 0, none⟩ = some (.int .u8 o.kd) := Y.out.cell 0
  have y5 : w3.cell? ⟨w.heap.size + 1, 5, none⟩ = some (.bool o.ext) := Y.out.cell 5
  have y15 : w3.cell? ⟨w.heap.size + 1, 15, none⟩ = some (.string o.tx) := Y.out.cell 15
  have y16 : w3.cell? ⟨w.heap.size + 1, 16, none⟩ = some (.bool o.ca) := Y.out.cell 16
  have y17 : w3.cell? ⟨w.heap.size + 1, 17, none⟩ = some (.bool o.ma) := Y.out.cell 17
  have y1 : w3.cell? ⟨w.heap.size + 1, 1, none⟩ = some (.int .u8 o.pr.k) := Y.out.cell 1
  have y2 : w3.cell? ⟨w.heap.size + 1, 2, none⟩ = some (.float .f64 o.pr.x) := Y.out.cell 2
  have y3 : w3.cell? ⟨w.heap.size + 1, 3, none⟩ = some (.string o.pr.s) := Y.out.cell 3
  have y4 : w3.cell? ⟨w.heap.size + 1, 4, none⟩ = some (.int .i64 o.pr.r) := Y.out.cell 4
  have y7 : w3.cell? ⟨w.heap.size + 1, 7, none⟩ = some (.int .u8 o.tg.k) := Y.out.cell 7
  have y8 : w3.cell? ⟨w.heap.size + 1, 8, none⟩ = some (.float .f64 o.tg.x) := Y.out.cell 8
  have y9 : w3.cell? ⟨w.heap.size + 1, 9, none⟩ = some (.string o.tg.s) := Y.out.cell 9
  have y10 : w3.cell? ⟨w.heap.size + 1, 10, none⟩ = some (.int .i64 o.tg.r) := Y.out.cell 10
  have y11 : w3.cell? ⟨w.heap.size + 1, 11, none⟩ = some (.int .u8 o.hd.k) := Y.out.cell 11
  have y12 : w3.cell? ⟨w.heap.size + 1, 12, none⟩ = some (.float .f64 o.hd.x) := Y.out.cell 12
  have y13 : w3.cell? ⟨w.heap.size + 1, 13, none⟩ = some (.string o.hd.s) := Y.out.cell 13
  have y14 : w3.cell? ⟨w.heap.size + 1, 14, none⟩ = some (.int .i64 o.hd.r) := Y.out.cell 14
  have x6 : w3.cell? ⟨w.heap.size, 6, none⟩ = some (.slice none 0 0) := (X.out.cell 6).trans (congrArg some HP.out)
  have y6 : w3.cell? ⟨w.heap.size + 1, 6, none⟩ = some (.slice none 0 0) := (Y.out.cell 6).trans (congrArg some HP.out)
  go_wp2_with fail
  refine (rlike_self o.hd _).mono ?_; rintro e w4 ⟨rfl, hb⟩
  replace X := hidB (X.out.on hb); replace Y := hidB (Y.out.on hb); replace B := hidB (B.out.trans (hb.mono B.out.size)); clear hb
  clear x0 y0 x1 y1 x2 y2 x3 y3 x4 y4 x5 y5 x6 y6 x7 y7 x8 y8 x9 y9 x10 y10 x11 y11 x12 y12 x13 y13 x14 y14 x15 y15 x16 y16 x17 y17
  have x0 : w4.cell? ⟨w.heap.size, 0, none⟩ = some (.int .u8 o.kd) := X.out.cell 0
  have x5 : w4.cell? ⟨w.heap.size, 5, none⟩ = some (.bool o.ext) := X.out.cell 5
  have x15 : w4.cell? ⟨w.heap.size, 15, none⟩ = some (.string o.tx) := X.out.cell 15
  have x16 : w4.cell? ⟨w.heap.size, 16, none⟩ = some (.bool o.ca) := X.out.cell 16
  have x17 : w4.cell? ⟨w.heap.size, 17, none⟩ = some (.bool o.ma) := X.out.cell 17
  have x1 : w4.cell? ⟨w.heap.size, 1, none⟩ = some (.int .u8 o.pr.k) := X.out.cell 1
  have x2 : w4.cell? ⟨w.heap.size, 2, none⟩ = some (.float .f64 o.pr.x) := X.out.cell 2
  have x3 : w4.cell? ⟨w.heap.size, 3, none⟩ = some (.string o.pr.s) := X.out.cell 3
  have x4 : w4.cell? ⟨w.heap.size, 4, none⟩ = some (.int .i64 o.pr.r) := X.out.cell 4
  have x7 : w4.cell? ⟨w.heap.size, 7, none⟩ = some (.int .u8 o.tg.k) := X.out.cell 7
  have x8 : w4.cell? ⟨w.heap.size, 8, none⟩ = some (.float .f64 o.tg.x) := X.out.cell 8
  have x9 : w4.cell? ⟨w.heap.size, 9, none⟩ = some (.string o.tg.s) := X.out.cell 9
  have x10 : w4.cell? ⟨w.heap.size, 10, none⟩ = some (.int .i64 o.tg.r) := X.out.cell 10
  have x11 : w4.cell? ⟨w.heap.size, 11, none⟩ = some (.int .u8 o.hd.k) := X.out.cell 11
  have x12 : w4.cell? ⟨w.heap.size, 12, none⟩ = some (.float .f64 o.hd.x) := X.out.cell 12
  have x13 : w4.cell? ⟨w.heap.size, 13, none⟩ = some (.string o.hd.s) := X.out.cell 13
  have x14 : w4.cell? ⟨w.heap.size, 14, none⟩ = some (.int .i64 o.hd.r) := X.out.cell 14
  have y0 : w4.cell? ⟨w.heap.size + 1, 0, none⟩ = some (.int .u8 o.kd) := Y.out.cell 0
  have y5 : w4.cell? ⟨w.heap.size + 1, 5, none⟩ = some (.bool o.ext) := Y.out.cell 5
  have y15 : w4.cell? ⟨w.heap.size + 1, 15, none⟩ = some (.string o.tx) := Y.out.cell 15
  have y16 : w4.cell? ⟨w.heap.size + 1, 16, none⟩ = some (.bool o.ca) := Y.out.cell 16
  have y17 : w4.cell? ⟨w.heap.size + 1, 17, none⟩ = some (.bool o.ma) := Y.out.cell 17
  have y1 : w4.cell? ⟨w.heap.size + 1, 1, none⟩ = some (.int .u8 o.pr.k) := Y.out.cell 1
  have y2 : w4.cell? ⟨w.heap.size + 1, 2, none⟩ = some (.float .f64 o.pr.x) := Y.out.cell 2
  have y3 : w4.cell? ⟨w.heap.size + 1, 3, none⟩ = some (.string o.pr.s) := Y.out.cell 3
  have y4 : w4.cell? ⟨w.heap.size + 1, 4, none⟩ = some (.int .i64 o.pr.r) := Y.out.cell 4
  have y7 : w4.cell? ⟨w.heap.size + 1, 7, none⟩ = some (.int .u8 o.tg.k) := Y.out.cell 7
  have y8 : w4.cell? ⟨w.heap.size + 1, 8, none⟩ = some (.float .f64 o.tg.x) := Y.out.cell 8
  have y9 : w4.cell? ⟨w.heap.size + 1, 9, none⟩ = some (.string o.tg.s) := Y.out.cell 9
  have y10 : w4.cell? ⟨w.heap.size + 1, 10, none⟩ = some (.int .i64 o.tg.r) := Y.out.cell 10
  have y11 : w4.cell? ⟨w.heap.size + 1, 11, none⟩ = some (.int .u8 o.hd.k) := Y.out.cell 11
  have y12 : w4.cell? ⟨w.heap.size + 1, 12, none⟩ = some (.float .f64 o.hd.x) := Y.out.cell 12
  have y13 : w4.cell? ⟨w.heap.size + 1, 13, none⟩ = some (.string o.hd.s) := Y.out.cell 13
  have y14 : w4.cell? ⟨w.heap.size + 1, 14, none⟩ = some (.int .i64 o.hd.r) := Y.out.cell 14
  have x6 : w4.cell? ⟨w.heap.size, 6, none⟩ = some (.slice none 0 0) := (X.out.cell 6).trans (congrArg some HP.out)
  have y6 : w4.cell? ⟨w.heap.size + 1, 6, none⟩ = some (.slice none 0 0) := (Y.out.cell 6).trans (congrArg some HP.out)
  go_upto_region 3 with fail
  go_wp2_with fail
  go_loopw [5] (fun s5 wr => s5 = .int .i64 0 ∧ wr.cell? ⟨w.heap.size, 6, none⟩ = some (.slice none 0 0) ∧ Below w.heap.size w wr) (fun _ _ => 0)
  case atStart => exact ⟨rfl, x6, B.out⟩
  case round =>
    clear x0 y0 x1 y1 x2 y2 x3 y3 x4 y4 x5 y5 x6 y6 x7 y7 x8 y8 x9 y9 x10 y10 x11 y11 x12 y12 x13 y13 x14 y14 x15 y15 x16 y16 x17 y17
    obtain ⟨rfl, x6, hb⟩ := hrel
    have B0 := hidB hb
    clear hb
    go_wp2_with fail
    go_ret
    exact ⟨rfl, B0.out⟩
set_option maxHeartbeats 8000000 in
set_option maxRecDepth 100000 in
theorem rlikeX_self (x : OI) (k1 k2 : Value) (ks : List KI) (w : World) (hr1 : RdL KI.cells 2 ks k1 w) (hr2 : RdL KI.cells 2 ks k2 w) : Calls Try.prog 62 #[(x.put k1).a, (x.put k2).a] w fun e w' => e = .returned (.bool true) ∧ Below w.heap.size w w' := by
  have HR1 := hidB (fun W (hb : Below w.heap.size w W) => hr1.on hb)
  have HR2 := hidB (fun W (hb : Below w.heap.size w W) => hr2.on hb)
  clear hr1 hr2
  have X := hidB (show Bk ((w.alloc (.cells ((x.put k1).cs) 36)).alloc (.cells ((x.put k2).cs) 36)) (w.heap.size) 36 ((x.put k1).cs) from (Bk.new w _ _).alloc _)
  have Y := hidB (show Bk ((w.alloc (.cells ((x.put k1).cs) 36)).alloc (.cells ((x.put k2).cs) 36)) (w.heap.size + 1) 36 ((x.put k2).cs) from Bk.new2 w _ _ _)
  have B := hidB (show Below w.heap.size w ((w.alloc (.cells ((x.put k1).cs) 36)).alloc (.cells ((x.put k2).cs) 36)) from (box_one w _).alloc (by simp) _)
  go_enter Try.func62, Try.ntmps62
  go_upto_region 1 with fail
  generalize hW : ((w.alloc (.cells ((x.put k1).cs) 36)).alloc (.cells ((x.put k2).cs) 36)) = w1 at *
  clear hW
  have x0 : w1.cell? ⟨w.heap.size, 0, none⟩ = some (.int .u8 x.kd) := X.out.cell 0
  have x5 : w1.cell? ⟨w.heap.size, 5, none⟩ = some (.bool x.b) := X.out.cell 5
  have x6 : w1.cell? ⟨w.heap.size, 6, none⟩ = some (.bool x.fo) := X.out.cell 6
  have x23 : w1.cell? ⟨w.heap.size, 23, none⟩ = some (k1) := X.out.cell 23
  have x24 : w1.cell? ⟨w.heap.size, 24, none⟩ = some (.int .u8 x.er) := X.out.cell 24
  have x25 : w1.cell? ⟨w.heap.size, 25, none⟩ = some (.string x.tx) := X.out.cell 25
  have y0 : w1.cell? ⟨w.heap.size + 1, 0, none⟩ = some (.int .u8 x.kd) := Y.out.cell 0
  have y5 : w1.cell? ⟨w.heap.size + 1, 5, none⟩ = some (.bool x.b) := Y.out.cell 5
  have y6 : w1.cell? ⟨w.heap.size + 1, 6, none⟩ = some (.bool x.fo) := Y.out.cell 6
  have y23 : w1.cell? ⟨w.heap.size + 1, 23, none⟩ = some (k2) := Y.out.cell 23
  have y24 : w1.cell? ⟨w.heap.size + 1, 24, none⟩ = some (.int .u8 x.er) := Y.out.cell 24
  have y25 : w1.cell? ⟨w.heap.size + 1, 25, none⟩ = some (.string x.tx) := Y.out.cell 25
  go_wp2_with (first | ((with_reducible refine ldId 24 (.tmp 11) ?_); refine wpList_wload_mid 24 (.tmp 11) (by rfl) (by kernel_rfl) (w.heap.size) 1 (by rfl) (x.v.cells) _ (by exact Bk.mid X.out 1 _ rfl) Try.underlying24 (by rfl) (by kernel_rfl) ?_) | ((with_reducible refine ldId 24 (.tmp 13) ?_); refine wpList_wload_mid 24 (.tmp 13) (by rfl) (by kernel_rfl) (w.heap.size + 1) 1 (by rfl) (x.v.cells) _ (by exact Bk.mid Y.out 1 _ rfl) Try.underlying24 (by rfl) (by kernel_rfl) ?_))
  refine (rlike_self x.v _).mono ?_; rintro e w2 ⟨rfl, hb⟩
  replace X := hidB (X.out.on hb); replace Y := hidB (Y.out.on hb); replace B := hidB (B.out.trans (hb.mono B.out.size)); clear hb
  clear x0 y0 x5 y5 x6 y6 x23 y23 x24 y24 x25 y25
  have x0 : w2.cell? ⟨w.heap.size, 0, none⟩ = some (.int .u8 x.kd) := X.out.cell 0
  have x5 : w2.cell? ⟨w.heap.size, 5, none⟩ = some (.bool x.b) := X.out.cell 5
  have x6 : w2.cell? ⟨w.heap.size, 6, none⟩ = some (.bool x.fo) := X.out.cell 6
  have x23 : w2.cell? ⟨w.heap.size, 23, none⟩ = some (k1) := X.out.cell 23
  have x24 : w2.cell? ⟨w.heap.size, 24, none⟩ = some (.int .u8 x.er) := X.out.cell 24
  have x25 : w2.cell? ⟨w.heap.size, 25, none⟩ = some (.string x.tx) := X.out.cell 25
  have y0 : w2.cell? ⟨w.heap.size + 1, 0, none⟩ = some (.int .u8 x.kd) := Y.out.cell 0
  have y5 : w2.cell? ⟨w.heap.size + 1, 5, none⟩ = some (.bool x.b) := Y.out.cell 5
  have y6 : w2.cell? ⟨w.heap.size + 1, 6, none⟩ = some (.bool x.fo) := Y.out.cell 6
  have y23 : w2.cell? ⟨w.heap.size + 1, 23, none⟩ = some (k2) := Y.out.cell 23
  have y24 : w2.cell? ⟨w.heap.size + 1, 24, none⟩ = some (.int .u8 x.er) := Y.out.cell 24
  have y25 : w2.cell? ⟨w.heap.size + 1, 25, none⟩ = some (.string x.tx) := Y.out.cell 25
  go_wp2_with (first | ((with_reducible refine ldId 33 (.tmp 32) ?_); refine wpList_wload_mid 33 (.tmp 32) (by rfl) (by kernel_rfl) (w.heap.size) 7 (by rfl) (x.d.cs.toList) _ (by exact Bk.mid X.out 7 _ rfl) Try.underlying33 (by rfl) (by kernel_rfl) ?_) | ((with_reducible refine ldId 33 (.tmp 34) ?_); refine wpList_wload_mid 33 (.tmp 34) (by rfl) (by kernel_rfl) (w.heap.size + 1) 7 (by rfl) (x.d.cs.toList) _ (by exact Bk.mid Y.out 7 _ rfl) Try.underlying33 (by rfl) (by kernel_rfl) ?_))
  refine (rlikeD_self x.d _).mono ?_; rintro e w3 ⟨rfl, hb⟩
  replace X := hidB (X.out.on hb); replace Y := hidB (Y.out.on hb); replace B := hidB (B.out.trans (hb.mono B.out.size)); clear hb
  clear x0 y0 x5 y5 x6 y6 x23 y23 x24 y24 x25 y25
  have x0 : w3.cell? ⟨w.heap.size, 0, none⟩ = some (.int .u8 x.kd) := X.out.cell 0
  have x5 : w3.cell? ⟨w.heap.size, 5, none⟩ = some (.bool x.b) := X.out.cell 5
  have x6 : w3.cell? ⟨w.heap.size, 6, none⟩ = some (.bool x.fo) := X.out.cell 6
  have x23 : w3.cell? ⟨w.heap.size, 23, none⟩ = some (k1) := X.out.cell 23
  have x24 : w3.cell? ⟨w.heap.size, 24, none⟩ = some (.int .u8 x.er) := X.out.cell 24
  have x25 : w3.cell? ⟨w.heap.size, 25, none⟩ = some (.string x.tx) := X.out.cell 25
  have y0 : w3.cell? ⟨w.heap.size + 1, 0, none⟩ = some (.int .u8 x.kd) := Y.out.cell 0
  have y5 : w3.cell? ⟨w.heap.size + 1, 5, none⟩ = some (.bool x.b) := Y.out.cell 5
  have y6 : w3.cell? ⟨w.heap.size + 1, 6, none⟩ = some (.bool x.fo) := Y.out.cell 6
  have y23 : w3.cell? ⟨w.heap.size + 1, 23, none⟩ = some (k2) := Y.out.cell 23
  have y24 : w3.cell? ⟨w.heap.size + 1, 24, none⟩ = some (.int .u8 x.er) := Y.out.cell 24
  have y25 : w3.cell? ⟨w.heap.size + 1, 25, none⟩ = some (.string x.tx) := Y.out.cell 25
  go_wp2_with fail
  refine (rkeys_self ks k1 k2 _ (HR1.out _ B.out) (HR2.out _ B.out)).mono ?_; rintro e w4 ⟨rfl, hb⟩
  replace X := hidB (X.out.on hb); replace Y := hidB (Y.out.on hb); replace B := hidB (B.out.trans (hb.mono B.out.size)); clear hb
  clear x0 y0 x5 y5 x6 y6 x23 y23 x24 y24 x25 y25
  have x0 : w4.cell? ⟨w.heap.size, 0, none⟩ = some (.int .u8 x.kd) := X.out.cell 0
  have x5 : w4.cell? ⟨w.heap.size, 5, none⟩ = some (.bool x.b) := X.out.cell 5
  have x6 : w4.cell? ⟨w.heap.size, 6, none⟩ = some (.bool x.fo) := X.out.cell 6
  have x23 : w4.cell? ⟨w.heap.size, 23, none⟩ = some (k1) := X.out.cell 23
  have x24 : w4.cell? ⟨w.heap.size, 24, none⟩ = some (.int .u8 x.er) := X.out.cell 24
  have x25 : w4.cell? ⟨w.heap.size, 25, none⟩ = some (.string x.tx) := X.out.cell 25
  have y0 : w4.cell? ⟨w.heap.size + 1, 0, none⟩ = some (.int .u8 x.kd) := Y.out.cell 0
  have y5 : w4.cell? ⟨w.heap.size + 1, 5, none⟩ = some (.bool x.b) := Y.out.cell 5
  have y6 : w4.cell? ⟨w.heap.size + 1, 6, none⟩ = some (.bool x.fo) := Y.out.cell 6
  have y23 : w4.cell? ⟨w.heap.size + 1, 23, none⟩ = some (k2) := Y.out.cell 23
  have y24 : w4.cell? ⟨w.heap.size + 1, 24, none⟩ = some (.int .u8 x.er) := Y.out.cell 24
  have y25 : w4.cell? ⟨w.heap.size + 1, 25, none⟩ = some (.string x.tx) := Y.out.cell 25
  go_wp2_with fail
  go_ret
  exact ⟨rfl, B.out⟩
set_option maxHeartbeats 8000000 in
set_option maxRecDepth 100000 in
theorem rlikeA_self (a : AI) (k1 k2 : Value) (l : List VI) (w : World) (hr1 : RdL VI.cells 4 l k1 w) (hr2 : RdL VI.cells 4 l k2 w) : Calls Try.prog 58 #[(a.put k1).a, (a.put k2).a] w fun e w' => e = .returned (.bool true) ∧ Below w.heap.size w w' := by
  have HR1 := hidB (fun W (hb : Below w.heap.size w W) => hr1.on hb)
  have HR2 := hidB (fun W (hb : Below w.heap.size w W) => hr2.on hb)
  clear hr1 hr2
  have z1 : Try.prog.eqGuardType Try.prog.depth 38 = false := by kernel_rfl
  have X := hidB (show Bk ((w.alloc (.cells ((a.put k1).cs) 40)).alloc (.cells ((a.put k2).cs) 40)) (w.heap.size) 40 ((a.put k1).cs) from (Bk.new w _ _).alloc _)
  have Y := hidB (show Bk ((w.alloc (.cells ((a.put k1).cs) 40)).alloc (.cells ((a.put k2).cs) 40)) (w.heap.size + 1) 40 ((a.put k2).cs) from Bk.new2 w _ _ _)
  have B := hidB (show Below w.heap.size w ((w.alloc (.cells ((a.put k1).cs) 40)).alloc (.cells ((a.put k2).cs) 40)) from (box_one w _).alloc (by simp) _)
  go_enter Try.func58, Try.ntmps58
  go_upto_region 1 with fail
  generalize hW : ((w.alloc (.cells ((a.put k1).cs) 40)).alloc (.cells ((a.put k2).cs) 40)) = w1 at *
  clear hW
  have x0 : w1.cell? ⟨w.heap.size, 0, none⟩ = some (.int .u8 a.m) := X.out.cell 0
  have x1 : w1.cell? ⟨w.heap.size, 1, none⟩ = some (.int .i64 a.ob) := X.out.cell 1
  have x2 : w1.cell? ⟨w.heap.size, 2, none⟩ = some (.string a.k.s) := X.out.cell 2
  have x3 : w1.cell? ⟨w.heap.size, 3, none⟩ = some (.int .i64 a.k.n) := X.out.cell 3
  have x28 : w1.cell? ⟨w.heap.size, 28, none⟩ = some (k1) := X.out.cell 28
  have y0 : w1.cell? ⟨w.heap.size + 1, 0, none⟩ = some (.int .u8 a.m) := Y.out.cell 0
  have y1 : w1.cell? ⟨w.heap.size + 1, 1, none⟩ = some (.int .i64 a.ob) := Y.out.cell 1
  have y2 : w1.cell? ⟨w.heap.size + 1, 2, none⟩ = some (.string a.k.s) := Y.out.cell 2
  have y3 : w1.cell? ⟨w.heap.size + 1, 3, none⟩ = some (.int .i64 a.k.n) := Y.out.cell 3
  have y28 : w1.cell? ⟨w.heap.size + 1, 28, none⟩ = some (k2) := Y.out.cell 28
  go_wp2_with (first | ((with_reducible refine ldId 33 (.tmp 25) ?_); refine wpList_wload_mid 33 (.tmp 25) (by rfl) (by kernel_rfl) (w.heap.size) 4 (by rfl) (a.d.cs.toList) _ (by exact Bk.mid X.out 4 _ rfl) Try.underlying33 (by rfl) (by kernel_rfl) ?_) | ((with_reducible refine ldId 33 (.tmp 27) ?_); refine wpList_wload_mid 33 (.tmp 27) (by rfl) (by kernel_rfl) (w.heap.size + 1) 4 (by rfl) (a.d.cs.toList) _ (by exact Bk.mid Y.out 4 _ rfl) Try.underlying33 (by rfl) (by kernel_rfl) ?_))
  refine (rlikeD_self a.d _).mono ?_; rintro e w2 ⟨rfl, hb⟩
  replace X := hidB (X.out.on hb); replace Y := hidB (Y.out.on hb); replace B := hidB (B.out.trans (hb.mono B.out.size)); clear hb
  clear x0 y0 x1 y1 x2 y2 x3 y3 x28 y28
  have x0 : w2.cell? ⟨w.heap.size, 0, none⟩ = some (.int .u8 a.m) := X.out.cell 0
  have x1 : w2.cell? ⟨w.heap.size, 1, none⟩ = some (.int .i64 a.ob) := X.out.cell 1
  have x2 : w2.cell? ⟨w.heap.size, 2, none⟩ = some (.string a.k.s) := X.out.cell 2
  have x3 : w2.cell? ⟨w.heap.size, 3, none⟩ = some (.int .i64 a.k.n) := X.out.cell 3
  have x28 : w2.cell? ⟨w.heap.size, 28, none⟩ = some (k1) := X.out.cell 28
  have y0 : w2.cell? ⟨w.heap.size + 1, 0, none⟩ = some (.int .u8 a.m) := Y.out.cell 0
  have y1 : w2.cell? ⟨w.heap.size + 1, 1, none⟩ = some (.int .i64 a.ob) := Y.out.cell 1
  have y2 : w2.cell? ⟨w.heap.size + 1, 2, none⟩ = some (.string a.k.s) := Y.out.cell 2
  have y3 : w2.cell? ⟨w.heap.size + 1, 3, none⟩ = some (.int .i64 a.k.n) := Y.out.cell 3
  have y28 : w2.cell? ⟨w.heap.size + 1, 28, none⟩ = some (k2) := Y.out.cell 28
  go_wp2_with (first | ((with_reducible refine ldId 24 (.tmp 32) ?_); refine wpList_wload_mid 24 (.tmp 32) (by rfl) (by kernel_rfl) (w.heap.size) 20 (by rfl) (a.v.cells) _ (by exact Bk.mid X.out 20 _ rfl) Try.underlying24 (by rfl) (by kernel_rfl) ?_) | ((with_reducible refine ldId 24 (.tmp 34) ?_); refine wpList_wload_mid 24 (.tmp 34) (by rfl) (by kernel_rfl) (w.heap.size + 1) 20 (by rfl) (a.v.cells) _ (by exact Bk.mid Y.out 20 _ rfl) Try.underlying24 (by rfl) (by kernel_rfl) ?_))
  refine (rlike_self a.v _).mono ?_; rintro e w3 ⟨rfl, hb⟩
  replace X := hidB (X.out.on hb); replace Y := hidB (Y.out.on hb); replace B := hidB (B.out.trans (hb.mono B.out.size)); clear hb
  clear x0 y0 x1 y1 x2 y2 x3 y3 x28 y28
  have x0 : w3.cell? ⟨w.heap.size, 0, none⟩ = some (.int .u8 a.m) := X.out.cell 0
  have x1 : w3.cell? ⟨w.heap.size, 1, none⟩ = some (.int .i64 a.ob) := X.out.cell 1
  have x2 : w3.cell? ⟨w.heap.size, 2, none⟩ = some (.string a.k.s) := X.out.cell 2
  have x3 : w3.cell? ⟨w.heap.size, 3, none⟩ = some (.int .i64 a.k.n) := X.out.cell 3
  have x28 : w3.cell? ⟨w.heap.size, 28, none⟩ = some (k1) := X.out.cell 28
  have y0 : w3.cell? ⟨w.heap.size + 1, 0, none⟩ = some (.int .u8 a.m) := Y.out.cell 0
  have y1 : w3.cell? ⟨w.heap.size + 1, 1, none⟩ = some (.int .i64 a.ob) := Y.out.cell 1
  have y2 : w3.cell? ⟨w.heap.size + 1, 2, none⟩ = some (.string a.k.s) := Y.out.cell 2
  have y3 : w3.cell? ⟨w.heap.size + 1, 3, none⟩ = some (.int .i64 a.k.n) := Y.out.cell 3
  have y28 : w3.cell? ⟨w.heap.size + 1, 28, none⟩ = some (k2) := Y.out.cell 28
  go_wp2_with (first | ((with_reducible refine ldId 24 (.tmp 39) ?_); refine wpList_wload_mid 24 (.tmp 39) (by rfl) (by kernel_rfl) (w.heap.size) 24 (by rfl) (a.r.cells) _ (by exact Bk.mid X.out 24 _ rfl) Try.underlying24 (by rfl) (by kernel_rfl) ?_) | ((with_reducible refine ldId 24 (.tmp 41) ?_); refine wpList_wload_mid 24 (.tmp 41) (by rfl) (by kernel_rfl) (w.heap.size + 1) 24 (by rfl) (a.r.cells) _ (by exact Bk.mid Y.out 24 _ rfl) Try.underlying24 (by rfl) (by kernel_rfl) ?_))
  refine (rlike_self a.r _).mono ?_; rintro e w4 ⟨rfl, hb⟩
  replace X := hidB (X.out.on hb); replace Y := hidB (Y.out.on hb); replace B := hidB (B.out.trans (hb.mono B.out.size)); clear hb
  clear x0 y0 x1 y1 x2 y2 x3 y3 x28 y28
  have x0 : w4.cell? ⟨w.heap.size, 0, none⟩ = some (.int .u8 a.m) := X.out.cell 0
  have x1 : w4.cell? ⟨w.heap.size, 1, none⟩ = some (.int .i64 a.ob) := X.out.cell 1
  have x2 : w4.cell? ⟨w.heap.size, 2, none⟩ = some (.string a.k.s) := X.out.cell 2
  have x3 : w4.cell? ⟨w.heap.size, 3, none⟩ = some (.int .i64 a.k.n) := X.out.cell 3
  have x28 : w4.cell? ⟨w.heap.size, 28, none⟩ = some (k1) := X.out.cell 28
  have y0 : w4.cell? ⟨w.heap.size + 1, 0, none⟩ = some (.int .u8 a.m) := Y.out.cell 0
  have y1 : w4.cell? ⟨w.heap.size + 1, 1, none⟩ = some (.int .i64 a.ob) := Y.out.cell 1
  have y2 : w4.cell? ⟨w.heap.size + 1, 2, none⟩ = some (.string a.k.s) := Y.out.cell 2
  have y3 : w4.cell? ⟨w.heap.size + 1, 3, none⟩ = some (.int .i64 a.k.n) := Y.out.cell 3
  have y28 : w4.cell? ⟨w.heap.size + 1, 28, none⟩ = some (k2) := Y.out.cell 28
  go_wp2_with fail
  refine (rvals_self l k1 k2 _ (HR1.out _ B.out) (HR2.out _ B.out)).mono ?_; rintro e w5 ⟨rfl, hb⟩
  replace X := hidB (X.out.on hb); replace Y := hidB (Y.out.on hb); replace B := hidB (B.out.trans (hb.mono B.out.size)); clear hb
  go_wp2_with fail
  go_ret
  exact ⟨rfl, B.out⟩
set_option maxHeartbeats 8000000 in
set_option maxRecDepth 100000 in
theorem rlikeW_self (t : WI) (hp : t.ob.props = vNil) (a1 a2 b1 b2 k1 k2 : Value) (la lb : List VI) (ks : List KI) (w : World) (ha1 : RdL VI.cells 4 la a1 w) (ha2 : RdL VI.cells 4 la a2 w) (hb1 : RdL VI.cells 4 lb b1 w) (hb2 : RdL VI.cells 4 lb b2 w) (hk1 : RdL KI.cells 2 ks k1 w) (hk2 : RdL KI.cells 2 ks k2 w) : Calls Try.prog 35 #[(t.put3 a1 b1 k1).a, (t.put3 a2 b2 k2).a] w fun e w' => e = .returned (.bool true) ∧ Below w.heap.size w w' := by
  have HA1 := hidB (fun W (hb : Below w.heap.size w W) => ha1.on hb)
  have HA2 := hidB (fun W (hb : Below w.heap.size w W) => ha2.on hb)
  have HB1 := hidB (fun W (hb : Below w.heap.size w W) => hb1.on hb)
  have HB2 := hidB (fun W (hb : Below w.heap.size w W) => hb2.on hb)
  have HK1 := hidB (fun W (hb : Below w.heap.size w W) => hk1.on hb)
  have HK2 := hidB (fun W (hb : Below w.heap.size w W) => hk2.on hb)
  have HP := hidB hp
  clear ha1 ha2 hb1 hb2 hk1 hk2 hp
  have X := hidB (show Bk ((w.alloc (.cells ((t.put3 a1 b1 k1).cs) 45)).alloc (.cells ((t.put3 a2 b2 k2).cs) 45)) (w.heap.size) 45 ((t.put3 a1 b1 k1).cs) from (Bk.new w _ _).alloc _)
  have Y := hidB (show Bk ((w.alloc (.cells ((t.put3 a1 b1 k1).cs) 45)).alloc (.cells ((t.put3 a2 b2 k2).cs) 45)) (w.heap.size + 1) 45 ((t.put3 a2 b2 k2).cs) from Bk.new2 w _ _ _)
  have B := hidB (show Below w.heap.size w ((w.alloc (.cells ((t.put3 a1 b1 k1).cs) 45)).alloc (.cells ((t.put3 a2 b2 k2).cs) 45)) from (box_one w _).alloc (by simp) _)
  go_enter Try.func35, Try.ntmps35
  go_upto_region 1 with fail
  generalize hW : ((w.alloc (.cells ((t.put3 a1 b1 k1).cs) 45)).alloc (.cells ((t.put3 a2 b2 k2).cs) 45)) = w1 at *
  clear hW
  have x0 : w1.cell? ⟨w.heap.size, 0, none⟩ = some (.int .u8 t.kd) := X.out.cell 0
  have x42 : w1.cell? ⟨w.heap.size, 42, none⟩ = some (b1) := X.out.cell 42
  have y0 : w1.cell? ⟨w.heap.size + 1, 0, none⟩ = some (.int .u8 t.kd) := Y.out.cell 0
  have y42 : w1.cell? ⟨w.heap.size + 1, 42, none⟩ = some (b2) := Y.out.cell 42
  go_wp2_with (first | ((with_reducible refine ldId 40 (.tmp 11) ?_); refine wpList_wload_mid 40 (.tmp 11) (by rfl) (by kernel_rfl) (w.heap.size) 1 (by rfl) ((t.ask.put a1).cs.toList) _ (by exact Bk.mid X.out 1 _ rfl) Try.underlying40 (by rfl) (by kernel_rfl) ?_) | ((with_reducible refine ldId 40 (.tmp 13) ?_); refine wpList_wload_mid 40 (.tmp 13) (by rfl) (by kernel_rfl) (w.heap.size + 1) 1 (by rfl) ((t.ask.put a2).cs.toList) _ (by exact Bk.mid Y.out 1 _ rfl) Try.underlying40 (by rfl) (by kernel_rfl) ?_))
  refine (rlikeA_self t.ask a1 a2 la _ (HA1.out _ B.out) (HA2.out _ B.out)).mono ?_; rintro e w2 ⟨rfl, hb⟩
  replace X := hidB (X.out.on hb); replace Y := hidB (Y.out.on hb); replace B := hidB (B.out.trans (hb.mono B.out.size)); clear hb
  clear x0 y0 x42 y42
  have x0 : w2.cell? ⟨w.heap.size, 0, none⟩ = some (.int .u8 t.kd) := X.out.cell 0
  have x42 : w2.cell? ⟨w.heap.size, 42, none⟩ = some (b1) := X.out.cell 42
  have y0 : w2.cell? ⟨w.heap.size + 1, 0, none⟩ = some (.int .u8 t.kd) := Y.out.cell 0
  have y42 : w2.cell? ⟨w.heap.size + 1, 42, none⟩ = some (b2) := Y.out.cell 42
  go_wp2_with (first | ((with_reducible refine ldId 24 (.tmp 18) ?_); refine wpList_wload_mid 24 (.tmp 18) (by rfl) (by kernel_rfl) (w.heap.size) 30 (by rfl) (t.fn.cells) _ (by exact Bk.mid X.out 30 _ rfl) Try.underlying24 (by rfl) (by kernel_rfl) ?_) | ((with_reducible refine ldId 24 (.tmp 20) ?_); refine wpList_wload_mid 24 (.tmp 20) (by rfl) (by kernel_rfl) (w.heap.size + 1) 30 (by rfl) (t.fn.cells) _ (by exact Bk.mid Y.out 30 _ rfl) Try.underlying24 (by rfl) (by kernel_rfl) ?_))
  refine (rlike_self t.fn _).mono ?_; rintro e w3 ⟨rfl, hb⟩
  replace X := hidB (X.out.on hb); replace Y := hidB (Y.out.on hb); replace B := hidB (B.out.trans (hb.mono B.out.size)); clear hb
  clear x0 y0 x42 y42
  have x0 : w3.cell? ⟨w.heap.size, 0, none⟩ = some (.int .u8 t.kd) := X.out.cell 0
  have x42 : w3.cell? ⟨w.heap.size, 42, none⟩ = some (b1) := X.out.cell 42
  have y0 : w3.cell? ⟨w.heap.size + 1, 0, none⟩ = some (.int .u8 t.kd) := Y.out.cell 0
  have y42 : w3.cell? ⟨w.heap.size + 1, 42, none⟩ = some (b2) := Y.out.cell 42
  go_wp2_with (first | ((with_reducible refine ldId 24 (.tmp 25) ?_); refine wpList_wload_mid 24 (.tmp 25) (by rfl) (by kernel_rfl) (w.heap.size) 34 (by rfl) (t.th.cells) _ (by exact Bk.mid X.out 34 _ rfl) Try.underlying24 (by rfl) (by kernel_rfl) ?_) | ((with_reducible refine ldId 24 (.tmp 27) ?_); refine wpList_wload_mid 24 (.tmp 27) (by rfl) (by kernel_rfl) (w.heap.size + 1) 34 (by rfl) (t.th.cells) _ (by exact Bk.mid Y.out 34 _ rfl) Try.underlying24 (by rfl) (by kernel_rfl) ?_))
  refine (rlike_self t.th _).mono ?_; rintro e w4 ⟨rfl, hb⟩
  replace X := hidB (X.out.on hb); replace Y := hidB (Y.out.on hb); replace B := hidB (B.out.trans (hb.mono B.out.size)); clear hb
  clear x0 y0 x42 y42
  have x0 : w4.cell? ⟨w.heap.size, 0, none⟩ = some (.int .u8 t.kd) := X.out.cell 0
  have x42 : w4.cell? ⟨w.heap.size, 42, none⟩ = some (b1) := X.out.cell 42
  have y0 : w4.cell? ⟨w.heap.size + 1, 0, none⟩ = some (.int .u8 t.kd) := Y.out.cell 0
  have y42 : w4.cell? ⟨w.heap.size + 1, 42, none⟩ = some (b2) := Y.out.cell 42
  go_wp2_with (first | ((with_reducible refine ldId 24 (.tmp 32) ?_); refine wpList_wload_mid 24 (.tmp 32) (by rfl) (by kernel_rfl) (w.heap.size) 38 (by rfl) (t.fr.cells) _ (by exact Bk.mid X.out 38 _ rfl) Try.underlying24 (by rfl) (by kernel_rfl) ?_) | ((with_reducible refine ldId 24 (.tmp 34) ?_); refine wpList_wload_mid 24 (.tmp 34) (by rfl) (by kernel_rfl) (w.heap.size + 1) 38 (by rfl) (t.fr.cells) _ (by exact Bk.mid Y.out 38 _ rfl) Try.underlying24 (by rfl) (by kernel_rfl) ?_))
  refine (rlike_self t.fr _).mono ?_; rintro e w5 ⟨rfl, hb⟩
  replace X := hidB (X.out.on hb); replace Y := hidB (Y.out.on hb); replace B := hidB (B.out.trans (hb.mono B.out.size)); clear hb
  clear x0 y0 x42 y42
  have x0 : w5.cell? ⟨w.heap.size, 0, none⟩ = some (.int .u8 t.kd) := X.out.cell 0
  have x42 : w5.cell? ⟨w.heap.size, 42, none⟩ = some (b1) := X.out.cell 42
  have y0 : w5.cell? ⟨w.heap.size + 1, 0, none⟩ = some (.int .u8 t.kd) := Y.out.cell 0
  have y42 : w5.cell? ⟨w.heap.size + 1, 42, none⟩ = some (b2) := Y.out.cell 42
  go_wp2_with fail
  refine (rvals_self lb b1 b2 _ (HB1.out _ B.out) (HB2.out _ B.out)).mono ?_; rintro e w6 ⟨rfl, hb⟩
  replace X := hidB (X.out.on hb); replace Y := hidB (Y.out.on hb); replace B := hidB (B.out.trans (hb.mono B.out.size)); clear hb
  clear x0 y0 x42 y42
  have x0 : w6.cell? ⟨w.heap.size, 0, none⟩ = some (.int .u8 t.kd) := X.out.cell 0
  have x42 : w6.cell? ⟨w.heap.size, 42, none⟩ = some (b1) := X.out.cell 42
  have y0 : w6.cell? ⟨w.heap.size + 1, 0, none⟩ = some (.int .u8 t.kd) := Y.out.cell 0
  have y42 : w6.cell? ⟨w.heap.size + 1, 42, none⟩ = some (b2) := Y.out.cell 42
  go_wp2_with (first | ((with_reducible refine ldId 43 (.tmp 46) ?_); refine wpList_wload_mid 43 (.tmp 46) (by rfl) (by kernel_rfl) (w.heap.size) 43 (by rfl) (t.ob.cs.toList) _ (by exact Bk.mid X.out 43 _ rfl) Try.underlying43 (by rfl) (by kernel_rfl) ?_) | ((with_reducible refine ldId 43 (.tmp 48) ?_); refine wpList_wload_mid 43 (.tmp 48) (by rfl) (by kernel_rfl) (w.heap.size + 1) 43 (by rfl) (t.ob.cs.toList) _ (by exact Bk.mid Y.out 43 _ rfl) Try.underlying43 (by rfl) (by kernel_rfl) ?_))
  refine (rlikeJ_self t.ob HP.out _).mono ?_; rintro e w7 ⟨rfl, hb⟩
  replace X := hidB (X.out.on hb); replace Y := hidB (Y.out.on hb); replace B := hidB (B.out.trans (hb.mono B.out.size)); clear hb
  clear x0 y0 x42 y42
  have x0 : w7.cell? ⟨w.heap.size, 0, none⟩ = some (.int .u8 t.kd) := X.out.cell 0
  have x42 : w7.cell? ⟨w.heap.size, 42, none⟩ = some (b1) := X.out.cell 42
  have y0 : w7.cell? ⟨w.heap.size + 1, 0, none⟩ = some (.int .u8 t.kd) := Y.out.cell 0
  have y42 : w7.cell? ⟨w.heap.size + 1, 42, none⟩ = some (b2) := Y.out.cell 42
  go_wp2_with (first | ((with_reducible refine ldId 36 (.tmp 53) ?_); refine wpList_wload_mid 36 (.tmp 53) (by rfl) (by kernel_rfl) (w.heap.size) 61 (by rfl) ((t.out.put k1).cs.toList) _ (by exact Bk.mid X.out 61 _ rfl) Try.underlying36 (by rfl) (by kernel_rfl) ?_) | ((with_reducible refine ldId 36 (.tmp 55) ?_); refine wpList_wload_mid 36 (.tmp 55) (by rfl) (by kernel_rfl) (w.heap.size + 1) 61 (by rfl) ((t.out.put k2).cs.toList) _ (by exact Bk.mid Y.out 61 _ rfl) Try.underlying36 (by rfl) (by kernel_rfl) ?_))
  refine (rlikeX_self t.out k1 k2 ks _ (HK1.out _ B.out) (HK2.out _ B.out)).mono ?_; rintro e w8 ⟨rfl, hb⟩
  replace X := hidB (X.out.on hb); replace Y := hidB (Y.out.on hb); replace B := hidB (B.out.trans (hb.mono B.out.size)); clear hb
  clear x0 y0 x42 y42
  have x0 : w8.cell? ⟨w.heap.size, 0, none⟩ = some (.int .u8 t.kd) := X.out.cell 0
  have x42 : w8.cell? ⟨w.heap.size, 42, none⟩ = some (b1) := X.out.cell 42
  have y0 : w8.cell? ⟨w.heap.size + 1, 0, none⟩ = some (.int .u8 t.kd) := Y.out.cell 0
  have y42 : w8.cell? ⟨w.heap.size + 1, 42, none⟩ = some (b2) := Y.out.cell 42
  go_wp2_with fail
  go_ret
  exact ⟨rfl, B.out⟩

end Go.Proofs.Ytbkjbpefbdoenaa
