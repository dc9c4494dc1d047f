/-
  Small functions of the engine: outcomes, keyed methods, entries of the history, an object's value.
-/
import Derived.Test.YtbmaodlghglopaaGreatDoorMxZ
namespace Go.Proofs.YtbmaodlghglopaaGreatDoor
open Go.RowKit

def yesI (b : Bool) : OI := { OI.zero with kd := 1, b := b }
def failR (k : Int) (s : ByteArray) : OI := { OI.zero with kd := 3, er := k, tx := s }
/-- What is told of a method that is neither 5 nor 11, where nothing was thrown. -/
def toldI (m : Int) (x : OI) : OI := if m = 8 then doneI x.v else yesI x.b
def nmI (o : OJ) (n : Int) : VI := ⟨kindO o, 0, ⟨#[]⟩, n⟩
abbrev seenC (bg : Int) (a : AI) (k : KI) (x : OI) : Array Value := #[.int .i64 bg, .int .i64 a.ob, .int .u8 a.m, .string k.s, .int .i64 k.n, .bool false, .int .u8 x.kd, .int .u8 x.v.k, .float .f64 x.v.x, .string x.v.s, .int .i64 x.v.r, .bool x.b, .bool x.fo, .int .u8 x.d.has, .int .u8 x.d.v.k, .float .f64 x.d.v.x, .string x.d.v.s, .int .i64 x.d.v.r, .int .u8 x.d.g.k, .float .f64 x.d.g.x, .string x.d.g.s, .int .i64 x.d.g.r, .int .u8 x.d.t.k, .float .f64 x.d.t.x, .string x.d.t.s, .int .i64 x.d.t.r, .bool x.d.wr, .bool x.d.en, .bool x.d.cf, x.keys, .int .u8 x.er, .string x.tx]
theorem seen_one (bg : Int) (a : AI) (k : KI) (x : OI) (h : x.keys.oneCell' = true) : (seenC bg a k x).all (·.oneCell') = true := by
  rw [Array.all_eq_true_iff_forall_mem]
  simp only [seenC, List.mem_toArray, List.forall_mem_cons, one_int, one_float, one_string, one_bool, h, and_true, List.not_mem_nil, false_imp_iff, implies_true]
theorem told_key (m : Int) (x : OI) : (toldI m x).keys.oneCell' = true := by unfold toldI; split <;> rfl
set_option maxHeartbeats 8000000 in
set_option maxRecDepth 100000 in
theorem yesI_any (b : Bool) (w : World) : Calls Tryz.prog 80 #[.bool b] w fun e w' => e = .returned (yesI b).a ∧ Below w.heap.size w w' := by
  have R := hidB (show Bk (w.alloc (.cells (#[.int .u8 0, .int .u8 0, .float .f64 0, .string ⟨#[]⟩, .int .i64 0, .bool false, .bool false, .int .u8 0, .int .u8 0, .float .f64 0, .string ⟨#[]⟩, .int .i64 0, .int .u8 0, .float .f64 0, .string ⟨#[]⟩, .int .i64 0, .int .u8 0, .float .f64 0, .string ⟨#[]⟩, .int .i64 0, .bool false, .bool false, .bool false, .slice none 0 0, .int .u8 0, .string ⟨#[]⟩]) 49)) (w.heap.size) 49 (OI.zero.cs) from Bk.new w _ _)
  have B := hidB (show Below w.heap.size w (w.alloc (.cells (#[.int .u8 0, .int .u8 0, .float .f64 0, .string ⟨#[]⟩, .int .i64 0, .bool false, .bool false, .int .u8 0, .int .u8 0, .float .f64 0, .string ⟨#[]⟩, .int .i64 0, .int .u8 0, .float .f64 0, .string ⟨#[]⟩, .int .i64 0, .int .u8 0, .float .f64 0, .string ⟨#[]⟩, .int .i64 0, .bool false, .bool false, .bool false, .slice none 0 0, .int .u8 0, .string ⟨#[]⟩]) 49)) from box_one w _)
  go_enter Tryz.func80, Tryz.ntmps80
  go_upto_region 1 with fail
  generalize hW : (w.alloc (.cells (#[.int .u8 0, .int .u8 0, .float .f64 0, .string ⟨#[]⟩, .int .i64 0, .bool false, .bool false, .int .u8 0, .int .u8 0, .float .f64 0, .string ⟨#[]⟩, .int .i64 0, .int .u8 0, .float .f64 0, .string ⟨#[]⟩, .int .i64 0, .int .u8 0, .float .f64 0, .string ⟨#[]⟩, .int .i64 0, .bool false, .bool false, .bool false, .slice none 0 0, .int .u8 0, .string ⟨#[]⟩]) 49)) = w1 at *
  clear hW
  go_wp2_with (first | ((with_reducible refine wpId ?_); refine wpList_build_to (by rfl) 49 _ (by rfl) ((yesI b).cs) (by kernel_rfl) ?_) | ((with_reducible refine stId 49 (.tmp 2) (.tmp 4) ?_); refine wpList_store_row (by rfl) 49 (.tmp 2) (.tmp 4) (by rfl) (w.heap.size) ((yesI b).cs) (by rfl) (by rfl) 49 (OI.zero.cs) (by exact R.out) (by kernel_rfl) (by rfl) (by exact OI.one _ rfl) ?_))
  exact bodyPost_ret (v := .agg ((yesI b).cs)) (results_cell_row Tryz.results80 _ _ (w.heap.size) 49 ((yesI b).cs) (0, 0) _ rfl (R.out.setRow _) Tryz.underlying49 rfl (by kernel_rfl)) rfl (⟨rfl, below_setRow B.out (by first | exact Nat.le_refl _ | exact Nat.le_succ _ | omega) _⟩)
set_option maxHeartbeats 8000000 in
set_option maxRecDepth 100000 in
theorem failR_any (k : Int) (s : ByteArray) (w : World) : Calls Tryz.prog 55 #[.int .u8 k, .string s] w fun e w' => e = .returned (failR k s).a ∧ Below w.heap.size w w' := by
  have R := hidB (show Bk (w.alloc (.cells (#[.int .u8 0, .int .u8 0, .float .f64 0, .string ⟨#[]⟩, .int .i64 0, .bool false, .bool false, .int .u8 0, .int .u8 0, .float .f64 0, .string ⟨#[]⟩, .int .i64 0, .int .u8 0, .float .f64 0, .string ⟨#[]⟩, .int .i64 0, .int .u8 0, .float .f64 0, .string ⟨#[]⟩, .int .i64 0, .bool false, .bool false, .bool false, .slice none 0 0, .int .u8 0, .string ⟨#[]⟩]) 49)) (w.heap.size) 49 (OI.zero.cs) from Bk.new w _ _)
  have B := hidB (show Below w.heap.size w (w.alloc (.cells (#[.int .u8 0, .int .u8 0, .float .f64 0, .string ⟨#[]⟩, .int .i64 0, .bool false, .bool false, .int .u8 0, .int .u8 0, .float .f64 0, .string ⟨#[]⟩, .int .i64 0, .int .u8 0, .float .f64 0, .string ⟨#[]⟩, .int .i64 0, .int .u8 0, .float .f64 0, .string ⟨#[]⟩, .int .i64 0, .bool false, .bool false, .bool false, .slice none 0 0, .int .u8 0, .string ⟨#[]⟩]) 49)) from box_one w _)
  go_enter Tryz.func55, Tryz.ntmps55
  go_upto_region 1 with fail
  generalize hW : (w.alloc (.cells (#[.int .u8 0, .int .u8 0, .float .f64 0, .string ⟨#[]⟩, .int .i64 0, .bool false, .bool false, .int .u8 0, .int .u8 0, .float .f64 0, .string ⟨#[]⟩, .int .i64 0, .int .u8 0, .float .f64 0, .string ⟨#[]⟩, .int .i64 0, .int .u8 0, .float .f64 0, .string ⟨#[]⟩, .int .i64 0, .bool false, .bool false, .bool false, .slice none 0 0, .int .u8 0, .string ⟨#[]⟩]) 49)) = w1 at *
  clear hW
  go_wp2_with (first | ((with_reducible refine wpId ?_); refine wpList_build_to (by rfl) 49 _ (by rfl) ((failR k s).cs) (by kernel_rfl) ?_) | ((with_reducible refine stId 49 (.tmp 4) (.tmp 7) ?_); refine wpList_store_row (by rfl) 49 (.tmp 4) (.tmp 7) (by rfl) (w.heap.size) ((failR k s).cs) (by rfl) (by rfl) 49 (OI.zero.cs) (by exact R.out) (by kernel_rfl) (by rfl) (by exact OI.one _ rfl) ?_))
  exact bodyPost_ret (v := .agg ((failR k s).cs)) (results_cell_row Tryz.results55 _ _ (w.heap.size) 49 ((failR k s).cs) (0, 0) _ rfl (R.out.setRow _) Tryz.underlying49 rfl (by kernel_rfl)) rfl (⟨rfl, below_setRow B.out (by first | exact Nat.le_refl _ | exact Nat.le_succ _ | omega) _⟩)
set_option maxHeartbeats 8000000 in
set_option maxRecDepth 100000 in
theorem rangeI_any (s : ByteArray) (w : World) : Calls Tryz.prog 37 #[.string s] w fun e w' => e = .returned (failR 2 s).a ∧ Below w.heap.size w w' := by
  have R := hidB (show Bk (w.alloc (.cells (#[.int .u8 0, .int .u8 0, .float .f64 0, .string ⟨#[]⟩, .int .i64 0, .bool false, .bool false, .int .u8 0, .int .u8 0, .float .f64 0, .string ⟨#[]⟩, .int .i64 0, .int .u8 0, .float .f64 0, .string ⟨#[]⟩, .int .i64 0, .int .u8 0, .float .f64 0, .string ⟨#[]⟩, .int .i64 0, .bool false, .bool false, .bool false, .slice none 0 0, .int .u8 0, .string ⟨#[]⟩]) 49)) (w.heap.size) 49 (OI.zero.cs) from Bk.new w _ _)
  have B := hidB (show Below w.heap.size w (w.alloc (.cells (#[.int .u8 0, .int .u8 0, .float .f64 0, .string ⟨#[]⟩, .int .i64 0, .bool false, .bool false, .int .u8 0, .int .u8 0, .float .f64 0, .string ⟨#[]⟩, .int .i64 0, .int .u8 0, .float .f64 0, .string ⟨#[]⟩, .int .i64 0, .int .u8 0, .float .f64 0, .string ⟨#[]⟩, .int .i64 0, .bool false, .bool false, .bool false, .slice none 0 0, .int .u8 0, .string ⟨#[]⟩]) 49)) from box_one w _)
  go_enter Tryz.func37, Tryz.ntmps37
  go_upto_region 1 with fail
  generalize hW : (w.alloc (.cells (#[.int .u8 0, .int .u8 0, .float .f64 0, .string ⟨#[]⟩, .int .i64 0, .bool false, .bool false, .int .u8 0, .int .u8 0, .float .f64 0, .string ⟨#[]⟩, .int .i64 0, .int .u8 0, .float .f64 0, .string ⟨#[]⟩, .int .i64 0, .int .u8 0, .float .f64 0, .string ⟨#[]⟩, .int .i64 0, .bool false, .bool false, .bool false, .slice none 0 0, .int .u8 0, .string ⟨#[]⟩]) 49)) = w1 at *
  clear hW
  go_wp2_with fail
  refine (failR_any 2 s _).mono ?_; rintro e w2 ⟨rfl, hb⟩
  replace R := hidB (R.out.on hb)
  replace B := hidB (B.out.trans (hb.mono B.out.size))
  clear hb
  go_wp2_with (first | ((with_reducible refine stId 49 (.tmp 2) (.tmp 4) ?_); refine wpList_store_row (by rfl) 49 (.tmp 2) (.tmp 4) (by rfl) (w.heap.size) ((failR 2 s).cs) (by rfl) (by rfl) 49 (OI.zero.cs) (by exact R.out) (by kernel_rfl) (by rfl) (by exact OI.one _ rfl) ?_))
  exact bodyPost_ret (v := .agg ((failR 2 s).cs)) (results_cell_row Tryz.results37 _ _ (w.heap.size) 49 ((failR 2 s).cs) (0, 0) _ rfl (R.out.setRow _) Tryz.underlying49 rfl (by kernel_rfl)) rfl (⟨rfl, below_setRow B.out (by first | exact Nat.le_refl _ | exact Nat.le_succ _ | omega) _⟩)
set_option maxHeartbeats 8000000 in
set_option maxRecDepth 100000 in
theorem keyedE_any (m : Int) (w : World) : Calls Tryz.prog 30 #[.int .u8 m] w fun e w' => e = .returned (.bool (decide (5 ≤ m) && decide (m ≤ 10))) ∧ w' = w := by
  go_enter Tryz.func30, Tryz.ntmps30
  by_cases h5 : 5 ≤ m
  · by_cases h10 : m ≤ 10
    · rw [decide_eq_true h5, decide_eq_true h10]
      go_wp2_with fail
      all_goals first | (exfalso; omega) | (go_ret; exact ⟨rfl, rfl⟩)
    · rw [decide_eq_true h5, decide_eq_false h10]
      go_wp2_with fail
      all_goals first | (exfalso; omega) | (go_ret; exact ⟨rfl, rfl⟩)
  · rw [decide_eq_false h5]
    go_wp2_with fail
    all_goals first | (exfalso; omega) | (go_ret; exact ⟨rfl, rfl⟩)
set_option maxHeartbeats 8000000 in
set_option maxRecDepth 100000 in
theorem keyedT_any (m : Int) (w : World) : Calls Tryz.prog 106 #[.int .u8 m] w fun e w' => e = .returned (.bool (decide (5 ≤ m) && decide (m ≤ 10))) ∧ w' = w := by
  go_enter Tryz.func106, Tryz.ntmps106
  by_cases h5 : 5 ≤ m
  · by_cases h10 : m ≤ 10
    · rw [decide_eq_true h5, decide_eq_true h10]
      go_wp2_with fail
      all_goals first | (exfalso; omega) | (go_ret; exact ⟨rfl, rfl⟩)
    · rw [decide_eq_true h5, decide_eq_false h10]
      go_wp2_with fail
      all_goals first | (exfalso; omega) | (go_ret; exact ⟨rfl, rfl⟩)
  · rw [decide_eq_false h5]
    go_wp2_with fail
    all_goals first | (exfalso; omega) | (go_ret; exact ⟨rfl, rfl⟩)
set_option maxHeartbeats 8000000 in
set_option maxRecDepth 100000 in
theorem thrown_any (x : OI) (hk : x.keys.oneCell' = true) (h3 : x.kd ≠ 3) (wv : Value) (w : World) : Calls Tryz.prog 60 #[wv, x.a] w fun e w' => e = .returned x.a ∧ Below w.heap.size w w' := by
  have X := hidB (show Bk ((w.alloc (.cells (x.cs) 49)).alloc (.cells (#[.int .u8 0, .int .u8 0, .float .f64 0, .string ⟨#[]⟩, .int .i64 0, .bool false, .bool false, .int .u8 0, .int .u8 0, .float .f64 0, .string ⟨#[]⟩, .int .i64 0, .int .u8 0, .float .f64 0, .string ⟨#[]⟩, .int .i64 0, .int .u8 0, .float .f64 0, .string ⟨#[]⟩, .int .i64 0, .bool false, .bool false, .bool false, .slice none 0 0, .int .u8 0, .string ⟨#[]⟩]) 49)) (w.heap.size) 49 (x.cs) from (Bk.new w _ _).alloc _)
  have R := hidB (show Bk ((w.alloc (.cells (x.cs) 49)).alloc (.cells (#[.int .u8 0, .int .u8 0, .float .f64 0, .string ⟨#[]⟩, .int .i64 0, .bool false, .bool false, .int .u8 0, .int .u8 0, .float .f64 0, .string ⟨#[]⟩, .int .i64 0, .int .u8 0, .float .f64 0, .string ⟨#[]⟩, .int .i64 0, .int .u8 0, .float .f64 0, .string ⟨#[]⟩, .int .i64 0, .bool false, .bool false, .bool false, .slice none 0 0, .int .u8 0, .string ⟨#[]⟩]) 49)) (w.heap.size + 1) 49 (OI.zero.cs) from Bk.new2 w _ _ _)
  have B := hidB (show Below w.heap.size w ((w.alloc (.cells (x.cs) 49)).alloc (.cells (#[.int .u8 0, .int .u8 0, .float .f64 0, .string ⟨#[]⟩, .int .i64 0, .bool false, .bool false, .int .u8 0, .int .u8 0, .float .f64 0, .string ⟨#[]⟩, .int .i64 0, .int .u8 0, .float .f64 0, .string ⟨#[]⟩, .int .i64 0, .int .u8 0, .float .f64 0, .string ⟨#[]⟩, .int .i64 0, .bool false, .bool false, .bool false, .slice none 0 0, .int .u8 0, .string ⟨#[]⟩]) 49)) from (box_one w _).alloc (by simp) _)
  have HK := hidB hk
  clear hk
  go_enter Tryz.func60, Tryz.ntmps60
  go_upto_region 1 with fail
  generalize hW : ((w.alloc (.cells (x.cs) 49)).alloc (.cells (#[.int .u8 0, .int .u8 0, .float .f64 0, .string ⟨#[]⟩, .int .i64 0, .bool false, .bool false, .int .u8 0, .int .u8 0, .float .f64 0, .string ⟨#[]⟩, .int .i64 0, .int .u8 0, .float .f64 0, .string ⟨#[]⟩, .int .i64 0, .int .u8 0, .float .f64 0, .string ⟨#[]⟩, .int .i64 0, .bool false, .bool false, .bool false, .slice none 0 0, .int .u8 0, .string ⟨#[]⟩]) 49)) = w1 at *
  clear hW
  have x0 : w1.cell? ⟨w.heap.size, 0, none⟩ = some (.int .u8 x.kd) := X.out.cell 0
  have hn : (x.kd != 3) = true := by rw [bne_iff_ne]; exact h3
  go_wp2_with (first | ((with_reducible refine ldId 49 (.tmp 3) ?_); refine wpList_load_row (by rfl) 49 (.tmp 3) (by rfl) (w.heap.size) (by rfl) 49 (x.cs) (0, 0) _ (by exact X.out) Tryz.underlying49 (by rfl) (by kernel_rfl) ?_) | ((with_reducible refine stId 49 (.tmp 4) (.tmp 11) ?_); refine wpList_store_row (by rfl) 49 (.tmp 4) (.tmp 11) (by rfl) (w.heap.size + 1) (x.cs) (by rfl) (by rfl) 49 (OI.zero.cs) (by exact R.out) (by kernel_rfl) (by rfl) (by exact OI.one _ HK.out) ?_))
  exact bodyPost_ret (v := .agg (x.cs)) (results_cell_row Tryz.results60 _ _ (w.heap.size + 1) 49 (x.cs) (0, 0) _ rfl (R.out.setRow _) Tryz.underlying49 rfl (by kernel_rfl)) rfl (⟨rfl, below_setRow B.out (Nat.le_succ _) _⟩)
set_option maxHeartbeats 8000000 in
set_option maxRecDepth 100000 in
theorem told3_any (m : Int) (hm : m = 3) (x : OI) (h2 : x.kd ≠ 2) (w : World) : Calls Tryz.prog 62 #[.int .u8 m, x.a] w fun e w' => e = .returned (toldI 3 x).a ∧ Below w.heap.size w w' := by
  subst hm
  rw [show toldI 3 x = yesI x.b from if_neg (by decide)]
  have X := hidB (show Bk ((w.alloc (.cells (x.cs) 49)).alloc (.cells (#[.int .u8 0, .int .u8 0, .float .f64 0, .string ⟨#[]⟩, .int .i64 0, .bool false, .bool false, .int .u8 0, .int .u8 0, .float .f64 0, .string ⟨#[]⟩, .int .i64 0, .int .u8 0, .float .f64 0, .string ⟨#[]⟩, .int .i64 0, .int .u8 0, .float .f64 0, .string ⟨#[]⟩, .int .i64 0, .bool false, .bool false, .bool false, .slice none 0 0, .int .u8 0, .string ⟨#[]⟩]) 49)) (w.heap.size) 49 (x.cs) from (Bk.new w _ _).alloc _)
  have R := hidB (show Bk ((w.alloc (.cells (x.cs) 49)).alloc (.cells (#[.int .u8 0, .int .u8 0, .float .f64 0, .string ⟨#[]⟩, .int .i64 0, .bool false, .bool false, .int .u8 0, .int .u8 0, .float .f64 0, .string ⟨#[]⟩, .int .i64 0, .int .u8 0, .float .f64 0, .string ⟨#[]⟩, .int .i64 0, .int .u8 0, .float .f64 0, .string ⟨#[]⟩, .int .i64 0, .bool false, .bool false, .bool false, .slice none 0 0, .int .u8 0, .string ⟨#[]⟩]) 49)) (w.heap.size + 1) 49 (OI.zero.cs) from Bk.new2 w _ _ _)
  have B := hidB (show Below w.heap.size w ((w.alloc (.cells (x.cs) 49)).alloc (.cells (#[.int .u8 0, .int .u8 0, .float .f64 0, .string ⟨#[]⟩, .int .i64 0, .bool false, .bool false, .int .u8 0, .int .u8 0, .float .f64 0, .string ⟨#[]⟩, .int .i64 0, .int .u8 0, .float .f64 0, .string ⟨#[]⟩, .int .i64 0, .int .u8 0, .float .f64 0, .string ⟨#[]⟩, .int .i64 0, .bool false, .bool false, .bool false, .slice none 0 0, .int .u8 0, .string ⟨#[]⟩]) 49)) from (box_one w _).alloc (by simp) _)
  go_enter Tryz.func62, Tryz.ntmps62
  go_upto_region 1 with fail
  generalize hW : ((w.alloc (.cells (x.cs) 49)).alloc (.cells (#[.int .u8 0, .int .u8 0, .float .f64 0, .string ⟨#[]⟩, .int .i64 0, .bool false, .bool false, .int .u8 0, .int .u8 0, .float .f64 0, .string ⟨#[]⟩, .int .i64 0, .int .u8 0, .float .f64 0, .string ⟨#[]⟩, .int .i64 0, .int .u8 0, .float .f64 0, .string ⟨#[]⟩, .int .i64 0, .bool false, .bool false, .bool false, .slice none 0 0, .int .u8 0, .string ⟨#[]⟩]) 49)) = w1 at *
  clear hW
  have x0 : w1.cell? ⟨w.heap.size, 0, none⟩ = some (.int .u8 x.kd) := X.out.cell 0
  have x5 : w1.cell? ⟨w.heap.size, 5, none⟩ = some (.bool x.b) := X.out.cell 5
  have hn : (x.kd == 2) = false := by rw [beq_eq_false_iff_ne]; exact h2
  go_wp2_with fail
  refine (yesI_any x.b _).mono ?_; rintro e w2 ⟨rfl, hb⟩
  replace R := hidB (R.out.on hb)
  replace B := hidB (B.out.trans (hb.mono B.out.size))
  clear hb
  go_wp2_with (first | ((with_reducible refine stId 49 (.tmp 4) (.tmp 35) ?_); refine wpList_store_row (by rfl) 49 (.tmp 4) (.tmp 35) (by rfl) (w.heap.size + 1) ((yesI x.b).cs) (by rfl) (by rfl) 49 (OI.zero.cs) (by exact R.out) (by kernel_rfl) (by rfl) (by exact OI.one _ rfl) ?_))
  exact bodyPost_ret (v := .agg ((yesI x.b).cs)) (results_cell_row Tryz.results62 _ _ (w.heap.size + 1) 49 ((yesI x.b).cs) (0, 0) _ rfl (R.out.setRow _) Tryz.underlying49 rfl (by kernel_rfl)) rfl (⟨rfl, below_setRow B.out (Nat.le_succ _) _⟩)
set_option maxHeartbeats 8000000 in
set_option maxRecDepth 100000 in
theorem told8_any (m : Int) (hm : m = 8) (x : OI) (h2 : x.kd ≠ 2) (w : World) : Calls Tryz.prog 62 #[.int .u8 m, x.a] w fun e w' => e = .returned (toldI 8 x).a ∧ Below w.heap.size w w' := by
  subst hm
  rw [show toldI 8 x = doneI x.v from if_pos rfl]
  have X := hidB (show Bk ((w.alloc (.cells (x.cs) 49)).alloc (.cells (#[.int .u8 0, .int .u8 0, .float .f64 0, .string ⟨#[]⟩, .int .i64 0, .bool false, .bool false, .int .u8 0, .int .u8 0, .float .f64 0, .string ⟨#[]⟩, .int .i64 0, .int .u8 0, .float .f64 0, .string ⟨#[]⟩, .int .i64 0, .int .u8 0, .float .f64 0, .string ⟨#[]⟩, .int .i64 0, .bool false, .bool false, .bool false, .slice none 0 0, .int .u8 0, .string ⟨#[]⟩]) 49)) (w.heap.size) 49 (x.cs) from (Bk.new w _ _).alloc _)
  have R := hidB (show Bk ((w.alloc (.cells (x.cs) 49)).alloc (.cells (#[.int .u8 0, .int .u8 0, .float .f64 0, .string ⟨#[]⟩, .int .i64 0, .bool false, .bool false, .int .u8 0, .int .u8 0, .float .f64 0, .string ⟨#[]⟩, .int .i64 0, .int .u8 0, .float .f64 0, .string ⟨#[]⟩, .int .i64 0, .int .u8 0, .float .f64 0, .string ⟨#[]⟩, .int .i64 0, .bool false, .bool false, .bool false, .slice none 0 0, .int .u8 0, .string ⟨#[]⟩]) 49)) (w.heap.size + 1) 49 (OI.zero.cs) from Bk.new2 w _ _ _)
  have B := hidB (show Below w.heap.size w ((w.alloc (.cells (x.cs) 49)).alloc (.cells (#[.int .u8 0, .int .u8 0, .float .f64 0, .string ⟨#[]⟩, .int .i64 0, .bool false, .bool false, .int .u8 0, .int .u8 0, .float .f64 0, .string ⟨#[]⟩, .int .i64 0, .int .u8 0, .float .f64 0, .string ⟨#[]⟩, .int .i64 0, .int .u8 0, .float .f64 0, .string ⟨#[]⟩, .int .i64 0, .bool false, .bool false, .bool false, .slice none 0 0, .int .u8 0, .string ⟨#[]⟩]) 49)) from (box_one w _).alloc (by simp) _)
  go_enter Tryz.func62, Tryz.ntmps62
  go_upto_region 1 with fail
  generalize hW : ((w.alloc (.cells (x.cs) 49)).alloc (.cells (#[.int .u8 0, .int .u8 0, .float .f64 0, .string ⟨#[]⟩, .int .i64 0, .bool false, .bool false, .int .u8 0, .int .u8 0, .float .f64 0, .string ⟨#[]⟩, .int .i64 0, .int .u8 0, .float .f64 0, .string ⟨#[]⟩, .int .i64 0, .int .u8 0, .float .f64 0, .string ⟨#[]⟩, .int .i64 0, .bool false, .bool false, .bool false, .slice none 0 0, .int .u8 0, .string ⟨#[]⟩]) 49)) = w1 at *
  clear hW
  have x0 : w1.cell? ⟨w.heap.size, 0, none⟩ = some (.int .u8 x.kd) := X.out.cell 0
  have x5 : w1.cell? ⟨w.heap.size, 5, none⟩ = some (.bool x.b) := X.out.cell 5
  have hn : (x.kd == 2) = false := by rw [beq_eq_false_iff_ne]; exact h2
  go_wp2_with (first | ((with_reducible refine ldId 29 (.tmp 17) ?_); refine wpList_load_mid (by rfl) 29 (.tmp 17) (by rfl) (w.heap.size) 1 (by rfl) (x.v.cells) _ (by exact Bk.mid X.out 1 _ rfl) Tryz.underlying29 (by rfl) (by kernel_rfl) ?_))
  refine (doneI_any x.v _).mono ?_; rintro e w2 ⟨rfl, hb⟩
  replace R := hidB (R.out.on hb)
  replace B := hidB (B.out.trans (hb.mono B.out.size))
  clear hb
  go_wp2_with (first | ((with_reducible refine stId 49 (.tmp 4) (.tmp 19) ?_); refine wpList_store_row (by rfl) 49 (.tmp 4) (.tmp 19) (by rfl) (w.heap.size + 1) ((doneI x.v).cs) (by rfl) (by rfl) 49 (OI.zero.cs) (by exact R.out) (by kernel_rfl) (by rfl) (by exact OI.one _ rfl) ?_))
  exact bodyPost_ret (v := .agg ((doneI x.v).cs)) (results_cell_row Tryz.results62 _ _ (w.heap.size + 1) 49 ((doneI x.v).cs) (0, 0) _ rfl (R.out.setRow _) Tryz.underlying49 rfl (by kernel_rfl)) rfl (⟨rfl, below_setRow B.out (Nat.le_succ _) _⟩)
set_option maxHeartbeats 8000000 in
set_option maxRecDepth 100000 in
theorem entry3_any (a : AI) (hm : a.m = 3) (x : OI) (bg : Int) (h2 : x.kd ≠ 2) (w : World) : Calls Tryz.prog 61 #[a.a, x.a, .int .i64 bg] w fun e w' => e = .returned (.agg (seenC bg a KI.zero (toldI 3 x))) ∧ Below w.heap.size w w' := by
  have HM := hidB hm
  have Y := hidB (show Bk (((w.alloc (.cells (a.cs) 34)).alloc (.cells (x.cs) 49)).alloc (.cells (#[.int .i64 0, .int .i64 0, .int .u8 0, .string ⟨#[]⟩, .int .i64 0, .bool false, .int .u8 0, .int .u8 0, .float .f64 0, .string ⟨#[]⟩, .int .i64 0, .bool false, .bool false, .int .u8 0, .int .u8 0, .float .f64 0, .string ⟨#[]⟩, .int .i64 0, .int .u8 0, .float .f64 0, .string ⟨#[]⟩, .int .i64 0, .int .u8 0, .float .f64 0, .string ⟨#[]⟩, .int .i64 0, .bool false, .bool false, .bool false, .slice none 0 0, .int .u8 0, .string ⟨#[]⟩]) 121)) (w.heap.size) 34 (a.cs) from ((Bk.new w _ _).alloc _).alloc _)
  have X := hidB (show Bk (((w.alloc (.cells (a.cs) 34)).alloc (.cells (x.cs) 49)).alloc (.cells (#[.int .i64 0, .int .i64 0, .int .u8 0, .string ⟨#[]⟩, .int .i64 0, .bool false, .int .u8 0, .int .u8 0, .float .f64 0, .string ⟨#[]⟩, .int .i64 0, .bool false, .bool false, .int .u8 0, .int .u8 0, .float .f64 0, .string ⟨#[]⟩, .int .i64 0, .int .u8 0, .float .f64 0, .string ⟨#[]⟩, .int .i64 0, .int .u8 0, .float .f64 0, .string ⟨#[]⟩, .int .i64 0, .bool false, .bool false, .bool false, .slice none 0 0, .int .u8 0, .string ⟨#[]⟩]) 121)) (w.heap.size + 1) 49 (x.cs) from (Bk.new2 w _ _ _).alloc _)
  have R := hidB (show Bk (((w.alloc (.cells (a.cs) 34)).alloc (.cells (x.cs) 49)).alloc (.cells (#[.int .i64 0, .int .i64 0, .int .u8 0, .string ⟨#[]⟩, .int .i64 0, .bool false, .int .u8 0, .int .u8 0, .float .f64 0, .string ⟨#[]⟩, .int .i64 0, .bool false, .bool false, .int .u8 0, .int .u8 0, .float .f64 0, .string ⟨#[]⟩, .int .i64 0, .int .u8 0, .float .f64 0, .string ⟨#[]⟩, .int .i64 0, .int .u8 0, .float .f64 0, .string ⟨#[]⟩, .int .i64 0, .bool false, .bool false, .bool false, .slice none 0 0, .int .u8 0, .string ⟨#[]⟩]) 121)) (w.heap.size + 1 + 1) 121 (#[.int .i64 0, .int .i64 0, .int .u8 0, .string ⟨#[]⟩, .int .i64 0, .bool false, .int .u8 0, .int .u8 0, .float .f64 0, .string ⟨#[]⟩, .int .i64 0, .bool false, .bool false, .int .u8 0, .int .u8 0, .float .f64 0, .string ⟨#[]⟩, .int .i64 0, .int .u8 0, .float .f64 0, .string ⟨#[]⟩, .int .i64 0, .int .u8 0, .float .f64 0, .string ⟨#[]⟩, .int .i64 0, .bool false, .bool false, .bool false, .slice none 0 0, .int .u8 0, .string ⟨#[]⟩]) from Bk.new3 w _ _ _ _)
  have B := hidB (show Below w.heap.size w (((w.alloc (.cells (a.cs) 34)).alloc (.cells (x.cs) 49)).alloc (.cells (#[.int .i64 0, .int .i64 0, .int .u8 0, .string ⟨#[]⟩, .int .i64 0, .bool false, .int .u8 0, .int .u8 0, .float .f64 0, .string ⟨#[]⟩, .int .i64 0, .bool false, .bool false, .int .u8 0, .int .u8 0, .float .f64 0, .string ⟨#[]⟩, .int .i64 0, .int .u8 0, .float .f64 0, .string ⟨#[]⟩, .int .i64 0, .int .u8 0, .float .f64 0, .string ⟨#[]⟩, .int .i64 0, .bool false, .bool false, .bool false, .slice none 0 0, .int .u8 0, .string ⟨#[]⟩]) 121)) from ((box_one w _).alloc (by simp) _).alloc (by simp <;> omega) _)
  go_enter Tryz.func61, Tryz.ntmps61
  go_upto_region 1 with fail
  generalize hW : (((w.alloc (.cells (a.cs) 34)).alloc (.cells (x.cs) 49)).alloc (.cells (#[.int .i64 0, .int .i64 0, .int .u8 0, .string ⟨#[]⟩, .int .i64 0, .bool false, .int .u8 0, .int .u8 0, .float .f64 0, .string ⟨#[]⟩, .int .i64 0, .bool false, .bool false, .int .u8 0, .int .u8 0, .float .f64 0, .string ⟨#[]⟩, .int .i64 0, .int .u8 0, .float .f64 0, .string ⟨#[]⟩, .int .i64 0, .int .u8 0, .float .f64 0, .string ⟨#[]⟩, .int .i64 0, .bool false, .bool false, .bool false, .slice none 0 0, .int .u8 0, .string ⟨#[]⟩]) 121)) = w1 at *
  clear hW
  have y0 : w1.cell? ⟨w.heap.size, 0, none⟩ = some (.int .u8 a.m) := Y.out.cell 0
  have y1 : w1.cell? ⟨w.heap.size, 1, none⟩ = some (.int .i64 a.ob) := Y.out.cell 1
  have x0 : w1.cell? ⟨w.heap.size + 1, 0, none⟩ = some (.int .u8 x.kd) := X.out.cell 0
  have hn : (x.kd == 2) = false := by rw [beq_eq_false_iff_ne]; exact h2
  have HN := hidB h2
  clear hm h2
  have Z := hidB (show Bk (w1.alloc (.cells (seenC bg a KI.zero OI.zero) 121)) w1.heap.size 121 (seenC bg a KI.zero OI.zero) from Bk.new w1 _ _)
  have HZ := hidB B.out.size
  have HZR := hidB R.out.lt
  replace Y := hidB (Y.out.alloc (.cells (seenC bg a KI.zero OI.zero) 121))
  replace X := hidB (X.out.alloc (.cells (seenC bg a KI.zero OI.zero) 121))
  replace R := hidB (R.out.alloc (.cells (seenC bg a KI.zero OI.zero) 121))
  replace B := hidB (show Below w.heap.size w (w1.alloc (.cells (seenC bg a KI.zero OI.zero) 121)) from B.out.alloc B.out.size _)
  go_upto_region 2 with (first | ((with_reducible refine wpId ?_); refine wpList_build_to (by rfl) 121 _ (by rfl) (seenC bg a KI.zero OI.zero) (by kernel_rfl) ?_) | ((with_reducible refine wpId ?_); refine wpList_store_new (by rfl) 121 (.tmp 7) (.tmp 16) (by rfl) (seenC bg a KI.zero OI.zero) 121 _ (by rfl) (by rfl) (by kernel_rfl) (by rfl) (by exact seen_one bg a KI.zero OI.zero rfl) ?_))
  generalize hW : (w1.alloc (.cells (seenC bg a KI.zero OI.zero) 121)) = w2 at *
  generalize hG : w1.heap.size = gz at *
  clear hW hG x0 hn y1
  have y0 : w2.cell? ⟨w.heap.size, 0, none⟩ = some (.int .u8 a.m) := Y.out.cell 0
  go_wp2_with fail
  refine (keyedE_any a.m _).mono ?_; rintro e w3 ⟨rfl, rfl⟩
  rw [show (decide (5 ≤ a.m) && decide (a.m ≤ 10)) = false by rw [HM.out]; rfl]
  go_upto_region 4 with fail
  clear y0
  have y0 : w3.cell? ⟨w.heap.size, 0, none⟩ = some (.int .u8 a.m) := Y.out.cell 0
  have z5 : w3.cell? ⟨gz, 5, none⟩ = some (.bool false) := Z.out.cell 5
  go_wp2_with (first | ((with_reducible refine ldId 49 (.tmp 4) ?_); refine wpList_load_row (by rfl) 49 (.tmp 4) (by rfl) (w.heap.size + 1) (by rfl) 49 (x.cs) (0, 0) _ (by exact X.out) Tryz.underlying49 (by rfl) (by kernel_rfl) ?_))
  refine (told3_any a.m HM.out x HN.out _).mono ?_; rintro e w5 ⟨rfl, hb⟩
  replace Z := hidB (Z.out.on hb)
  replace R := hidB (R.out.on hb)
  replace B := hidB (B.out.trans (hb.mono B.out.size))
  clear hb
  obtain ⟨tx, htx⟩ : ∃ q, toldI 3 x = q := ⟨_, rfl⟩
  have HTX := hidB htx
  have HTK := hidB (show tx.keys.oneCell' = true from htx ▸ told_key 3 x)
  rw [htx]
  clear htx
  have Z3 := hidB (show Bk (w5.setCells gz 6 tx.cs.toList) gz 121 (seenC bg a KI.zero tx) from Z.out.setCells2 (ds := seenC bg a KI.zero tx) tx.cs.toList 6 (Nat.le_of_ble_eq_true rfl) rfl)
  have R3 := hidB (show Bk (w5.setCells gz 6 tx.cs.toList) (w.heap.size + 1 + 1) 121 (#[.int .i64 0, .int .i64 0, .int .u8 0, .string ⟨#[]⟩, .int .i64 0, .bool false, .int .u8 0, .int .u8 0, .float .f64 0, .string ⟨#[]⟩, .int .i64 0, .bool false, .bool false, .int .u8 0, .int .u8 0, .float .f64 0, .string ⟨#[]⟩, .int .i64 0, .int .u8 0, .float .f64 0, .string ⟨#[]⟩, .int .i64 0, .int .u8 0, .float .f64 0, .string ⟨#[]⟩, .int .i64 0, .bool false, .bool false, .bool false, .slice none 0 0, .int .u8 0, .string ⟨#[]⟩]) from Bk.setCells_far (by have := HZR.out; omega) _ 6 R.out)
  have B3 := hidB (show Below w.heap.size w (w5.setCells gz 6 tx.cs.toList) from below_setCells HZ.out _ _ B.out)
  have HSO := hidB (seen_one bg a (KI.zero) tx HTK.out)
  go_upto_region 6 with (first | ((with_reducible refine stId 49 (.tmp 30) (.tmp 29) ?_); refine wpList_store_mid (by rfl) 49 (.tmp 30) (.tmp 29) (by rfl) (gz) (6) (tx.cs) (by rfl) (by rfl) (by exact Z.out.there 6 26 (Nat.le_of_ble_eq_true rfl)) (by kernel_rfl) (by exact OI.one _ HTK.out) ?_))
  generalize hW : (w5.setCells gz 6 tx.cs.toList) = w6 at *
  clear hW Z R B
  go_wp2_with (first | ((with_reducible refine ldId 121 (.tmp 7) ?_); refine wpList_load_row (by rfl) 121 (.tmp 7) (by rfl) (gz) (by rfl) 121 (seenC bg a KI.zero tx) (0, 0) _ (by exact Z3.out) Tryz.underlying121 (by rfl) (by kernel_rfl) ?_) | ((with_reducible refine stId 121 (.tmp 6) (.tmp 31) ?_); refine wpList_store_row (by rfl) 121 (.tmp 6) (.tmp 31) (by rfl) (w.heap.size + 1 + 1) (seenC bg a KI.zero tx) (by rfl) (by rfl) 121 (#[.int .i64 0, .int .i64 0, .int .u8 0, .string ⟨#[]⟩, .int .i64 0, .bool false, .int .u8 0, .int .u8 0, .float .f64 0, .string ⟨#[]⟩, .int .i64 0, .bool false, .bool false, .int .u8 0, .int .u8 0, .float .f64 0, .string ⟨#[]⟩, .int .i64 0, .int .u8 0, .float .f64 0, .string ⟨#[]⟩, .int .i64 0, .int .u8 0, .float .f64 0, .string ⟨#[]⟩, .int .i64 0, .bool false, .bool false, .bool false, .slice none 0 0, .int .u8 0, .string ⟨#[]⟩]) (by exact R3.out) (by kernel_rfl) (by rfl) (by exact HSO.out) ?_))
  exact bodyPost_ret (v := .agg (seenC bg a KI.zero tx)) (results_cell_row Tryz.results61 _ _ (w.heap.size + 1 + 1) 121 (seenC bg a KI.zero tx) (0, 0) _ rfl (R3.out.setRow _) Tryz.underlying121 rfl (by kernel_rfl)) rfl (⟨by rw [HTX.out], below_setRow B3.out (by omega) _⟩)
set_option maxHeartbeats 8000000 in
set_option maxRecDepth 100000 in
theorem entry8_any (a : AI) (hm : a.m = 8) (x : OI) (bg : Int) (h2 : x.kd ≠ 2) (w : World) : Calls Tryz.prog 61 #[a.a, x.a, .int .i64 bg] w fun e w' => e = .returned (.agg (seenC bg a a.k (toldI 8 x))) ∧ Below w.heap.size w w' := by
  have HM := hidB hm
  have Y := hidB (show Bk (((w.alloc (.cells (a.cs) 34)).alloc (.cells (x.cs) 49)).alloc (.cells (#[.int .i64 0, .int .i64 0, .int .u8 0, .string ⟨#[]⟩, .int .i64 0, .bool false, .int .u8 0, .int .u8 0, .float .f64 0, .string ⟨#[]⟩, .int .i64 0, .bool false, .bool false, .int .u8 0, .int .u8 0, .float .f64 0, .string ⟨#[]⟩, .int .i64 0, .int .u8 0, .float .f64 0, .string ⟨#[]⟩, .int .i64 0, .int .u8 0, .float .f64 0, .string ⟨#[]⟩, .int .i64 0, .bool false, .bool false, .bool false, .slice none 0 0, .int .u8 0, .string ⟨#[]⟩]) 121)) (w.heap.size) 34 (a.cs) from ((Bk.new w _ _).alloc _).alloc _)
  have X := hidB (show Bk (((w.alloc (.cells (a.cs) 34)).alloc (.cells (x.cs) 49)).alloc (.cells (#[.int .i64 0, .int .i64 0, .int .u8 0, .string ⟨#[]⟩, .int .i64 0, .bool false, .int .u8 0, .int .u8 0, .float .f64 0, .string ⟨#[]⟩, .int .i64 0, .bool false, .bool false, .int .u8 0, .int .u8 0, .float .f64 0, .string ⟨#[]⟩, .int .i64 0, .int .u8 0, .float .f64 0, .string ⟨#[]⟩, .int .i64 0, .int .u8 0, .float .f64 0, .string ⟨#[]⟩, .int .i64 0, .bool false, .bool false, .bool false, .slice none 0 0, .int .u8 0, .string ⟨#[]⟩]) 121)) (w.heap.size + 1) 49 (x.cs) from (Bk.new2 w _ _ _).alloc _)
  have R := hidB (show Bk (((w.alloc (.cells (a.cs) 34)).alloc (.cells (x.cs) 49)).alloc (.cells (#[.int .i64 0, .int .i64 0, .int .u8 0, .string ⟨#[]⟩, .int .i64 0, .bool false, .int .u8 0, .int .u8 0, .float .f64 0, .string ⟨#[]⟩, .int .i64 0, .bool false, .bool false, .int .u8 0, .int .u8 0, .float .f64 0, .string ⟨#[]⟩, .int .i64 0, .int .u8 0, .float .f64 0, .string ⟨#[]⟩, .int .i64 0, .int .u8 0, .float .f64 0, .string ⟨#[]⟩, .int .i64 0, .bool false, .bool false, .bool false, .slice none 0 0, .int .u8 0, .string ⟨#[]⟩]) 121)) (w.heap.size + 1 + 1) 121 (#[.int .i64 0, .int .i64 0, .int .u8 0, .string ⟨#[]⟩, .int .i64 0, .bool false, .int .u8 0, .int .u8 0, .float .f64 0, .string ⟨#[]⟩, .int .i64 0, .bool false, .bool false, .int .u8 0, .int .u8 0, .float .f64 0, .string ⟨#[]⟩, .int .i64 0, .int .u8 0, .float .f64 0, .string ⟨#[]⟩, .int .i64 0, .int .u8 0, .float .f64 0, .string ⟨#[]⟩, .int .i64 0, .bool false, .bool false, .bool false, .slice none 0 0, .int .u8 0, .string ⟨#[]⟩]) from Bk.new3 w _ _ _ _)
  have B := hidB (show Below w.heap.size w (((w.alloc (.cells (a.cs) 34)).alloc (.cells (x.cs) 49)).alloc (.cells (#[.int .i64 0, .int .i64 0, .int .u8 0, .string ⟨#[]⟩, .int .i64 0, .bool false, .int .u8 0, .int .u8 0, .float .f64 0, .string ⟨#[]⟩, .int .i64 0, .bool false, .bool false, .int .u8 0, .int .u8 0, .float .f64 0, .string ⟨#[]⟩, .int .i64 0, .int .u8 0, .float .f64 0, .string ⟨#[]⟩, .int .i64 0, .int .u8 0, .float .f64 0, .string ⟨#[]⟩, .int .i64 0, .bool false, .bool false, .bool false, .slice none 0 0, .int .u8 0, .string ⟨#[]⟩]) 121)) from ((box_one w _).alloc (by simp) _).alloc (by simp <;> omega) _)
  go_enter Tryz.func61, Tryz.ntmps61
  go_upto_region 1 with fail
  generalize hW : (((w.alloc (.cells (a.cs) 34)).alloc (.cells (x.cs) 49)).alloc (.cells (#[.int .i64 0, .int .i64 0, .int .u8 0, .string ⟨#[]⟩, .int .i64 0, .bool false, .int .u8 0, .int .u8 0, .float .f64 0, .string ⟨#[]⟩, .int .i64 0, .bool false, .bool false, .int .u8 0, .int .u8 0, .float .f64 0, .string ⟨#[]⟩, .int .i64 0, .int .u8 0, .float .f64 0, .string ⟨#[]⟩, .int .i64 0, .int .u8 0, .float .f64 0, .string ⟨#[]⟩, .int .i64 0, .bool false, .bool false, .bool false, .slice none 0 0, .int .u8 0, .string ⟨#[]⟩]) 121)) = w1 at *
  clear hW
  have y0 : w1.cell? ⟨w.heap.size, 0, none⟩ = some (.int .u8 a.m) := Y.out.cell 0
  have y1 : w1.cell? ⟨w.heap.size, 1, none⟩ = some (.int .i64 a.ob) := Y.out.cell 1
  have x0 : w1.cell? ⟨w.heap.size + 1, 0, none⟩ = some (.int .u8 x.kd) := X.out.cell 0
  have hn : (x.kd == 2) = false := by rw [beq_eq_false_iff_ne]; exact h2
  have HN := hidB h2
  clear hm h2
  have Z := hidB (show Bk (w1.alloc (.cells (seenC bg a KI.zero OI.zero) 121)) w1.heap.size 121 (seenC bg a KI.zero OI.zero) from Bk.new w1 _ _)
  have HZ := hidB B.out.size
  have HZR := hidB R.out.lt
  replace Y := hidB (Y.out.alloc (.cells (seenC bg a KI.zero OI.zero) 121))
  replace X := hidB (X.out.alloc (.cells (seenC bg a KI.zero OI.zero) 121))
  replace R := hidB (R.out.alloc (.cells (seenC bg a KI.zero OI.zero) 121))
  replace B := hidB (show Below w.heap.size w (w1.alloc (.cells (seenC bg a KI.zero OI.zero) 121)) from B.out.alloc B.out.size _)
  go_upto_region 2 with (first | ((with_reducible refine wpId ?_); refine wpList_build_to (by rfl) 121 _ (by rfl) (seenC bg a KI.zero OI.zero) (by kernel_rfl) ?_) | ((with_reducible refine wpId ?_); refine wpList_store_new (by rfl) 121 (.tmp 7) (.tmp 16) (by rfl) (seenC bg a KI.zero OI.zero) 121 _ (by rfl) (by rfl) (by kernel_rfl) (by rfl) (by exact seen_one bg a KI.zero OI.zero rfl) ?_))
  generalize hW : (w1.alloc (.cells (seenC bg a KI.zero OI.zero) 121)) = w2 at *
  generalize hG : w1.heap.size = gz at *
  clear hW hG x0 hn y1
  have y0 : w2.cell? ⟨w.heap.size, 0, none⟩ = some (.int .u8 a.m) := Y.out.cell 0
  go_wp2_with fail
  refine (keyedE_any a.m _).mono ?_; rintro e w3 ⟨rfl, rfl⟩
  rw [show (decide (5 ≤ a.m) && decide (a.m ≤ 10)) = true by rw [HM.out]; rfl]
  have Z3 := hidB (show Bk (w3.setCells gz 3 a.k.cells.toArray.toList) gz 121 (seenC bg a a.k OI.zero) from Z.out.setCells2 (ds := seenC bg a a.k OI.zero) a.k.cells.toArray.toList 3 (Nat.le_of_ble_eq_true rfl) rfl)
  have Y3 := hidB (show Bk (w3.setCells gz 3 a.k.cells.toArray.toList) (w.heap.size) 34 (a.cs) from Bk.setCells_far (by have := HZR.out; omega) a.k.cells.toArray.toList 3 Y.out)
  have X3 := hidB (show Bk (w3.setCells gz 3 a.k.cells.toArray.toList) (w.heap.size + 1) 49 (x.cs) from Bk.setCells_far (by have := HZR.out; omega) a.k.cells.toArray.toList 3 X.out)
  have R3 := hidB (show Bk (w3.setCells gz 3 a.k.cells.toArray.toList) (w.heap.size + 1 + 1) 121 (#[.int .i64 0, .int .i64 0, .int .u8 0, .string ⟨#[]⟩, .int .i64 0, .bool false, .int .u8 0, .int .u8 0, .float .f64 0, .string ⟨#[]⟩, .int .i64 0, .bool false, .bool false, .int .u8 0, .int .u8 0, .float .f64 0, .string ⟨#[]⟩, .int .i64 0, .int .u8 0, .float .f64 0, .string ⟨#[]⟩, .int .i64 0, .int .u8 0, .float .f64 0, .string ⟨#[]⟩, .int .i64 0, .bool false, .bool false, .bool false, .slice none 0 0, .int .u8 0, .string ⟨#[]⟩]) from Bk.setCells_far (by have := HZR.out; omega) a.k.cells.toArray.toList 3 R.out)
  have B3 := hidB (show Below w.heap.size w (w3.setCells gz 3 a.k.cells.toArray.toList) from below_setCells HZ.out _ _ B.out)
  go_upto_region 4 with (first | ((with_reducible refine ldId 26 (.tmp 20) ?_); refine wpList_load_mid (by rfl) 26 (.tmp 20) (by rfl) (w.heap.size) 2 (by rfl) (a.k.cells) _ (by exact Bk.mid Y.out 2 _ rfl) Tryz.underlying26 (by rfl) (by kernel_rfl) ?_) | ((with_reducible refine stId 26 (.tmp 22) (.tmp 21) ?_); refine wpList_store_mid (by rfl) 26 (.tmp 22) (.tmp 21) (by rfl) (gz) (3) (a.k.cells.toArray) (by rfl) (by rfl) (by exact Z.out.there 3 2 (Nat.le_of_ble_eq_true rfl)) (by kernel_rfl) (by kernel_rfl) ?_))
  generalize hW : (w3.setCells gz 3 a.k.cells.toArray.toList) = w4 at *
  clear hW Z Y X R B
  have Z := Z3
  have Y := Y3
  have X := X3
  have R := R3
  have B := B3
  clear Z3 Y3 X3 R3 B3 y0
  have y0 : w4.cell? ⟨w.heap.size, 0, none⟩ = some (.int .u8 a.m) := Y.out.cell 0
  have z5 : w4.cell? ⟨gz, 5, none⟩ = some (.bool false) := Z.out.cell 5
  go_wp2_with (first | ((with_reducible refine ldId 49 (.tmp 4) ?_); refine wpList_load_row (by rfl) 49 (.tmp 4) (by rfl) (w.heap.size + 1) (by rfl) 49 (x.cs) (0, 0) _ (by exact X.out) Tryz.underlying49 (by rfl) (by kernel_rfl) ?_))
  refine (told8_any a.m HM.out x HN.out _).mono ?_; rintro e w5 ⟨rfl, hb⟩
  replace Z := hidB (Z.out.on hb)
  replace R := hidB (R.out.on hb)
  replace B := hidB (B.out.trans (hb.mono B.out.size))
  clear hb
  obtain ⟨tx, htx⟩ : ∃ q, toldI 8 x = q := ⟨_, rfl⟩
  have HTX := hidB htx
  have HTK := hidB (show tx.keys.oneCell' = true from htx ▸ told_key 8 x)
  rw [htx]
  clear htx
  have Z3 := hidB (show Bk (w5.setCells gz 6 tx.cs.toList) gz 121 (seenC bg a a.k tx) from Z.out.setCells2 (ds := seenC bg a a.k tx) tx.cs.toList 6 (Nat.le_of_ble_eq_true rfl) rfl)
  have R3 := hidB (show Bk (w5.setCells gz 6 tx.cs.toList) (w.heap.size + 1 + 1) 121 (#[.int .i64 0, .int .i64 0, .int .u8 0, .string ⟨#[]⟩, .int .i64 0, .bool false, .int .u8 0, .int .u8 0, .float .f64 0, .string ⟨#[]⟩, .int .i64 0, .bool false, .bool false, .int .u8 0, .int .u8 0, .float .f64 0, .string ⟨#[]⟩, .int .i64 0, .int .u8 0, .float .f64 0, .string ⟨#[]⟩, .int .i64 0, .int .u8 0, .float .f64 0, .string ⟨#[]⟩, .int .i64 0, .bool false, .bool false, .bool false, .slice none 0 0, .int .u8 0, .string ⟨#[]⟩]) from Bk.setCells_far (by have := HZR.out; omega) _ 6 R.out)
  have B3 := hidB (show Below w.heap.size w (w5.setCells gz 6 tx.cs.toList) from below_setCells HZ.out _ _ B.out)
  have HSO := hidB (seen_one bg a (a.k) tx HTK.out)
  go_upto_region 6 with (first | ((with_reducible refine stId 49 (.tmp 30) (.tmp 29) ?_); refine wpList_store_mid (by rfl) 49 (.tmp 30) (.tmp 29) (by rfl) (gz) (6) (tx.cs) (by rfl) (by rfl) (by exact Z.out.there 6 26 (Nat.le_of_ble_eq_true rfl)) (by kernel_rfl) (by exact OI.one _ HTK.out) ?_))
  generalize hW : (w5.setCells gz 6 tx.cs.toList) = w6 at *
  clear hW Z R B
  go_wp2_with (first | ((with_reducible refine ldId 121 (.tmp 7) ?_); refine wpList_load_row (by rfl) 121 (.tmp 7) (by rfl) (gz) (by rfl) 121 (seenC bg a a.k tx) (0, 0) _ (by exact Z3.out) Tryz.underlying121 (by rfl) (by kernel_rfl) ?_) | ((with_reducible refine stId 121 (.tmp 6) (.tmp 31) ?_); refine wpList_store_row (by rfl) 121 (.tmp 6) (.tmp 31) (by rfl) (w.heap.size + 1 + 1) (seenC bg a a.k tx) (by rfl) (by rfl) 121 (#[.int .i64 0, .int .i64 0, .int .u8 0, .string ⟨#[]⟩, .int .i64 0, .bool false, .int .u8 0, .int .u8 0, .float .f64 0, .string ⟨#[]⟩, .int .i64 0, .bool false, .bool false, .int .u8 0, .int .u8 0, .float .f64 0, .string ⟨#[]⟩, .int .i64 0, .int .u8 0, .float .f64 0, .string ⟨#[]⟩, .int .i64 0, .int .u8 0, .float .f64 0, .string ⟨#[]⟩, .int .i64 0, .bool false, .bool false, .bool false, .slice none 0 0, .int .u8 0, .string ⟨#[]⟩]) (by exact R3.out) (by kernel_rfl) (by rfl) (by exact HSO.out) ?_))
  exact bodyPost_ret (v := .agg (seenC bg a a.k tx)) (results_cell_row Tryz.results61 _ _ (w.heap.size + 1 + 1) 121 (seenC bg a a.k tx) (0, 0) _ rfl (R3.out.setRow _) Tryz.underlying121 rfl (by kernel_rfl)) rfl (⟨by rw [HTX.out], below_setRow B3.out (by omega) _⟩)

end Go.Proofs.YtbmaodlghglopaaGreatDoor
