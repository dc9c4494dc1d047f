/-
  The reference's calls, constructions and bodies, answer by answer.
-/
import Derived.Test.YtbkjbpefbdoenaaCEnd
namespace Go.Proofs.Ytbkjbpefbdoenaa
open Go.RowKit

set_option maxHeartbeats 8000000 in
set_option maxRecDepth 100000 in
theorem rdoneI_any (v : VI) (w : World) : Calls Try.prog 79 #[v.a] w fun e w' => e = .returned (doneI v).a ∧ Below w.heap.size w w' := by
  have X := hidB (show Bk ((w.alloc (.cells (v.cells.toArray) 24)).alloc (.cells (#[.int .u8 0, .int .u8 0, .float .f64 0, .string ⟨#[]⟩, .int .i64 0, .bool false, .bool false, .int .u8 0, .int .u8 0, .float .f64 0, .string ⟨#[]⟩, .int .i64 0, .int .u8 0, .float .f64 0, .string ⟨#[]⟩, .int .i64 0, .int .u8 0, .float .f64 0, .string ⟨#[]⟩, .int .i64 0, .bool false, .bool false, .bool false, .slice none 0 0, .int .u8 0, .string ⟨#[]⟩]) 36)) (w.heap.size) 24 (v.cells.toArray) from (Bk.new w _ _).alloc _)
  have R := hidB (show Bk ((w.alloc (.cells (v.cells.toArray) 24)).alloc (.cells (#[.int .u8 0, .int .u8 0, .float .f64 0, .string ⟨#[]⟩, .int .i64 0, .bool false, .bool false, .int .u8 0, .int .u8 0, .float .f64 0, .string ⟨#[]⟩, .int .i64 0, .int .u8 0, .float .f64 0, .string ⟨#[]⟩, .int .i64 0, .int .u8 0, .float .f64 0, .string ⟨#[]⟩, .int .i64 0, .bool false, .bool false, .bool false, .slice none 0 0, .int .u8 0, .string ⟨#[]⟩]) 36)) (w.heap.size + 1) 36 (OI.zero.cs) from Bk.new2 w _ _ _)
  have B := hidB (show Below w.heap.size w ((w.alloc (.cells (v.cells.toArray) 24)).alloc (.cells (#[.int .u8 0, .int .u8 0, .float .f64 0, .string ⟨#[]⟩, .int .i64 0, .bool false, .bool false, .int .u8 0, .int .u8 0, .float .f64 0, .string ⟨#[]⟩, .int .i64 0, .int .u8 0, .float .f64 0, .string ⟨#[]⟩, .int .i64 0, .int .u8 0, .float .f64 0, .string ⟨#[]⟩, .int .i64 0, .bool false, .bool false, .bool false, .slice none 0 0, .int .u8 0, .string ⟨#[]⟩]) 36)) from (box_one w _).alloc (by simp) _)
  go_enter Try.func79, Try.ntmps79
  go_upto_region 1 with fail
  generalize hW : ((w.alloc (.cells (v.cells.toArray) 24)).alloc (.cells (#[.int .u8 0, .int .u8 0, .float .f64 0, .string ⟨#[]⟩, .int .i64 0, .bool false, .bool false, .int .u8 0, .int .u8 0, .float .f64 0, .string ⟨#[]⟩, .int .i64 0, .int .u8 0, .float .f64 0, .string ⟨#[]⟩, .int .i64 0, .int .u8 0, .float .f64 0, .string ⟨#[]⟩, .int .i64 0, .bool false, .bool false, .bool false, .slice none 0 0, .int .u8 0, .string ⟨#[]⟩]) 36)) = w1 at *
  clear hW
  go_wp2_with (first | ((with_reducible refine ldId 24 (.tmp 1) ?_); refine wpList_load_row (by rfl) 24 (.tmp 1) (by rfl) (w.heap.size) (by rfl) 24 (v.cells.toArray) (0, 0) _ (by exact X.out) Try.underlying24 (by rfl) (by kernel_rfl) ?_) | ((with_reducible refine wpId ?_); refine wpList_build_to (by rfl) 36 _ (by rfl) ((doneI v).cs) (by kernel_rfl) ?_) | ((with_reducible refine stId 36 (.tmp 2) (.tmp 4) ?_); refine wpList_store_row (by rfl) 36 (.tmp 2) (.tmp 4) (by rfl) (w.heap.size + 1) ((doneI v).cs) (by rfl) (by rfl) 36 (OI.zero.cs) (by exact R.out) (by kernel_rfl) (by rfl) (by exact OI.one _ rfl) ?_))
  exact bodyPost_ret (v := .agg ((doneI v).cs)) (results_cell_row Try.results79 _ _ (w.heap.size + 1) 36 ((doneI v).cs) (0, 0) _ rfl (R.out.setRow _) Try.underlying36 rfl (by kernel_rfl)) rfl (⟨rfl, below_setRow B.out (by first | exact Nat.le_refl _ | exact Nat.le_succ _) _⟩)
set_option maxHeartbeats 8000000 in
set_option maxRecDepth 100000 in
theorem rfailI_any (w : World) : Calls Try.prog 94 #[.int .u8 1, .string ⟨#[116, 121, 112, 101]⟩] w fun e w' => e = .returned (typeI).a ∧ Below w.heap.size w w' := by
  have R := hidB (show Bk (w.alloc (.cells (#[.int .u8 0, .int .u8 0, .float .f64 0, .string ⟨#[]⟩, .int .i64 0, .bool false, .bool false, .int .u8 0, .int .u8 0, .float .f64 0, .string ⟨#[]⟩, .int .i64 0, .int .u8 0, .float .f64 0, .string ⟨#[]⟩, .int .i64 0, .int .u8 0, .float .f64 0, .string ⟨#[]⟩, .int .i64 0, .bool false, .bool false, .bool false, .slice none 0 0, .int .u8 0, .string ⟨#[]⟩]) 36)) (w.heap.size) 36 (OI.zero.cs) from Bk.new w _ _)
  have B := hidB (show Below w.heap.size w (w.alloc (.cells (#[.int .u8 0, .int .u8 0, .float .f64 0, .string ⟨#[]⟩, .int .i64 0, .bool false, .bool false, .int .u8 0, .int .u8 0, .float .f64 0, .string ⟨#[]⟩, .int .i64 0, .int .u8 0, .float .f64 0, .string ⟨#[]⟩, .int .i64 0, .int .u8 0, .float .f64 0, .string ⟨#[]⟩, .int .i64 0, .bool false, .bool false, .bool false, .slice none 0 0, .int .u8 0, .string ⟨#[]⟩]) 36)) from box_one w _)
  go_enter Try.func94, Try.ntmps94
  go_upto_region 1 with fail
  generalize hW : (w.alloc (.cells (#[.int .u8 0, .int .u8 0, .float .f64 0, .string ⟨#[]⟩, .int .i64 0, .bool false, .bool false, .int .u8 0, .int .u8 0, .float .f64 0, .string ⟨#[]⟩, .int .i64 0, .int .u8 0, .float .f64 0, .string ⟨#[]⟩, .int .i64 0, .int .u8 0, .float .f64 0, .string ⟨#[]⟩, .int .i64 0, .bool false, .bool false, .bool false, .slice none 0 0, .int .u8 0, .string ⟨#[]⟩]) 36)) = w1 at *
  clear hW
  go_wp2_with (first | ((with_reducible refine wpId ?_); refine wpList_build_to (by rfl) 36 _ (by rfl) (typeI.cs) (by kernel_rfl) ?_) | ((with_reducible refine stId 36 (.tmp 4) (.tmp 7) ?_); refine wpList_store_row (by rfl) 36 (.tmp 4) (.tmp 7) (by rfl) (w.heap.size) (typeI.cs) (by rfl) (by rfl) 36 (OI.zero.cs) (by exact R.out) (by kernel_rfl) (by rfl) (by exact OI.one _ rfl) ?_))
  exact bodyPost_ret (v := .agg ((typeI).cs)) (results_cell_row Try.results94 _ _ (w.heap.size) 36 ((typeI).cs) (0, 0) _ rfl (R.out.setRow _) Try.underlying36 rfl (by kernel_rfl)) rfl (⟨rfl, below_setRow B.out (by first | exact Nat.le_refl _ | exact Nat.le_succ _) _⟩)
set_option maxHeartbeats 8000000 in
set_option maxRecDepth 100000 in
theorem rtypeI_any (w : World) : Calls Try.prog 77 #[] w fun e w' => e = .returned typeI.a ∧ Below w.heap.size w w' := by
  have R := hidB (show Bk (w.alloc (.cells (#[.int .u8 0, .int .u8 0, .float .f64 0, .string ⟨#[]⟩, .int .i64 0, .bool false, .bool false, .int .u8 0, .int .u8 0, .float .f64 0, .string ⟨#[]⟩, .int .i64 0, .int .u8 0, .float .f64 0, .string ⟨#[]⟩, .int .i64 0, .int .u8 0, .float .f64 0, .string ⟨#[]⟩, .int .i64 0, .bool false, .bool false, .bool false, .slice none 0 0, .int .u8 0, .string ⟨#[]⟩]) 36)) (w.heap.size) 36 (OI.zero.cs) from Bk.new w _ _)
  have B := hidB (show Below w.heap.size w (w.alloc (.cells (#[.int .u8 0, .int .u8 0, .float .f64 0, .string ⟨#[]⟩, .int .i64 0, .bool false, .bool false, .int .u8 0, .int .u8 0, .float .f64 0, .string ⟨#[]⟩, .int .i64 0, .int .u8 0, .float .f64 0, .string ⟨#[]⟩, .int .i64 0, .int .u8 0, .float .f64 0, .string ⟨#[]⟩, .int .i64 0, .bool false, .bool false, .bool false, .slice none 0 0, .int .u8 0, .string ⟨#[]⟩]) 36)) from box_one w _)
  go_enter Try.func77, Try.ntmps77
  go_upto_region 1 with fail
  generalize hW : (w.alloc (.cells (#[.int .u8 0, .int .u8 0, .float .f64 0, .string ⟨#[]⟩, .int .i64 0, .bool false, .bool false, .int .u8 0, .int .u8 0, .float .f64 0, .string ⟨#[]⟩, .int .i64 0, .int .u8 0, .float .f64 0, .string ⟨#[]⟩, .int .i64 0, .int .u8 0, .float .f64 0, .string ⟨#[]⟩, .int .i64 0, .bool false, .bool false, .bool false, .slice none 0 0, .int .u8 0, .string ⟨#[]⟩]) 36)) = w1 at *
  clear hW
  go_wp2_with fail
  refine (rfailI_any _).mono ?_; rintro e w2 ⟨rfl, hb⟩
  replace R := hidB (R.out.on hb)
  replace B := hidB (B.out.trans (hb.mono B.out.size))
  clear hb
  go_wp2_with (first | ((with_reducible refine stId 36 (.tmp 0) (.tmp 1) ?_); refine wpList_store_row (by rfl) 36 (.tmp 0) (.tmp 1) (by rfl) (w.heap.size) (typeI.cs) (by rfl) (by rfl) 36 (OI.zero.cs) (by exact R.out) (by kernel_rfl) (by rfl) (by exact OI.one _ rfl) ?_))
  exact bodyPost_ret (v := .agg (typeI.cs)) (results_cell_row Try.results77 _ _ (w.heap.size) 36 (typeI.cs) (0, 0) _ rfl (R.out.setRow _) Try.underlying36 rfl (by kernel_rfl)) rfl (⟨rfl, below_setRow B.out (Nat.le_refl _) _⟩)
theorem nthO_one {L : List (OI × List KI)} (hK : ∀ e ∈ L, e.1.keys.oneCell' = true) (k : Nat) : (nthO L k).keys.oneCell' = true := by
  unfold nthO
  cases h : L[k]? with
  | none => rfl
  | some e => exact hK e (List.mem_of_getElem? h)
theorem RP.lt {w0 : World} {p : Nat} {ans : Value} {wl : List WI} {w : World} (h : RP w0 p ans wl w) : p < w.heap.size := by
  obtain ⟨_, _, _, h3, _⟩ := h
  exact h3.lt
/-- The answers, as the player holds them. -/
structure AnsO (L : List (OI × List KI)) (ans : Value) (w0 : World) : Prop where
  rd : RdO L ans w0
  one : ∀ e ∈ L, e.1.keys.oneCell' = true
set_option maxHeartbeats 8000000 in
set_option maxRecDepth 100000 in
theorem rmethod_any (a : AI) (ha : a.args.oneCell' = true) (w0 : World) (p : Nat) (ans : Value) (wl : List WI) (L : List (OI × List KI)) (hA : AnsO L ans w0) (k : Nat) (hk : wl.length = k) (hk2 : k ≤ 1000) (w : World) (h : RP w0 p ans wl w) : Calls Try.prog 78 #[.pointer (some ⟨p, 0, none⟩), a.a] w fun e w' => e = .returned (nthO L k).a ∧ RP w0 p ans (wl ++ [methW a]) w' ∧ FrP p w w' := by
  have HPL := hidB h.lt
  have HB0 := hidB h.b.size
  have X := hidB (show Bk ((w.alloc (.cells (a.cs) 40)).alloc (.cells (#[.int .u8 0, .int .u8 0, .float .f64 0, .string ⟨#[]⟩, .int .i64 0, .bool false, .bool false, .int .u8 0, .int .u8 0, .float .f64 0, .string ⟨#[]⟩, .int .i64 0, .int .u8 0, .float .f64 0, .string ⟨#[]⟩, .int .i64 0, .int .u8 0, .float .f64 0, .string ⟨#[]⟩, .int .i64 0, .bool false, .bool false, .bool false, .slice none 0 0, .int .u8 0, .string ⟨#[]⟩]) 36)) (w.heap.size) 40 (a.cs) from (Bk.new w _ _).alloc _)
  have R := hidB (show Bk ((w.alloc (.cells (a.cs) 40)).alloc (.cells (#[.int .u8 0, .int .u8 0, .float .f64 0, .string ⟨#[]⟩, .int .i64 0, .bool false, .bool false, .int .u8 0, .int .u8 0, .float .f64 0, .string ⟨#[]⟩, .int .i64 0, .int .u8 0, .float .f64 0, .string ⟨#[]⟩, .int .i64 0, .int .u8 0, .float .f64 0, .string ⟨#[]⟩, .int .i64 0, .bool false, .bool false, .bool false, .slice none 0 0, .int .u8 0, .string ⟨#[]⟩]) 36)) (w.heap.size + 1) 36 (OI.zero.cs) from Bk.new2 w _ _ _)
  have B := hidB (show Below w.heap.size w ((w.alloc (.cells (a.cs) 40)).alloc (.cells (#[.int .u8 0, .int .u8 0, .float .f64 0, .string ⟨#[]⟩, .int .i64 0, .bool false, .bool false, .int .u8 0, .int .u8 0, .float .f64 0, .string ⟨#[]⟩, .int .i64 0, .int .u8 0, .float .f64 0, .string ⟨#[]⟩, .int .i64 0, .int .u8 0, .float .f64 0, .string ⟨#[]⟩, .int .i64 0, .bool false, .bool false, .bool false, .slice none 0 0, .int .u8 0, .string ⟨#[]⟩]) 36)) from (box_one w _).alloc (by simp) _)
  have PF := hidB (show RP w0 p ans wl ((w.alloc (.cells (a.cs) 40)).alloc (.cells (#[.int .u8 0, .int .u8 0, .float .f64 0, .string ⟨#[]⟩, .int .i64 0, .bool false, .bool false, .int .u8 0, .int .u8 0, .float .f64 0, .string ⟨#[]⟩, .int .i64 0, .int .u8 0, .float .f64 0, .string ⟨#[]⟩, .int .i64 0, .int .u8 0, .float .f64 0, .string ⟨#[]⟩, .int .i64 0, .bool false, .bool false, .bool false, .slice none 0 0, .int .u8 0, .string ⟨#[]⟩]) 36)) from h.on B.out)
  have FR := hidB (FrP.below (p := p) B.out)
  have HO := hidB (nthO_one hA.one k)
  obtain ⟨O, hO⟩ : ∃ q, nthO L k = q := ⟨_, rfl⟩
  have HOE := hidB hO
  rw [hO] at HO
  rw [show (fun (e : Ending) (w' : World) => e = .returned (nthO L k).a ∧ RP w0 p ans (wl ++ [methW a]) w' ∧ FrP p w w') = (fun e w' => e = .returned O.a ∧ RP w0 p ans (wl ++ [methW a]) w' ∧ FrP p w w') by rw [hO]]
  clear h hO
  go_enter Try.func78, Try.ntmps78
  go_upto_region 1 with fail
  generalize hW : ((w.alloc (.cells (a.cs) 40)).alloc (.cells (#[.int .u8 0, .int .u8 0, .float .f64 0, .string ⟨#[]⟩, .int .i64 0, .bool false, .bool false, .int .u8 0, .int .u8 0, .float .f64 0, .string ⟨#[]⟩, .int .i64 0, .int .u8 0, .float .f64 0, .string ⟨#[]⟩, .int .i64 0, .int .u8 0, .float .f64 0, .string ⟨#[]⟩, .int .i64 0, .bool false, .bool false, .bool false, .slice none 0 0, .int .u8 0, .string ⟨#[]⟩]) 36)) = w1 at *
  clear hW
  go_wp2_with (first | ((with_reducible refine ldId 40 (.tmp 3) ?_); refine wpList_load_row (by rfl) 40 (.tmp 3) (by rfl) (w.heap.size) (by rfl) 40 (a.cs) (0, 0) _ (by exact X.out) Try.underlying40 (by rfl) (by kernel_rfl) ?_) | ((with_reducible refine wpId ?_); refine wpList_build_to (by rfl) 45 _ (by rfl) ((methW a).cs) (by kernel_rfl) ?_))
  refine ((show Calls _ _ _ _ _ from hk ▸ rwant_any w0 p ans wl L (methW a) hA.rd hA.one (WI.one _ ha rfl rfl rfl) (by omega) w1 PF.out)).mono ?_; rintro e w2 ⟨he, hrp, hfr⟩; rw [HOE.out] at he; subst he
  replace R := hidB (hfr.keep _ _ _ R.out (by decide) (by have := HPL.out; omega))
  have PF := hidB hrp
  replace FR := hidB (FR.out.trans hfr)
  clear hrp hfr B
  go_wp2_with (first | ((with_reducible refine stId 36 (.tmp 4) (.tmp 8) ?_); refine wpList_store_row (by rfl) 36 (.tmp 4) (.tmp 8) (by rfl) (w.heap.size + 1) (O.cs) (by rfl) (by rfl) 36 (OI.zero.cs) (by exact R.out) (by kernel_rfl) (by rfl) (by exact OI.one _ HO.out) ?_))
  exact bodyPost_ret (v := .agg (O.cs)) (results_cell_row Try.results78 _ _ (w.heap.size + 1) 36 (O.cs) (0, 0) _ rfl (R.out.setRow _) Try.underlying36 rfl (by kernel_rfl)) rfl (⟨rfl, PF.out.setRow (by have := HB0.out; omega) R.out (by decide) (by decide) _, FR.out.setRow (by omega) _⟩)
set_option maxHeartbeats 8000000 in
set_option maxRecDepth 100000 in
theorem rget_any (v : VI) (q : KI) (w0 : World) (p : Nat) (ans : Value) (wl : List WI) (L : List (OI × List KI)) (hA : AnsO L ans w0) (k : Nat) (hk : wl.length = k) (hk2 : k ≤ 1000) (w : World) (h : RP w0 p ans wl w) : Calls Try.prog 80 #[.pointer (some ⟨p, 0, none⟩), v.a, q.a] w fun e w' => e = .returned (nthO L k).a ∧ RP w0 p ans (wl ++ [methW (getA v q)]) w' ∧ FrP p w w' := by
  have HPL := hidB h.lt
  have HB0 := hidB h.b.size
  have X := hidB (show Bk (((w.alloc (.cells (v.cells.toArray) 24)).alloc (.cells (q.cells.toArray) 38)).alloc (.cells (#[.int .u8 0, .int .u8 0, .float .f64 0, .string ⟨#[]⟩, .int .i64 0, .bool false, .bool false, .int .u8 0, .int .u8 0, .float .f64 0, .string ⟨#[]⟩, .int .i64 0, .int .u8 0, .float .f64 0, .string ⟨#[]⟩, .int .i64 0, .int .u8 0, .float .f64 0, .string ⟨#[]⟩, .int .i64 0, .bool false, .bool false, .bool false, .slice none 0 0, .int .u8 0, .string ⟨#[]⟩]) 36)) (w.heap.size) 24 (v.cells.toArray) from ((Bk.new w _ _).alloc _).alloc _)
  have Y := hidB (show Bk (((w.alloc (.cells (v.cells.toArray) 24)).alloc (.cells (q.cells.toArray) 38)).alloc (.cells (#[.int .u8 0, .int .u8 0, .float .f64 0, .string ⟨#[]⟩, .int .i64 0, .bool false, .bool false, .int .u8 0, .int .u8 0, .float .f64 0, .string ⟨#[]⟩, .int .i64 0, .int .u8 0, .float .f64 0, .string ⟨#[]⟩, .int .i64 0, .int .u8 0, .float .f64 0, .string ⟨#[]⟩, .int .i64 0, .bool false, .bool false, .bool false, .slice none 0 0, .int .u8 0, .string ⟨#[]⟩]) 36)) (w.heap.size + 1) 38 (q.cells.toArray) from (Bk.new2 w _ _ _).alloc _)
  have R := hidB (show Bk (((w.alloc (.cells (v.cells.toArray) 24)).alloc (.cells (q.cells.toArray) 38)).alloc (.cells (#[.int .u8 0, .int .u8 0, .float .f64 0, .string ⟨#[]⟩, .int .i64 0, .bool false, .bool false, .int .u8 0, .int .u8 0, .float .f64 0, .string ⟨#[]⟩, .int .i64 0, .int .u8 0, .float .f64 0, .string ⟨#[]⟩, .int .i64 0, .int .u8 0, .float .f64 0, .string ⟨#[]⟩, .int .i64 0, .bool false, .bool false, .bool false, .slice none 0 0, .int .u8 0, .string ⟨#[]⟩]) 36)) (w.heap.size + 1 + 1) 36 (OI.zero.cs) from Bk.new3 w _ _ _ _)
  have B := hidB (show Below w.heap.size w (((w.alloc (.cells (v.cells.toArray) 24)).alloc (.cells (q.cells.toArray) 38)).alloc (.cells (#[.int .u8 0, .int .u8 0, .float .f64 0, .string ⟨#[]⟩, .int .i64 0, .bool false, .bool false, .int .u8 0, .int .u8 0, .float .f64 0, .string ⟨#[]⟩, .int .i64 0, .int .u8 0, .float .f64 0, .string ⟨#[]⟩, .int .i64 0, .int .u8 0, .float .f64 0, .string ⟨#[]⟩, .int .i64 0, .bool false, .bool false, .bool false, .slice none 0 0, .int .u8 0, .string ⟨#[]⟩]) 36)) from ((box_one w _).alloc (by simp) _).alloc (by simp <;> omega) _)
  have PF := hidB (show RP w0 p ans wl (((w.alloc (.cells (v.cells.toArray) 24)).alloc (.cells (q.cells.toArray) 38)).alloc (.cells (#[.int .u8 0, .int .u8 0, .float .f64 0, .string ⟨#[]⟩, .int .i64 0, .bool false, .bool false, .int .u8 0, .int .u8 0, .float .f64 0, .string ⟨#[]⟩, .int .i64 0, .int .u8 0, .float .f64 0, .string ⟨#[]⟩, .int .i64 0, .int .u8 0, .float .f64 0, .string ⟨#[]⟩, .int .i64 0, .bool false, .bool false, .bool false, .slice none 0 0, .int .u8 0, .string ⟨#[]⟩]) 36)) from h.on B.out)
  have FR := hidB (FrP.below (p := p) B.out)
  have HO := hidB (nthO_one hA.one k)
  obtain ⟨O, hO⟩ : ∃ q, nthO L k = q := ⟨_, rfl⟩
  have HOE := hidB hO
  rw [hO] at HO
  rw [show (fun (e : Ending) (w' : World) => e = .returned (nthO L k).a ∧ RP w0 p ans (wl ++ [methW (getA v q)]) w' ∧ FrP p w w') = (fun e w' => e = .returned O.a ∧ RP w0 p ans (wl ++ [methW (getA v q)]) w' ∧ FrP p w w') by rw [hO]]
  clear h hO
  go_enter Try.func80, Try.ntmps80
  go_upto_region 1 with fail
  generalize hW : (((w.alloc (.cells (v.cells.toArray) 24)).alloc (.cells (q.cells.toArray) 38)).alloc (.cells (#[.int .u8 0, .int .u8 0, .float .f64 0, .string ⟨#[]⟩, .int .i64 0, .bool false, .bool false, .int .u8 0, .int .u8 0, .float .f64 0, .string ⟨#[]⟩, .int .i64 0, .int .u8 0, .float .f64 0, .string ⟨#[]⟩, .int .i64 0, .int .u8 0, .float .f64 0, .string ⟨#[]⟩, .int .i64 0, .bool false, .bool false, .bool false, .slice none 0 0, .int .u8 0, .string ⟨#[]⟩]) 36)) = w1 at *
  clear hW
  have x3 : w1.cell? ⟨w.heap.size, 3, none⟩ = some (.int .i64 v.r) := X.out.cell 3
  go_wp2_with (first | ((with_reducible refine ldId 38 (.tmp 5) ?_); refine wpList_load_row (by rfl) 38 (.tmp 5) (by rfl) (w.heap.size + 1) (by rfl) 38 (q.cells.toArray) (0, 0) _ (by exact Y.out) Try.underlying38 (by rfl) (by kernel_rfl) ?_) | ((with_reducible refine ldId 24 (.tmp 4) ?_); refine wpList_load_row (by rfl) 24 (.tmp 4) (by rfl) (w.heap.size) (by rfl) 24 (v.cells.toArray) (0, 0) _ (by exact X.out) Try.underlying24 (by rfl) (by kernel_rfl) ?_) | ((with_reducible refine wpId ?_); refine wpList_build_to (by rfl) 40 _ (by rfl) ((getA v q).cs) (by kernel_rfl) ?_))
  refine (rmethod_any (getA v q) rfl w0 p ans wl L hA k hk hk2 w1 PF.out).mono ?_; rintro e w2 ⟨he, hrp, hfr⟩; rw [HOE.out] at he; subst he
  replace R := hidB (hfr.keep _ _ _ R.out (by decide) (by have := HPL.out; omega))
  have PF := hidB hrp
  replace FR := hidB (FR.out.trans hfr)
  clear hrp hfr B
  go_wp2_with (first | ((with_reducible refine stId 36 (.tmp 6) (.tmp 13) ?_); refine wpList_store_row (by rfl) 36 (.tmp 6) (.tmp 13) (by rfl) (w.heap.size + 1 + 1) (O.cs) (by rfl) (by rfl) 36 (OI.zero.cs) (by exact R.out) (by kernel_rfl) (by rfl) (by exact OI.one _ HO.out) ?_))
  exact bodyPost_ret (v := .agg (O.cs)) (results_cell_row Try.results80 _ _ (w.heap.size + 1 + 1) 36 (O.cs) (0, 0) _ rfl (R.out.setRow _) Try.underlying36 rfl (by kernel_rfl)) rfl (⟨rfl, PF.out.setRow (by have := HB0.out; omega) R.out (by decide) (by decide) _, FR.out.setRow (by omega) _⟩)
set_option maxHeartbeats 8000000 in
set_option maxRecDepth 100000 in
theorem rmade_any (o : JI) (ho : o.props.oneCell' = true) (w0 : World) (p : Nat) (ans : Value) (wl : List WI) (L : List (OI × List KI)) (hA : AnsO L ans w0) (k : Nat) (hk : wl.length = k) (hk2 : k ≤ 1000) (w : World) (h : RP w0 p ans wl w) : Calls Try.prog 81 #[.pointer (some ⟨p, 0, none⟩), o.a] w fun e w' => e = .returned (nthO L k).a ∧ RP w0 p ans (wl ++ [madeW o]) w' ∧ FrP p w w' := by
  have HPL := hidB h.lt
  have HB0 := hidB h.b.size
  have X := hidB (show Bk ((w.alloc (.cells (o.cs) 43)).alloc (.cells (#[.int .u8 0, .int .u8 0, .float .f64 0, .string ⟨#[]⟩, .int .i64 0, .bool false, .bool false, .int .u8 0, .int .u8 0, .float .f64 0, .string ⟨#[]⟩, .int .i64 0, .int .u8 0, .float .f64 0, .string ⟨#[]⟩, .int .i64 0, .int .u8 0, .float .f64 0, .string ⟨#[]⟩, .int .i64 0, .bool false, .bool false, .bool false, .slice none 0 0, .int .u8 0, .string ⟨#[]⟩]) 36)) (w.heap.size) 43 (o.cs) from (Bk.new w _ _).alloc _)
  have R := hidB (show Bk ((w.alloc (.cells (o.cs) 43)).alloc (.cells (#[.int .u8 0, .int .u8 0, .float .f64 0, .string ⟨#[]⟩, .int .i64 0, .bool false, .bool false, .int .u8 0, .int .u8 0, .float .f64 0, .string ⟨#[]⟩, .int .i64 0, .int .u8 0, .float .f64 0, .string ⟨#[]⟩, .int .i64 0, .int .u8 0, .float .f64 0, .string ⟨#[]⟩, .int .i64 0, .bool false, .bool false, .bool false, .slice none 0 0, .int .u8 0, .string ⟨#[]⟩]) 36)) (w.heap.size + 1) 36 (OI.zero.cs) from Bk.new2 w _ _ _)
  have B := hidB (show Below w.heap.size w ((w.alloc (.cells (o.cs) 43)).alloc (.cells (#[.int .u8 0, .int .u8 0, .float .f64 0, .string ⟨#[]⟩, .int .i64 0, .bool false, .bool false, .int .u8 0, .int .u8 0, .float .f64 0, .string ⟨#[]⟩, .int .i64 0, .int .u8 0, .float .f64 0, .string ⟨#[]⟩, .int .i64 0, .int .u8 0, .float .f64 0, .string ⟨#[]⟩, .int .i64 0, .bool false, .bool false, .bool false, .slice none 0 0, .int .u8 0, .string ⟨#[]⟩]) 36)) from (box_one w _).alloc (by simp) _)
  have PF := hidB (show RP w0 p ans wl ((w.alloc (.cells (o.cs) 43)).alloc (.cells (#[.int .u8 0, .int .u8 0, .float .f64 0, .string ⟨#[]⟩, .int .i64 0, .bool false, .bool false, .int .u8 0, .int .u8 0, .float .f64 0, .string ⟨#[]⟩, .int .i64 0, .int .u8 0, .float .f64 0, .string ⟨#[]⟩, .int .i64 0, .int .u8 0, .float .f64 0, .string ⟨#[]⟩, .int .i64 0, .bool false, .bool false, .bool false, .slice none 0 0, .int .u8 0, .string ⟨#[]⟩]) 36)) from h.on B.out)
  have FR := hidB (FrP.below (p := p) B.out)
  have HO := hidB (nthO_one hA.one k)
  obtain ⟨O, hO⟩ : ∃ q, nthO L k = q := ⟨_, rfl⟩
  have HOE := hidB hO
  rw [hO] at HO
  rw [show (fun (e : Ending) (w' : World) => e = .returned (nthO L k).a ∧ RP w0 p ans (wl ++ [madeW o]) w' ∧ FrP p w w') = (fun e w' => e = .returned O.a ∧ RP w0 p ans (wl ++ [madeW o]) w' ∧ FrP p w w') by rw [hO]]
  clear h hO
  go_enter Try.func81, Try.ntmps81
  go_upto_region 1 with fail
  generalize hW : ((w.alloc (.cells (o.cs) 43)).alloc (.cells (#[.int .u8 0, .int .u8 0, .float .f64 0, .string ⟨#[]⟩, .int .i64 0, .bool false, .bool false, .int .u8 0, .int .u8 0, .float .f64 0, .string ⟨#[]⟩, .int .i64 0, .int .u8 0, .float .f64 0, .string ⟨#[]⟩, .int .i64 0, .int .u8 0, .float .f64 0, .string ⟨#[]⟩, .int .i64 0, .bool false, .bool false, .bool false, .slice none 0 0, .int .u8 0, .string ⟨#[]⟩]) 36)) = w1 at *
  clear hW
  go_wp2_with (first | ((with_reducible refine ldId 43 (.tmp 3) ?_); refine wpList_load_row (by rfl) 43 (.tmp 3) (by rfl) (w.heap.size) (by rfl) 43 (o.cs) (0, 0) _ (by exact X.out) Try.underlying43 (by rfl) (by kernel_rfl) ?_) | ((with_reducible refine wpId ?_); refine wpList_build_to (by rfl) 45 _ (by rfl) ((madeW o).cs) (by kernel_rfl) ?_))
  refine ((show Calls _ _ _ _ _ from hk ▸ rwant_any w0 p ans wl L (madeW o) hA.rd hA.one (WI.one _ rfl rfl ho rfl) (by omega) w1 PF.out)).mono ?_; rintro e w2 ⟨he, hrp, hfr⟩; rw [HOE.out] at he; subst he
  replace R := hidB (hfr.keep _ _ _ R.out (by decide) (by have := HPL.out; omega))
  have PF := hidB hrp
  replace FR := hidB (FR.out.trans hfr)
  clear hrp hfr B
  go_wp2_with (first | ((with_reducible refine stId 36 (.tmp 4) (.tmp 8) ?_); refine wpList_store_row (by rfl) 36 (.tmp 4) (.tmp 8) (by rfl) (w.heap.size + 1) (O.cs) (by rfl) (by rfl) 36 (OI.zero.cs) (by exact R.out) (by kernel_rfl) (by rfl) (by exact OI.one _ HO.out) ?_))
  exact bodyPost_ret (v := .agg (O.cs)) (results_cell_row Try.results81 _ _ (w.heap.size + 1) 36 (O.cs) (0, 0) _ rfl (R.out.setRow _) Try.underlying36 rfl (by kernel_rfl)) rfl (⟨rfl, PF.out.setRow (by have := HB0.out; omega) R.out (by decide) (by decide) _, FR.out.setRow (by omega) _⟩)
set_option maxHeartbeats 8000000 in
set_option maxRecDepth 100000 in
theorem rcallW_any (v h' : VI) (pa : Option Addr) (n c : Nat) (w0 : World) (p : Nat) (ans : Value) (wl : List WI) (L : List (OI × List KI)) (hA : AnsO L ans w0) (k : Nat) (hk : wl.length = k) (hk2 : k ≤ 1000) (w : World) (h : RP w0 p ans wl w) : Calls Try.prog 82 #[.pointer (some ⟨p, 0, none⟩), v.a, h'.a, .slice pa n c] w fun e w' => e = .returned (nthO L k).a ∧ RP w0 p ans (wl ++ [callW v h' (.slice pa n c)]) w' ∧ FrP p w w' := by
  have HPL := hidB h.lt
  have HB0 := hidB h.b.size
  have X := hidB (show Bk (((w.alloc (.cells (v.cells.toArray) 24)).alloc (.cells (h'.cells.toArray) 24)).alloc (.cells (#[.int .u8 0, .int .u8 0, .float .f64 0, .string ⟨#[]⟩, .int .i64 0, .bool false, .bool false, .int .u8 0, .int .u8 0, .float .f64 0, .string ⟨#[]⟩, .int .i64 0, .int .u8 0, .float .f64 0, .string ⟨#[]⟩, .int .i64 0, .int .u8 0, .float .f64 0, .string ⟨#[]⟩, .int .i64 0, .bool false, .bool false, .bool false, .slice none 0 0, .int .u8 0, .string ⟨#[]⟩]) 36)) (w.heap.size) 24 (v.cells.toArray) from ((Bk.new w _ _).alloc _).alloc _)
  have Y := hidB (show Bk (((w.alloc (.cells (v.cells.toArray) 24)).alloc (.cells (h'.cells.toArray) 24)).alloc (.cells (#[.int .u8 0, .int .u8 0, .float .f64 0, .string ⟨#[]⟩, .int .i64 0, .bool false, .bool false, .int .u8 0, .int .u8 0, .float .f64 0, .string ⟨#[]⟩, .int .i64 0, .int .u8 0, .float .f64 0, .string ⟨#[]⟩, .int .i64 0, .int .u8 0, .float .f64 0, .string ⟨#[]⟩, .int .i64 0, .bool false, .bool false, .bool false, .slice none 0 0, .int .u8 0, .string ⟨#[]⟩]) 36)) (w.heap.size + 1) 24 (h'.cells.toArray) from (Bk.new2 w _ _ _).alloc _)
  have R := hidB (show Bk (((w.alloc (.cells (v.cells.toArray) 24)).alloc (.cells (h'.cells.toArray) 24)).alloc (.cells (#[.int .u8 0, .int .u8 0, .float .f64 0, .string ⟨#[]⟩, .int .i64 0, .bool false, .bool false, .int .u8 0, .int .u8 0, .float .f64 0, .string ⟨#[]⟩, .int .i64 0, .int .u8 0, .float .f64 0, .string ⟨#[]⟩, .int .i64 0, .int .u8 0, .float .f64 0, .string ⟨#[]⟩, .int .i64 0, .bool false, .bool false, .bool false, .slice none 0 0, .int .u8 0, .string ⟨#[]⟩]) 36)) (w.heap.size + 1 + 1) 36 (OI.zero.cs) from Bk.new3 w _ _ _ _)
  have B := hidB (show Below w.heap.size w (((w.alloc (.cells (v.cells.toArray) 24)).alloc (.cells (h'.cells.toArray) 24)).alloc (.cells (#[.int .u8 0, .int .u8 0, .float .f64 0, .string ⟨#[]⟩, .int .i64 0, .bool false, .bool false, .int .u8 0, .int .u8 0, .float .f64 0, .string ⟨#[]⟩, .int .i64 0, .int .u8 0, .float .f64 0, .string ⟨#[]⟩, .int .i64 0, .int .u8 0, .float .f64 0, .string ⟨#[]⟩, .int .i64 0, .bool false, .bool false, .bool false, .slice none 0 0, .int .u8 0, .string ⟨#[]⟩]) 36)) from ((box_one w _).alloc (by simp) _).alloc (by simp <;> omega) _)
  have PF := hidB (show RP w0 p ans wl (((w.alloc (.cells (v.cells.toArray) 24)).alloc (.cells (h'.cells.toArray) 24)).alloc (.cells (#[.int .u8 0, .int .u8 0, .float .f64 0, .string ⟨#[]⟩, .int .i64 0, .bool false, .bool false, .int .u8 0, .int .u8 0, .float .f64 0, .string ⟨#[]⟩, .int .i64 0, .int .u8 0, .float .f64 0, .string ⟨#[]⟩, .int .i64 0, .int .u8 0, .float .f64 0, .string ⟨#[]⟩, .int .i64 0, .bool false, .bool false, .bool false, .slice none 0 0, .int .u8 0, .string ⟨#[]⟩]) 36)) from h.on B.out)
  have FR := hidB (FrP.below (p := p) B.out)
  have HO := hidB (nthO_one hA.one k)
  obtain ⟨O, hO⟩ : ∃ q, nthO L k = q := ⟨_, rfl⟩
  have HOE := hidB hO
  rw [hO] at HO
  rw [show (fun (e : Ending) (w' : World) => e = .returned (nthO L k).a ∧ RP w0 p ans (wl ++ [callW v h' (.slice pa n c)]) w' ∧ FrP p w w') = (fun e w' => e = .returned O.a ∧ RP w0 p ans (wl ++ [callW v h' (.slice pa n c)]) w' ∧ FrP p w w') by rw [hO]]
  clear h hO
  go_enter Try.func82, Try.ntmps82
  go_upto_region 1 with fail
  generalize hW : (((w.alloc (.cells (v.cells.toArray) 24)).alloc (.cells (h'.cells.toArray) 24)).alloc (.cells (#[.int .u8 0, .int .u8 0, .float .f64 0, .string ⟨#[]⟩, .int .i64 0, .bool false, .bool false, .int .u8 0, .int .u8 0, .float .f64 0, .string ⟨#[]⟩, .int .i64 0, .int .u8 0, .float .f64 0, .string ⟨#[]⟩, .int .i64 0, .int .u8 0, .float .f64 0, .string ⟨#[]⟩, .int .i64 0, .bool false, .bool false, .bool false, .slice none 0 0, .int .u8 0, .string ⟨#[]⟩]) 36)) = w1 at *
  clear hW
  go_wp2_with (first | ((with_reducible refine ldId 24 (.tmp 5) ?_); refine wpList_load_row (by rfl) 24 (.tmp 5) (by rfl) (w.heap.size) (by rfl) 24 (v.cells.toArray) (0, 0) _ (by exact X.out) Try.underlying24 (by rfl) (by kernel_rfl) ?_) | ((with_reducible refine ldId 24 (.tmp 6) ?_); refine wpList_load_row (by rfl) 24 (.tmp 6) (by rfl) (w.heap.size + 1) (by rfl) 24 (h'.cells.toArray) (0, 0) _ (by exact Y.out) Try.underlying24 (by rfl) (by kernel_rfl) ?_) | ((with_reducible refine wpId ?_); refine wpList_build_to (by rfl) 45 _ (by rfl) ((callW v h' (.slice pa n c)).cs) (by kernel_rfl) ?_))
  refine ((show Calls _ _ _ _ _ from hk ▸ rwant_any w0 p ans wl L (callW v h' (.slice pa n c)) hA.rd hA.one (WI.one _ rfl rfl rfl rfl) (by omega) w1 PF.out)).mono ?_; rintro e w2 ⟨he, hrp, hfr⟩; rw [HOE.out] at he; subst he
  replace R := hidB (hfr.keep _ _ _ R.out (by decide) (by have := HPL.out; omega))
  have PF := hidB hrp
  replace FR := hidB (FR.out.trans hfr)
  clear hrp hfr B
  go_wp2_with (first | ((with_reducible refine stId 36 (.tmp 8) (.tmp 14) ?_); refine wpList_store_row (by rfl) 36 (.tmp 8) (.tmp 14) (by rfl) (w.heap.size + 1 + 1) (O.cs) (by rfl) (by rfl) 36 (OI.zero.cs) (by exact R.out) (by kernel_rfl) (by rfl) (by exact OI.one _ HO.out) ?_))
  exact bodyPost_ret (v := .agg (O.cs)) (results_cell_row Try.results82 _ _ (w.heap.size + 1 + 1) 36 (O.cs) (0, 0) _ rfl (R.out.setRow _) Try.underlying36 rfl (by kernel_rfl)) rfl (⟨rfl, PF.out.setRow (by have := HB0.out; omega) R.out (by decide) (by decide) _, FR.out.setRow (by omega) _⟩)

/-- What is wanted, and what is handed back. -/
def askF (m : Int) (f th : VI) (av : Value) (L : List (OI × List KI)) : List WI × OI := ([methW (callA m f th av)], onlyI (nthO L 0))
def calledF (f th : VI) (av : Value) (L : List (OI × List KI)) : List WI × OI := if isCal f.k = true then askF 12 f th av L else ([], typeI)
def madeF (f th : VI) (av : Value) (L : List (OI × List KI)) : List WI × OI := if f.k = 8 then askF 13 f th av L else ([], typeI)
def bodyF (f tg pr : VI) (av : Value) (L : List (OI × List KI)) : List WI × OI :=
  if (nthO L 0).kd = 1 then
    if (nthO L 1).kd = 1 then
      if (nthO L 2).kd = 1 then ([methW (getA tg protoK), madeW (objI (orV (nthO L 0).v pr)), callW f (nthO L 1).v av], doneI (orV (nthO L 2).v (nthO L 1).v))
      else ([methW (getA tg protoK), madeW (objI (orV (nthO L 0).v pr)), callW f (nthO L 1).v av], nthO L 2)
    else ([methW (getA tg protoK), madeW (objI (orV (nthO L 0).v pr))], nthO L 1)
  else ([methW (getA tg protoK)], nthO L 0)
/-- The same, in memory. -/
def RefP (w0 : World) (p : Nat) (ans : Value) (x : List WI × OI) (w : World) (e : Ending) (w' : World) : Prop := e = .returned x.2.a ∧ x.2.keys.oneCell' = true ∧ RP w0 p ans x.1 w' ∧ FrP p w w'
set_option maxHeartbeats 8000000 in
set_option maxRecDepth 100000 in
theorem r20called_any (f' th : VI) (pa : Option Addr) (n c : Nat) (w0 : World) (p : Nat) (ans : Value) (L : List (OI × List KI)) (hA : AnsO L ans w0) (w : World) (h : RP w0 p ans [] w) : Calls Try.prog 54 #[.pointer (some ⟨p, 0, none⟩), f'.a, th.a, .slice pa n c] w fun e w' => RefP w0 p ans (calledF f' th (.slice pa n c) L) w e w' := by
  have HPL := hidB h.lt
  have HB0 := hidB h.b.size
  have X := hidB (show Bk (((w.alloc (.cells (f'.cells.toArray) 24)).alloc (.cells (th.cells.toArray) 24)).alloc (.cells (#[.int .u8 0, .int .u8 0, .float .f64 0, .string ⟨#[]⟩, .int .i64 0, .bool false, .bool false, .int .u8 0, .int .u8 0, .float .f64 0, .string ⟨#[]⟩, .int .i64 0, .int .u8 0, .float .f64 0, .string ⟨#[]⟩, .int .i64 0, .int .u8 0, .float .f64 0, .string ⟨#[]⟩, .int .i64 0, .bool false, .bool false, .bool false, .slice none 0 0, .int .u8 0, .string ⟨#[]⟩]) 36)) (w.heap.size) 24 (f'.cells.toArray) from ((Bk.new w _ _).alloc _).alloc _)
  have Y := hidB (show Bk (((w.alloc (.cells (f'.cells.toArray) 24)).alloc (.cells (th.cells.toArray) 24)).alloc (.cells (#[.int .u8 0, .int .u8 0, .float .f64 0, .string ⟨#[]⟩, .int .i64 0, .bool false, .bool false, .int .u8 0, .int .u8 0, .float .f64 0, .string ⟨#[]⟩, .int .i64 0, .int .u8 0, .float .f64 0, .string ⟨#[]⟩, .int .i64 0, .int .u8 0, .float .f64 0, .string ⟨#[]⟩, .int .i64 0, .bool false, .bool false, .bool false, .slice none 0 0, .int .u8 0, .string ⟨#[]⟩]) 36)) (w.heap.size + 1) 24 (th.cells.toArray) from (Bk.new2 w _ _ _).alloc _)
  have R := hidB (show Bk (((w.alloc (.cells (f'.cells.toArray) 24)).alloc (.cells (th.cells.toArray) 24)).alloc (.cells (#[.int .u8 0, .int .u8 0, .float .f64 0, .string ⟨#[]⟩, .int .i64 0, .bool false, .bool false, .int .u8 0, .int .u8 0, .float .f64 0, .string ⟨#[]⟩, .int .i64 0, .int .u8 0, .float .f64 0, .string ⟨#[]⟩, .int .i64 0, .int .u8 0, .float .f64 0, .string ⟨#[]⟩, .int .i64 0, .bool false, .bool false, .bool false, .slice none 0 0, .int .u8 0, .string ⟨#[]⟩]) 36)) (w.heap.size + 1 + 1) 36 (OI.zero.cs) from Bk.new3 w _ _ _ _)
  have B := hidB (show Below w.heap.size w (((w.alloc (.cells (f'.cells.toArray) 24)).alloc (.cells (th.cells.toArray) 24)).alloc (.cells (#[.int .u8 0, .int .u8 0, .float .f64 0, .string ⟨#[]⟩, .int .i64 0, .bool false, .bool false, .int .u8 0, .int .u8 0, .float .f64 0, .string ⟨#[]⟩, .int .i64 0, .int .u8 0, .float .f64 0, .string ⟨#[]⟩, .int .i64 0, .int .u8 0, .float .f64 0, .string ⟨#[]⟩, .int .i64 0, .bool false, .bool false, .bool false, .slice none 0 0, .int .u8 0, .string ⟨#[]⟩]) 36)) from ((box_one w _).alloc (by simp) _).alloc (by simp <;> omega) _)
  have PF := hidB (show RP w0 p ans [] (((w.alloc (.cells (f'.cells.toArray) 24)).alloc (.cells (th.cells.toArray) 24)).alloc (.cells (#[.int .u8 0, .int .u8 0, .float .f64 0, .string ⟨#[]⟩, .int .i64 0, .bool false, .bool false, .int .u8 0, .int .u8 0, .float .f64 0, .string ⟨#[]⟩, .int .i64 0, .int .u8 0, .float .f64 0, .string ⟨#[]⟩, .int .i64 0, .int .u8 0, .float .f64 0, .string ⟨#[]⟩, .int .i64 0, .bool false, .bool false, .bool false, .slice none 0 0, .int .u8 0, .string ⟨#[]⟩]) 36)) from h.on B.out)
  have FR := hidB (FrP.below (p := p) B.out)
  have HO := hidB (nthO_one hA.one 0)
  obtain ⟨O, hO⟩ : ∃ q, nthO L 0 = q := ⟨_, rfl⟩
  have HOE := hidB hO
  rw [hO] at HO
  clear hO
  have HF := hidB (show calledF f' th (.slice pa n c) L = (if isCal f'.k = true then askF 12 f' th (.slice pa n c) L else ([], typeI)) from rfl)
  generalize calledF f' th (.slice pa n c) L = cf at *
  clear h
  go_enter Try.func54, Try.ntmps54
  go_upto_region 1 with fail
  generalize hW : (((w.alloc (.cells (f'.cells.toArray) 24)).alloc (.cells (th.cells.toArray) 24)).alloc (.cells (#[.int .u8 0, .int .u8 0, .float .f64 0, .string ⟨#[]⟩, .int .i64 0, .bool false, .bool false, .int .u8 0, .int .u8 0, .float .f64 0, .string ⟨#[]⟩, .int .i64 0, .int .u8 0, .float .f64 0, .string ⟨#[]⟩, .int .i64 0, .int .u8 0, .float .f64 0, .string ⟨#[]⟩, .int .i64 0, .bool false, .bool false, .bool false, .slice none 0 0, .int .u8 0, .string ⟨#[]⟩]) 36)) = w1 at *
  clear hW B
  go_wp2_with (first | ((with_reducible refine ldId 24 (.tmp 5) ?_); refine wpList_load_row (by rfl) 24 (.tmp 5) (by rfl) (w.heap.size) (by rfl) 24 (f'.cells.toArray) (0, 0) _ (by exact X.out) Try.underlying24 (by rfl) (by kernel_rfl) ?_))
  refine (rcal_any f' _).mono ?_; rintro e w2 ⟨rfl, hb⟩
  replace X := hidB (X.out.on hb); replace Y := hidB (Y.out.on hb); replace R := hidB (R.out.on hb); replace PF := hidB (PF.out.on hb); replace FR := hidB (FR.out.trans (FrP.below hb)); clear hb
  cases hc : isCal f'.k
  · have HE := hidB (show cf = ([], typeI) by rw [HF.out, hc]; rfl)
    clear HF hc
    go_wp2_with fail
    refine (rtypeI_any _).mono ?_; rintro e w3 ⟨rfl, hb⟩
    replace R := hidB (R.out.on hb); replace PF := hidB (PF.out.on hb); replace FR := hidB (FR.out.trans (FrP.below hb)); clear hb
    go_wp2_with (first | ((with_reducible refine stId 36 (.tmp 8) (.tmp 13) ?_); refine wpList_store_row (by rfl) 36 (.tmp 8) (.tmp 13) (by rfl) (w.heap.size + 1 + 1) (typeI.cs) (by rfl) (by rfl) 36 (OI.zero.cs) (by exact R.out) (by kernel_rfl) (by rfl) (by exact OI.one _ rfl) ?_))
    exact bodyPost_ret (v := .agg (typeI.cs)) (results_cell_row Try.results54 _ _ (w.heap.size + 1 + 1) 36 (typeI.cs) (0, 0) _ rfl (R.out.setRow _) Try.underlying36 rfl (by kernel_rfl)) rfl (by unfold RefP; rw [HE.out]; exact ⟨rfl, rfl, PF.out.setRow (by have := HB0.out; omega) R.out (by decide) (by decide) _, FR.out.setRow (by omega) _⟩)
  have HE := hidB (show cf = ([methW (callA 12 f' th (.slice pa n c))], onlyI O) by rw [HF.out, if_pos hc, ← HOE.out]; rfl)
  clear HF
  have x3 : w2.cell? ⟨w.heap.size, 3, none⟩ = some (.int .i64 f'.r) := X.out.cell 3
  go_wp2_with (first | ((with_reducible refine ldId 24 (.tmp 6) ?_); refine wpList_load_row (by rfl) 24 (.tmp 6) (by rfl) (w.heap.size + 1) (by rfl) 24 (th.cells.toArray) (0, 0) _ (by exact Y.out) Try.underlying24 (by rfl) (by kernel_rfl) ?_) | ((with_reducible refine wpId ?_); refine wpList_build_to (by rfl) 40 _ (by rfl) ((callA 12 f' th (.slice pa n c)).cs) (by kernel_rfl) ?_))
  refine (rmethod_any (callA 12 f' th (.slice pa n c)) rfl w0 p ans [] L hA 0 rfl (by decide) _ PF.out).mono ?_; rintro e w4 ⟨he, hrp, hfr⟩; rw [HOE.out] at he; subst he
  replace R := hidB (hfr.keep _ _ _ R.out (by decide) (by have := HPL.out; omega))
  replace PF := hidB hrp
  replace FR := hidB (FR.out.trans hfr)
  clear hrp hfr X Y x3
  have R9 := hidB (show Bk (w4.alloc (.cells (#[.int .u8 0, .int .u8 0, .float .f64 0, .string ⟨#[]⟩, .int .i64 0, .bool false, .bool false, .int .u8 0, .int .u8 0, .float .f64 0, .string ⟨#[]⟩, .int .i64 0, .int .u8 0, .float .f64 0, .string ⟨#[]⟩, .int .i64 0, .int .u8 0, .float .f64 0, .string ⟨#[]⟩, .int .i64 0, .bool false, .bool false, .bool false, .slice none 0 0, .int .u8 0, .string ⟨#[]⟩]) 36)) w4.heap.size 36 OI.zero.cs from Bk.new _ _ _)
  have hb : Below w4.heap.size w4 ((w4.alloc (.cells (#[.int .u8 0, .int .u8 0, .float .f64 0, .string ⟨#[]⟩, .int .i64 0, .bool false, .bool false, .int .u8 0, .int .u8 0, .float .f64 0, .string ⟨#[]⟩, .int .i64 0, .int .u8 0, .float .f64 0, .string ⟨#[]⟩, .int .i64 0, .int .u8 0, .float .f64 0, .string ⟨#[]⟩, .int .i64 0, .bool false, .bool false, .bool false, .slice none 0 0, .int .u8 0, .string ⟨#[]⟩]) 36)).setRow w4.heap.size O.cs) := below_setRow (box_one _ _) (Nat.le_refl _) _
  have Z := hidB (show Bk ((w4.alloc (.cells (#[.int .u8 0, .int .u8 0, .float .f64 0, .string ⟨#[]⟩, .int .i64 0, .bool false, .bool false, .int .u8 0, .int .u8 0, .float .f64 0, .string ⟨#[]⟩, .int .i64 0, .int .u8 0, .float .f64 0, .string ⟨#[]⟩, .int .i64 0, .int .u8 0, .float .f64 0, .string ⟨#[]⟩, .int .i64 0, .bool false, .bool false, .bool false, .slice none 0 0, .int .u8 0, .string ⟨#[]⟩]) 36)).setRow w4.heap.size O.cs) w4.heap.size 36 O.cs from R9.out.setRow _)
  have HGZ := hidB R.out.lt
  have HB9 := hidB hb
  clear hb
  go_upto_region 4 with (first | ((with_reducible refine stId 36 (.tmp 9) (.tmp 20) ?_); refine wpList_store_row (by rfl) 36 (.tmp 9) (.tmp 20) (by rfl) (w4.heap.size) (O.cs) (by rfl) (by rfl) 36 (OI.zero.cs) (by exact R9.out) (by kernel_rfl) (by rfl) (by exact OI.one _ HO.out) ?_))
  generalize hW : ((w4.alloc (.cells (#[.int .u8 0, .int .u8 0, .float .f64 0, .string ⟨#[]⟩, .int .i64 0, .bool false, .bool false, .int .u8 0, .int .u8 0, .float .f64 0, .string ⟨#[]⟩, .int .i64 0, .int .u8 0, .float .f64 0, .string ⟨#[]⟩, .int .i64 0, .int .u8 0, .float .f64 0, .string ⟨#[]⟩, .int .i64 0, .bool false, .bool false, .bool false, .slice none 0 0, .int .u8 0, .string ⟨#[]⟩]) 36)).setRow w4.heap.size O.cs) = w5 at *
  clear hW R9
  have hb := HB9.out
  clear HB9
  replace R := hidB (R.out.on hb); replace PF := hidB (PF.out.on hb); replace FR := hidB (FR.out.trans (FrP.below hb)); clear hb
  generalize w4.heap.size = gZ at *
  have z0 : w5.cell? ⟨gZ, 0, none⟩ = some (.int .u8 O.kd) := Z.out.cell 0
  by_cases hk : O.kd = 1
  rotate_left
  · have HE2 := hidB (show onlyI O = O by unfold onlyI; rw [if_neg hk])
    have hk1 : (O.kd == 1) = false := by rw [beq_eq_false_iff_ne]; exact hk
    have hk2 : (O.kd != 1) = true := by rw [bne, hk1]; rfl
    go_wp2_with (first | ((with_reducible refine ldId 36 (.tmp 9) ?_); refine wpList_load_row (by rfl) 36 (.tmp 9) (by rfl) (gZ) (by rfl) 36 (O.cs) (0, 0) _ (by exact Z.out) Try.underlying36 (by rfl) (by kernel_rfl) ?_) | ((with_reducible refine stId 36 (.tmp 8) (.tmp 24) ?_); refine wpList_store_row (by rfl) 36 (.tmp 8) (.tmp 24) (by rfl) (w.heap.size + 1 + 1) (O.cs) (by rfl) (by rfl) 36 (OI.zero.cs) (by exact R.out) (by kernel_rfl) (by rfl) (by exact OI.one _ HO.out) ?_))
    exact bodyPost_ret (v := .agg (O.cs)) (results_cell_row Try.results54 _ _ (w.heap.size + 1 + 1) 36 (O.cs) (0, 0) _ rfl (R.out.setRow _) Try.underlying36 rfl (by kernel_rfl)) rfl (by unfold RefP; rw [HE.out, HE2.out]; exact ⟨rfl, HO.out, PF.out.setRow (by have := HB0.out; omega) R.out (by decide) (by decide) _, FR.out.setRow (by omega) _⟩)
  have HE2 := hidB (show onlyI O = doneI O.v by unfold onlyI; rw [if_pos hk])
  have hk1 : (O.kd == 1) = true := by rw [beq_iff_eq]; exact hk
  have hk2 : (O.kd != 1) = false := by rw [bne, hk1]; rfl
  go_wp2_with (first | ((with_reducible refine ldId 24 (.tmp 25) ?_); refine wpList_load_mid (by rfl) 24 (.tmp 25) (by rfl) (gZ) 1 (by rfl) (O.v.cells) _ (by exact Bk.mid Z.out 1 _ rfl) Try.underlying24 (by rfl) (by kernel_rfl) ?_))
  refine (rdoneI_any O.v _).mono ?_; rintro e w6 ⟨rfl, hb⟩
  replace R := hidB (R.out.on hb); replace PF := hidB (PF.out.on hb); replace FR := hidB (FR.out.trans (FrP.below hb)); clear hb
  go_wp2_with (first | ((with_reducible refine stId 36 (.tmp 8) (.tmp 27) ?_); refine wpList_store_row (by rfl) 36 (.tmp 8) (.tmp 27) (by rfl) (w.heap.size + 1 + 1) ((doneI O.v).cs) (by rfl) (by rfl) 36 (OI.zero.cs) (by exact R.out) (by kernel_rfl) (by rfl) (by exact OI.one _ rfl) ?_))
  exact bodyPost_ret (v := .agg ((doneI O.v).cs)) (results_cell_row Try.results54 _ _ (w.heap.size + 1 + 1) 36 ((doneI O.v).cs) (0, 0) _ rfl (R.out.setRow _) Try.underlying36 rfl (by kernel_rfl)) rfl (by unfold RefP; rw [HE.out, HE2.out]; exact ⟨rfl, rfl, PF.out.setRow (by have := HB0.out; omega) R.out (by decide) (by decide) _, FR.out.setRow (by omega) _⟩)
set_option maxHeartbeats 8000000 in
set_option maxRecDepth 100000 in
theorem r20made_any (f' th : VI) (pa : Option Addr) (n c : Nat) (w0 : World) (p : Nat) (ans : Value) (L : List (OI × List KI)) (hA : AnsO L ans w0) (w : World) (h : RP w0 p ans [] w) : Calls Try.prog 55 #[.pointer (some ⟨p, 0, none⟩), f'.a, .slice pa n c, th.a] w fun e w' => RefP w0 p ans (madeF f' th (.slice pa n c) L) w e w' := by
  have HPL := hidB h.lt
  have HB0 := hidB h.b.size
  have X := hidB (show Bk (((w.alloc (.cells (f'.cells.toArray) 24)).alloc (.cells (th.cells.toArray) 24)).alloc (.cells (#[.int .u8 0, .int .u8 0, .float .f64 0, .string ⟨#[]⟩, .int .i64 0, .bool false, .bool false, .int .u8 0, .int .u8 0, .float .f64 0, .string ⟨#[]⟩, .int .i64 0, .int .u8 0, .float .f64 0, .string ⟨#[]⟩, .int .i64 0, .int .u8 0, .float .f64 0, .string ⟨#[]⟩, .int .i64 0, .bool false, .bool false, .bool false, .slice none 0 0, .int .u8 0, .string ⟨#[]⟩]) 36)) (w.heap.size) 24 (f'.cells.toArray) from ((Bk.new w _ _).alloc _).alloc _)
  have Y := hidB (show Bk (((w.alloc (.cells (f'.cells.toArray) 24)).alloc (.cells (th.cells.toArray) 24)).alloc (.cells (#[.int .u8 0, .int .u8 0, .float .f64 0, .string ⟨#[]⟩, .int .i64 0, .bool false, .bool false, .int .u8 0, .int .u8 0, .float .f64 0, .string ⟨#[]⟩, .int .i64 0, .int .u8 0, .float .f64 0, .string ⟨#[]⟩, .int .i64 0, .int .u8 0, .float .f64 0, .string ⟨#[]⟩, .int .i64 0, .bool false, .bool false, .bool false, .slice none 0 0, .int .u8 0, .string ⟨#[]⟩]) 36)) (w.heap.size + 1) 24 (th.cells.toArray) from (Bk.new2 w _ _ _).alloc _)
  have R := hidB (show Bk (((w.alloc (.cells (f'.cells.toArray) 24)).alloc (.cells (th.cells.toArray) 24)).alloc (.cells (#[.int .u8 0, .int .u8 0, .float .f64 0, .string ⟨#[]⟩, .int .i64 0, .bool false, .bool false, .int .u8 0, .int .u8 0, .float .f64 0, .string ⟨#[]⟩, .int .i64 0, .int .u8 0, .float .f64 0, .string ⟨#[]⟩, .int .i64 0, .int .u8 0, .float .f64 0, .string ⟨#[]⟩, .int .i64 0, .bool false, .bool false, .bool false, .slice none 0 0, .int .u8 0, .string ⟨#[]⟩]) 36)) (w.heap.size + 1 + 1) 36 (OI.zero.cs) from Bk.new3 w _ _ _ _)
  have B := hidB (show Below w.heap.size w (((w.alloc (.cells (f'.cells.toArray) 24)).alloc (.cells (th.cells.toArray) 24)).alloc (.cells (#[.int .u8 0, .int .u8 0, .float .f64 0, .string ⟨#[]⟩, .int .i64 0, .bool false, .bool false, .int .u8 0, .int .u8 0, .float .f64 0, .string ⟨#[]⟩, .int .i64 0, .int .u8 0, .float .f64 0, .string ⟨#[]⟩, .int .i64 0, .int .u8 0, .float .f64 0, .string ⟨#[]⟩, .int .i64 0, .bool false, .bool false, .bool false, .slice none 0 0, .int .u8 0, .string ⟨#[]⟩]) 36)) from ((box_one w _).alloc (by simp) _).alloc (by simp <;> omega) _)
  have PF := hidB (show RP w0 p ans [] (((w.alloc (.cells (f'.cells.toArray) 24)).alloc (.cells (th.cells.toArray) 24)).alloc (.cells (#[.int .u8 0, .int .u8 0, .float .f64 0, .string ⟨#[]⟩, .int .i64 0, .bool false, .bool false, .int .u8 0, .int .u8 0, .float .f64 0, .string ⟨#[]⟩, .int .i64 0, .int .u8 0, .float .f64 0, .string ⟨#[]⟩, .int .i64 0, .int .u8 0, .float .f64 0, .string ⟨#[]⟩, .int .i64 0, .bool false, .bool false, .bool false, .slice none 0 0, .int .u8 0, .string ⟨#[]⟩]) 36)) from h.on B.out)
  have FR := hidB (FrP.below (p := p) B.out)
  have HO := hidB (nthO_one hA.one 0)
  obtain ⟨O, hO⟩ : ∃ q, nthO L 0 = q := ⟨_, rfl⟩
  have HOE := hidB hO
  rw [hO] at HO
  clear hO
  have HF := hidB (show madeF f' th (.slice pa n c) L = (if f'.k = 8 then askF 13 f' th (.slice pa n c) L else ([], typeI)) from rfl)
  generalize madeF f' th (.slice pa n c) L = cf at *
  clear h
  go_enter Try.func55, Try.ntmps55
  go_upto_region 1 with fail
  generalize hW : (((w.alloc (.cells (f'.cells.toArray) 24)).alloc (.cells (th.cells.toArray) 24)).alloc (.cells (#[.int .u8 0, .int .u8 0, .float .f64 0, .string ⟨#[]⟩, .int .i64 0, .bool false, .bool false, .int .u8 0, .int .u8 0, .float .f64 0, .string ⟨#[]⟩, .int .i64 0, .int .u8 0, .float .f64 0, .string ⟨#[]⟩, .int .i64 0, .int .u8 0, .float .f64 0, .string ⟨#[]⟩, .int .i64 0, .bool false, .bool false, .bool false, .slice none 0 0, .int .u8 0, .string ⟨#[]⟩]) 36)) = w1 at *
  clear hW B
  have x0 : w1.cell? ⟨w.heap.size, 0, none⟩ = some (.int .u8 f'.k) := X.out.cell 0
  by_cases hc : f'.k = 8
  rotate_left
  · have HE := hidB (show cf = ([], typeI) by rw [HF.out, if_neg hc])
    have hn : (f'.k == 8) = false := by rw [beq_eq_false_iff_ne]; exact hc
    have hn' : (f'.k != 8) = true := by rw [bne, hn]; rfl
    clear HF
    go_wp2_with fail
    refine (rtypeI_any _).mono ?_; rintro e w3 ⟨rfl, hb⟩
    replace R := hidB (R.out.on hb); replace PF := hidB (PF.out.on hb); replace FR := hidB (FR.out.trans (FrP.below hb)); clear hb
    go_wp2_with (first | ((with_reducible refine stId 36 (.tmp 8) (.tmp 13) ?_); refine wpList_store_row (by rfl) 36 (.tmp 8) (.tmp 13) (by rfl) (w.heap.size + 1 + 1) (typeI.cs) (by rfl) (by rfl) 36 (OI.zero.cs) (by exact R.out) (by kernel_rfl) (by rfl) (by exact OI.one _ rfl) ?_))
    exact bodyPost_ret (v := .agg (typeI.cs)) (results_cell_row Try.results55 _ _ (w.heap.size + 1 + 1) 36 (typeI.cs) (0, 0) _ rfl (R.out.setRow _) Try.underlying36 rfl (by kernel_rfl)) rfl (by unfold RefP; rw [HE.out]; exact ⟨rfl, rfl, PF.out.setRow (by have := HB0.out; omega) R.out (by decide) (by decide) _, FR.out.setRow (by omega) _⟩)
  have HE := hidB (show cf = ([methW (callA 13 f' th (.slice pa n c))], onlyI O) by rw [HF.out, if_pos hc, ← HOE.out]; rfl)
  clear HF
  have hn : (f'.k == 8) = true := by rw [beq_iff_eq]; exact hc
  have hn' : (f'.k != 8) = false := by rw [bne, hn]; rfl
  clear x0
  have x3 : w1.cell? ⟨w.heap.size, 3, none⟩ = some (.int .i64 f'.r) := X.out.cell 3
  have x0 : w1.cell? ⟨w.heap.size, 0, none⟩ = some (.int .u8 f'.k) := X.out.cell 0
  go_wp2_with (first | ((with_reducible refine ldId 24 (.tmp 7) ?_); refine wpList_load_row (by rfl) 24 (.tmp 7) (by rfl) (w.heap.size + 1) (by rfl) 24 (th.cells.toArray) (0, 0) _ (by exact Y.out) Try.underlying24 (by rfl) (by kernel_rfl) ?_) | ((with_reducible refine wpId ?_); refine wpList_build_to (by rfl) 40 _ (by rfl) ((callA 13 f' th (.slice pa n c)).cs) (by kernel_rfl) ?_))
  refine (rmethod_any (callA 13 f' th (.slice pa n c)) rfl w0 p ans [] L hA 0 rfl (by decide) _ PF.out).mono ?_; rintro e w4 ⟨he, hrp, hfr⟩; rw [HOE.out] at he; subst he
  replace R := hidB (hfr.keep _ _ _ R.out (by decide) (by have := HPL.out; omega))
  replace PF := hidB hrp
  replace FR := hidB (FR.out.trans hfr)
  clear hrp hfr X Y x3
  have R9 := hidB (show Bk (w4.alloc (.cells (#[.int .u8 0, .int .u8 0, .float .f64 0, .string ⟨#[]⟩, .int .i64 0, .bool false, .bool false, .int .u8 0, .int .u8 0, .float .f64 0, .string ⟨#[]⟩, .int .i64 0, .int .u8 0, .float .f64 0, .string ⟨#[]⟩, .int .i64 0, .int .u8 0, .float .f64 0, .string ⟨#[]⟩, .int .i64 0, .bool false, .bool false, .bool false, .slice none 0 0, .int .u8 0, .string ⟨#[]⟩]) 36)) w4.heap.size 36 OI.zero.cs from Bk.new _ _ _)
  have hb : Below w4.heap.size w4 ((w4.alloc (.cells (#[.int .u8 0, .int .u8 0, .float .f64 0, .string ⟨#[]⟩, .int .i64 0, .bool false, .bool false, .int .u8 0, .int .u8 0, .float .f64 0, .string ⟨#[]⟩, .int .i64 0, .int .u8 0, .float .f64 0, .string ⟨#[]⟩, .int .i64 0, .int .u8 0, .float .f64 0, .string ⟨#[]⟩, .int .i64 0, .bool false, .bool false, .bool false, .slice none 0 0, .int .u8 0, .string ⟨#[]⟩]) 36)).setRow w4.heap.size O.cs) := below_setRow (box_one _ _) (Nat.le_refl _) _
  have Z := hidB (show Bk ((w4.alloc (.cells (#[.int .u8 0, .int .u8 0, .float .f64 0, .string ⟨#[]⟩, .int .i64 0, .bool false, .bool false, .int .u8 0, .int .u8 0, .float .f64 0, .string ⟨#[]⟩, .int .i64 0, .int .u8 0, .float .f64 0, .string ⟨#[]⟩, .int .i64 0, .int .u8 0, .float .f64 0, .string ⟨#[]⟩, .int .i64 0, .bool false, .bool false, .bool false, .slice none 0 0, .int .u8 0, .string ⟨#[]⟩]) 36)).setRow w4.heap.size O.cs) w4.heap.size 36 O.cs from R9.out.setRow _)
  have HGZ := hidB R.out.lt
  have HB9 := hidB hb
  clear hb
  go_upto_region 4 with (first | ((with_reducible refine stId 36 (.tmp 9) (.tmp 20) ?_); refine wpList_store_row (by rfl) 36 (.tmp 9) (.tmp 20) (by rfl) (w4.heap.size) (O.cs) (by rfl) (by rfl) 36 (OI.zero.cs) (by exact R9.out) (by kernel_rfl) (by rfl) (by exact OI.one _ HO.out) ?_))
  generalize hW : ((w4.alloc (.cells (#[.int .u8 0, .int .u8 0, .float .f64 0, .string ⟨#[]⟩, .int .i64 0, .bool false, .bool false, .int .u8 0, .int .u8 0, .float .f64 0, .string ⟨#[]⟩, .int .i64 0, .int .u8 0, .float .f64 0, .string ⟨#[]⟩, .int .i64 0, .int .u8 0, .float .f64 0, .string ⟨#[]⟩, .int .i64 0, .bool false, .bool false, .bool false, .slice none 0 0, .int .u8 0, .string ⟨#[]⟩]) 36)).setRow w4.heap.size O.cs) = w5 at *
  clear hW R9
  have hb := HB9.out
  clear HB9
  replace R := hidB (R.out.on hb); replace PF := hidB (PF.out.on hb); replace FR := hidB (FR.out.trans (FrP.below hb)); clear hb
  generalize w4.heap.size = gZ at *
  have z0 : w5.cell? ⟨gZ, 0, none⟩ = some (.int .u8 O.kd) := Z.out.cell 0
  by_cases hk : O.kd = 1
  rotate_left
  · have HE2 := hidB (show onlyI O = O by unfold onlyI; rw [if_neg hk])
    have hk1 : (O.kd == 1) = false := by rw [beq_eq_false_iff_ne]; exact hk
    have hk2 : (O.kd != 1) = true := by rw [bne, hk1]; rfl
    go_wp2_with (first | ((with_reducible refine ldId 36 (.tmp 9) ?_); refine wpList_load_row (by rfl) 36 (.tmp 9) (by rfl) (gZ) (by rfl) 36 (O.cs) (0, 0) _ (by exact Z.out) Try.underlying36 (by rfl) (by kernel_rfl) ?_) | ((with_reducible refine stId 36 (.tmp 8) (.tmp 24) ?_); refine wpList_store_row (by rfl) 36 (.tmp 8) (.tmp 24) (by rfl) (w.heap.size + 1 + 1) (O.cs) (by rfl) (by rfl) 36 (OI.zero.cs) (by exact R.out) (by kernel_rfl) (by rfl) (by exact OI.one _ HO.out) ?_))
    exact bodyPost_ret (v := .agg (O.cs)) (results_cell_row Try.results55 _ _ (w.heap.size + 1 + 1) 36 (O.cs) (0, 0) _ rfl (R.out.setRow _) Try.underlying36 rfl (by kernel_rfl)) rfl (by unfold RefP; rw [HE.out, HE2.out]; exact ⟨rfl, HO.out, PF.out.setRow (by have := HB0.out; omega) R.out (by decide) (by decide) _, FR.out.setRow (by omega) _⟩)
  have HE2 := hidB (show onlyI O = doneI O.v by unfold onlyI; rw [if_pos hk])
  have hk1 : (O.kd == 1) = true := by rw [beq_iff_eq]; exact hk
  have hk2 : (O.kd != 1) = false := by rw [bne, hk1]; rfl
  go_wp2_with (first | ((with_reducible refine ldId 24 (.tmp 25) ?_); refine wpList_load_mid (by rfl) 24 (.tmp 25) (by rfl) (gZ) 1 (by rfl) (O.v.cells) _ (by exact Bk.mid Z.out 1 _ rfl) Try.underlying24 (by rfl) (by kernel_rfl) ?_))
  refine (rdoneI_any O.v _).mono ?_; rintro e w6 ⟨rfl, hb⟩
  replace R := hidB (R.out.on hb); replace PF := hidB (PF.out.on hb); replace FR := hidB (FR.out.trans (FrP.below hb)); clear hb
  go_wp2_with (first | ((with_reducible refine stId 36 (.tmp 8) (.tmp 27) ?_); refine wpList_store_row (by rfl) 36 (.tmp 8) (.tmp 27) (by rfl) (w.heap.size + 1 + 1) ((doneI O.v).cs) (by rfl) (by rfl) 36 (OI.zero.cs) (by exact R.out) (by kernel_rfl) (by rfl) (by exact OI.one _ rfl) ?_))
  exact bodyPost_ret (v := .agg ((doneI O.v).cs)) (results_cell_row Try.results55 _ _ (w.heap.size + 1 + 1) 36 ((doneI O.v).cs) (0, 0) _ rfl (R.out.setRow _) Try.underlying36 rfl (by kernel_rfl)) rfl (by unfold RefP; rw [HE.out, HE2.out]; exact ⟨rfl, rfl, PF.out.setRow (by have := HB0.out; omega) R.out (by decide) (by decide) _, FR.out.setRow (by omega) _⟩)
set_option maxHeartbeats 8000000 in
set_option maxRecDepth 100000 in
theorem r20body_any (f' tg pr : VI) (pa : Option Addr) (n c : Nat) (w0 : World) (p : Nat) (ans : Value) (L : List (OI × List KI)) (hA : AnsO L ans w0) (w : World) (h : RP w0 p ans [] w) : Calls Try.prog 56 #[.pointer (some ⟨p, 0, none⟩), f'.a, .slice pa n c, tg.a, pr.a] w fun e w' => RefP w0 p ans (bodyF f' tg pr (.slice pa n c) L) w e w' := by
  have HPL := hidB h.lt
  have HB0 := hidB h.b.size
  have XF := hidB (show Bk ((((w.alloc (.cells (f'.cells.toArray) 24)).alloc (.cells (tg.cells.toArray) 24)).alloc (.cells (pr.cells.toArray) 24)).alloc (.cells (#[.int .u8 0, .int .u8 0, .float .f64 0, .string ⟨#[]⟩, .int .i64 0, .bool false, .bool false, .int .u8 0, .int .u8 0, .float .f64 0, .string ⟨#[]⟩, .int .i64 0, .int .u8 0, .float .f64 0, .string ⟨#[]⟩, .int .i64 0, .int .u8 0, .float .f64 0, .string ⟨#[]⟩, .int .i64 0, .bool false, .bool false, .bool false, .slice none 0 0, .int .u8 0, .string ⟨#[]⟩]) 36)) (w.heap.size) 24 (f'.cells.toArray) from (((Bk.new w _ _).alloc _).alloc _).alloc _)
  have XT := hidB (show Bk ((((w.alloc (.cells (f'.cells.toArray) 24)).alloc (.cells (tg.cells.toArray) 24)).alloc (.cells (pr.cells.toArray) 24)).alloc (.cells (#[.int .u8 0, .int .u8 0, .float .f64 0, .string ⟨#[]⟩, .int .i64 0, .bool false, .bool false, .int .u8 0, .int .u8 0, .float .f64 0, .string ⟨#[]⟩, .int .i64 0, .int .u8 0, .float .f64 0, .string ⟨#[]⟩, .int .i64 0, .int .u8 0, .float .f64 0, .string ⟨#[]⟩, .int .i64 0, .bool false, .bool false, .bool false, .slice none 0 0, .int .u8 0, .string ⟨#[]⟩]) 36)) (w.heap.size + 1) 24 (tg.cells.toArray) from ((Bk.new2 w _ _ _).alloc _).alloc _)
  have XP := hidB (show Bk ((((w.alloc (.cells (f'.cells.toArray) 24)).alloc (.cells (tg.cells.toArray) 24)).alloc (.cells (pr.cells.toArray) 24)).alloc (.cells (#[.int .u8 0, .int .u8 0, .float .f64 0, .string ⟨#[]⟩, .int .i64 0, .bool false, .bool false, .int .u8 0, .int .u8 0, .float .f64 0, .string ⟨#[]⟩, .int .i64 0, .int .u8 0, .float .f64 0, .string ⟨#[]⟩, .int .i64 0, .int .u8 0, .float .f64 0, .string ⟨#[]⟩, .int .i64 0, .bool false, .bool false, .bool false, .slice none 0 0, .int .u8 0, .string ⟨#[]⟩]) 36)) (w.heap.size + 1 + 1) 24 (pr.cells.toArray) from (Bk.new3 w _ _ _ _).alloc _)
  have R := hidB (show Bk ((((w.alloc (.cells (f'.cells.toArray) 24)).alloc (.cells (tg.cells.toArray) 24)).alloc (.cells (pr.cells.toArray) 24)).alloc (.cells (#[.int .u8 0, .int .u8 0, .float .f64 0, .string ⟨#[]⟩, .int .i64 0, .bool false, .bool false, .int .u8 0, .int .u8 0, .float .f64 0, .string ⟨#[]⟩, .int .i64 0, .int .u8 0, .float .f64 0, .string ⟨#[]⟩, .int .i64 0, .int .u8 0, .float .f64 0, .string ⟨#[]⟩, .int .i64 0, .bool false, .bool false, .bool false, .slice none 0 0, .int .u8 0, .string ⟨#[]⟩]) 36)) (w.heap.size + 1 + 1 + 1) 36 (OI.zero.cs) from Bk.new4 w _ _ _ _ _)
  have B := hidB (show Below w.heap.size w ((((w.alloc (.cells (f'.cells.toArray) 24)).alloc (.cells (tg.cells.toArray) 24)).alloc (.cells (pr.cells.toArray) 24)).alloc (.cells (#[.int .u8 0, .int .u8 0, .float .f64 0, .string ⟨#[]⟩, .int .i64 0, .bool false, .bool false, .int .u8 0, .int .u8 0, .float .f64 0, .string ⟨#[]⟩, .int .i64 0, .int .u8 0, .float .f64 0, .string ⟨#[]⟩, .int .i64 0, .int .u8 0, .float .f64 0, .string ⟨#[]⟩, .int .i64 0, .bool false, .bool false, .bool false, .slice none 0 0, .int .u8 0, .string ⟨#[]⟩]) 36)) from (((box_one w _).alloc (by simp) _).alloc (by simp <;> omega) _).alloc (by simp <;> omega) _)
  have PF := hidB (show RP w0 p ans [] ((((w.alloc (.cells (f'.cells.toArray) 24)).alloc (.cells (tg.cells.toArray) 24)).alloc (.cells (pr.cells.toArray) 24)).alloc (.cells (#[.int .u8 0, .int .u8 0, .float .f64 0, .string ⟨#[]⟩, .int .i64 0, .bool false, .bool false, .int .u8 0, .int .u8 0, .float .f64 0, .string ⟨#[]⟩, .int .i64 0, .int .u8 0, .float .f64 0, .string ⟨#[]⟩, .int .i64 0, .int .u8 0, .float .f64 0, .string ⟨#[]⟩, .int .i64 0, .bool false, .bool false, .bool false, .slice none 0 0, .int .u8 0, .string ⟨#[]⟩]) 36)) from h.on B.out)
  have FR := hidB (FrP.below (p := p) B.out)
  have HO0 := hidB (nthO_one hA.one 0)
  have HO1 := hidB (nthO_one hA.one 1)
  have HO2 := hidB (nthO_one hA.one 2)
  have HF := hidB (rfl : bodyF f' tg pr (.slice pa n c) L = bodyF f' tg pr (.slice pa n c) L)
  obtain ⟨cf, hcf⟩ : ∃ q, bodyF f' tg pr (.slice pa n c) L = q := ⟨_, rfl⟩
  replace HF := hidB hcf
  rw [hcf]
  clear hcf
  unfold bodyF at HF
  obtain ⟨O0, hO⟩ : ∃ q, nthO L 0 = q := ⟨_, rfl⟩
  have HOE0 := hidB hO
  rw [hO] at HO0 HF
  clear hO
  obtain ⟨O1, hO⟩ : ∃ q, nthO L 1 = q := ⟨_, rfl⟩
  have HOE1 := hidB hO
  rw [hO] at HO1 HF
  clear hO
  obtain ⟨O2, hO⟩ : ∃ q, nthO L 2 = q := ⟨_, rfl⟩
  have HOE2 := hidB hO
  rw [hO] at HO2 HF
  clear hO
  clear h
  go_enter Try.func56, Try.ntmps56
  go_upto_region 1 with fail
  generalize hW : ((((w.alloc (.cells (f'.cells.toArray) 24)).alloc (.cells (tg.cells.toArray) 24)).alloc (.cells (pr.cells.toArray) 24)).alloc (.cells (#[.int .u8 0, .int .u8 0, .float .f64 0, .string ⟨#[]⟩, .int .i64 0, .bool false, .bool false, .int .u8 0, .int .u8 0, .float .f64 0, .string ⟨#[]⟩, .int .i64 0, .int .u8 0, .float .f64 0, .string ⟨#[]⟩, .int .i64 0, .int .u8 0, .float .f64 0, .string ⟨#[]⟩, .int .i64 0, .bool false, .bool false, .bool false, .slice none 0 0, .int .u8 0, .string ⟨#[]⟩]) 36)) = w1 at *
  clear hW B
  go_wp2_with (first | ((with_reducible refine ldId 24 (.tmp 8) ?_); refine wpList_load_row (by rfl) 24 (.tmp 8) (by rfl) (w.heap.size + 1) (by rfl) 24 (tg.cells.toArray) (0, 0) _ (by exact XT.out) Try.underlying24 (by rfl) (by kernel_rfl) ?_) | ((with_reducible refine wpId ?_); refine wpList_build_to (by rfl) 38 _ (by rfl) (protoK.cells.toArray) (by kernel_rfl) ?_))
  refine (rget_any tg protoK w0 p ans [] L hA 0 rfl (by decide) _ PF.out).mono ?_; rintro e w4 ⟨he, hrp, hfr⟩; rw [HOE0.out] at he; subst he
  replace R := hidB (hfr.keep _ _ _ R.out (by decide) (by have := HPL.out; omega))
  replace XF := hidB (hfr.keep _ _ _ XF.out (by decide) (by have := HPL.out; omega))
  replace XP := hidB (hfr.keep _ _ _ XP.out (by decide) (by have := HPL.out; omega))
  replace PF := hidB hrp
  replace FR := hidB (FR.out.trans hfr)
  clear hrp hfr XT
  have R9 := hidB (show Bk (w4.alloc (.cells (#[.int .u8 0, .int .u8 0, .float .f64 0, .string ⟨#[]⟩, .int .i64 0, .bool false, .bool false, .int .u8 0, .int .u8 0, .float .f64 0, .string ⟨#[]⟩, .int .i64 0, .int .u8 0, .float .f64 0, .string ⟨#[]⟩, .int .i64 0, .int .u8 0, .float .f64 0, .string ⟨#[]⟩, .int .i64 0, .bool false, .bool false, .bool false, .slice none 0 0, .int .u8 0, .string ⟨#[]⟩]) 36)) w4.heap.size 36 OI.zero.cs from Bk.new _ _ _)
  have hb : Below w4.heap.size w4 ((w4.alloc (.cells (#[.int .u8 0, .int .u8 0, .float .f64 0, .string ⟨#[]⟩, .int .i64 0, .bool false, .bool false, .int .u8 0, .int .u8 0, .float .f64 0, .string ⟨#[]⟩, .int .i64 0, .int .u8 0, .float .f64 0, .string ⟨#[]⟩, .int .i64 0, .int .u8 0, .float .f64 0, .string ⟨#[]⟩, .int .i64 0, .bool false, .bool false, .bool false, .slice none 0 0, .int .u8 0, .string ⟨#[]⟩]) 36)).setRow w4.heap.size O0.cs) := below_setRow (box_one _ _) (Nat.le_refl _) _
  have Y := hidB (show Bk ((w4.alloc (.cells (#[.int .u8 0, .int .u8 0, .float .f64 0, .string ⟨#[]⟩, .int .i64 0, .bool false, .bool false, .int .u8 0, .int .u8 0, .float .f64 0, .string ⟨#[]⟩, .int .i64 0, .int .u8 0, .float .f64 0, .string ⟨#[]⟩, .int .i64 0, .int .u8 0, .float .f64 0, .string ⟨#[]⟩, .int .i64 0, .bool false, .bool false, .bool false, .slice none 0 0, .int .u8 0, .string ⟨#[]⟩]) 36)).setRow w4.heap.size O0.cs) w4.heap.size 36 O0.cs from R9.out.setRow _)
  have HGY := hidB R.out.lt
  have HB9 := hidB hb
  clear hb
  go_upto_region 2 with (first | ((with_reducible refine stId 36 (.tmp 11) (.tmp 16) ?_); refine wpList_store_row (by rfl) 36 (.tmp 11) (.tmp 16) (by rfl) (w4.heap.size) (O0.cs) (by rfl) (by rfl) 36 (OI.zero.cs) (by exact R9.out) (by kernel_rfl) (by rfl) (by exact OI.one _ HO0.out) ?_))
  generalize hW : ((w4.alloc (.cells (#[.int .u8 0, .int .u8 0, .float .f64 0, .string ⟨#[]⟩, .int .i64 0, .bool false, .bool false, .int .u8 0, .int .u8 0, .float .f64 0, .string ⟨#[]⟩, .int .i64 0, .int .u8 0, .float .f64 0, .string ⟨#[]⟩, .int .i64 0, .int .u8 0, .float .f64 0, .string ⟨#[]⟩, .int .i64 0, .bool false, .bool false, .bool false, .slice none 0 0, .int .u8 0, .string ⟨#[]⟩]) 36)).setRow w4.heap.size O0.cs) = w5 at *
  clear hW R9
  have hb := HB9.out
  clear HB9
  replace R := hidB (R.out.on hb); replace XF := hidB (XF.out.on hb); replace XP := hidB (XP.out.on hb); replace PF := hidB (PF.out.on hb); replace FR := hidB (FR.out.trans (FrP.below hb)); clear hb
  generalize w4.heap.size = gY at *
  have z0 : w5.cell? ⟨gY, 0, none⟩ = some (.int .u8 O0.kd) := Y.out.cell 0
  by_cases hk : O0.kd = 1
  rotate_left
  · have hk1 : (O0.kd == 1) = false := by rw [beq_eq_false_iff_ne]; exact hk
    have hk2 : (O0.kd != 1) = true := by rw [bne, hk1]; rfl
    have HE := hidB (show cf = ([methW (getA tg protoK)], O0) by rw [← HF.out]; simp only [hk, if_false])
    clear HF
    go_wp2_with (first | ((with_reducible refine ldId 36 (.tmp 11) ?_); refine wpList_load_row (by rfl) 36 (.tmp 11) (by rfl) (gY) (by rfl) 36 (O0.cs) (0, 0) _ (by exact Y.out) Try.underlying36 (by rfl) (by kernel_rfl) ?_) | ((with_reducible refine stId 36 (.tmp 10) (.tmp 20) ?_); refine wpList_store_row (by rfl) 36 (.tmp 10) (.tmp 20) (by rfl) (w.heap.size + 1 + 1 + 1) (O0.cs) (by rfl) (by rfl) 36 (OI.zero.cs) (by exact R.out) (by kernel_rfl) (by rfl) (by exact OI.one _ HO0.out) ?_))
    exact bodyPost_ret (v := .agg (O0.cs)) (results_cell_row Try.results56 _ _ (w.heap.size + 1 + 1 + 1) 36 (O0.cs) (0, 0) _ rfl (R.out.setRow _) Try.underlying36 rfl (by kernel_rfl)) rfl (by unfold RefP; rw [HE.out]; exact ⟨rfl, HO0.out, PF.out.setRow (by have := HB0.out; omega) R.out (by decide) (by decide) _, FR.out.setRow (by omega) _⟩)
  have hk1 : (O0.kd == 1) = true := by rw [beq_iff_eq]; exact hk
  have hk2 : (O0.kd != 1) = false := by rw [bne, hk1]; rfl
  have HKO0 := hidB hk
  clear hk
  go_wp2_with (first | ((with_reducible refine ldId 24 (.tmp 21) ?_); refine wpList_load_mid (by rfl) 24 (.tmp 21) (by rfl) (gY) 1 (by rfl) (O0.v.cells) _ (by exact Bk.mid Y.out 1 _ rfl) Try.underlying24 (by rfl) (by kernel_rfl) ?_))
  refine (refObj_any O0.v.k O0.v.x O0.v.s O0.v.r _).mono ?_; rintro e w6 ⟨rfl, hbe⟩
  have hb : Below w5.heap.size w5 w6 := hbe ▸ box_one _ _
  clear hbe z0
  replace R := hidB (R.out.on hb); replace XF := hidB (XF.out.on hb); replace XP := hidB (XP.out.on hb); replace Y := hidB (Y.out.on hb); replace PF := hidB (PF.out.on hb); replace FR := hidB (FR.out.trans (FrP.below hb)); clear hb
  cases hio : isObj O0.v.k
  · skip
    have HQ := hidB (show orV O0.v pr = pr by unfold orV; rw [hio]; rfl)
    clear hio
    go_wp2_with (first | ((with_reducible refine ldId 24 (.tmp 9) ?_); refine wpList_load_row (by rfl) 24 (.tmp 9) (by rfl) (w.heap.size + 1 + 1) (by rfl) 24 (pr.cells.toArray) (0, 0) _ (by exact XP.out) Try.underlying24 (by rfl) (by kernel_rfl) ?_) | ((with_reducible refine wpId ?_); refine wpList_build_to (by rfl) 43 _ (by rfl) ((objI pr).cs) (by kernel_rfl) ?_))
    refine (rmade_any (objI pr) rfl w0 p ans [methW (getA tg protoK)] L hA 1 rfl (by decide) _ PF.out).mono ?_; rintro e w4' ⟨he, hrp, hfr⟩; rw [HOE1.out] at he; subst he
    rw [← HQ.out] at hrp
    have HGP := hidB (show gY ≠ p by have h1 := HGY.out; have h2 := HPL.out; omega)
    replace R := hidB (hfr.keep _ _ _ R.out (by decide) (by have := HPL.out; omega))
    replace XF := hidB (hfr.keep _ _ _ XF.out (by decide) (by have := HPL.out; omega))
    replace Y := hidB (hfr.keep _ _ _ Y.out (by decide) HGP.out)
    replace PF := hidB hrp
    replace FR := hidB (FR.out.trans hfr)
    clear hrp hfr XP HQ
    have YL := hidB Y.out.lt
    have R9 := hidB (show Bk (w4'.alloc (.cells (#[.int .u8 0, .int .u8 0, .float .f64 0, .string ⟨#[]⟩, .int .i64 0, .bool false, .bool false, .int .u8 0, .int .u8 0, .float .f64 0, .string ⟨#[]⟩, .int .i64 0, .int .u8 0, .float .f64 0, .string ⟨#[]⟩, .int .i64 0, .int .u8 0, .float .f64 0, .string ⟨#[]⟩, .int .i64 0, .bool false, .bool false, .bool false, .slice none 0 0, .int .u8 0, .string ⟨#[]⟩]) 36)) w4'.heap.size 36 OI.zero.cs from Bk.new _ _ _)
    have hb : Below w4'.heap.size w4' ((w4'.alloc (.cells (#[.int .u8 0, .int .u8 0, .float .f64 0, .string ⟨#[]⟩, .int .i64 0, .bool false, .bool false, .int .u8 0, .int .u8 0, .float .f64 0, .string ⟨#[]⟩, .int .i64 0, .int .u8 0, .float .f64 0, .string ⟨#[]⟩, .int .i64 0, .int .u8 0, .float .f64 0, .string ⟨#[]⟩, .int .i64 0, .bool false, .bool false, .bool false, .slice none 0 0, .int .u8 0, .string ⟨#[]⟩]) 36)).setRow w4'.heap.size O1.cs) := below_setRow (box_one _ _) (Nat.le_refl _) _
    have Z := hidB (show Bk ((w4'.alloc (.cells (#[.int .u8 0, .int .u8 0, .float .f64 0, .string ⟨#[]⟩, .int .i64 0, .bool false, .bool false, .int .u8 0, .int .u8 0, .float .f64 0, .string ⟨#[]⟩, .int .i64 0, .int .u8 0, .float .f64 0, .string ⟨#[]⟩, .int .i64 0, .int .u8 0, .float .f64 0, .string ⟨#[]⟩, .int .i64 0, .bool false, .bool false, .bool false, .slice none 0 0, .int .u8 0, .string ⟨#[]⟩]) 36)).setRow w4'.heap.size O1.cs) w4'.heap.size 36 O1.cs from R9.out.setRow _)
    have HGZ := hidB R.out.lt
    have HB9 := hidB hb
    clear hb
    go_upto_region 7 with (first | ((with_reducible refine stId 36 (.tmp 12) (.tmp 29) ?_); refine wpList_store_row (by rfl) 36 (.tmp 12) (.tmp 29) (by rfl) (w4'.heap.size) (O1.cs) (by rfl) (by rfl) 36 (OI.zero.cs) (by exact R9.out) (by kernel_rfl) (by rfl) (by exact OI.one _ HO1.out) ?_))
    generalize hW : ((w4'.alloc (.cells (#[.int .u8 0, .int .u8 0, .float .f64 0, .string ⟨#[]⟩, .int .i64 0, .bool false, .bool false, .int .u8 0, .int .u8 0, .float .f64 0, .string ⟨#[]⟩, .int .i64 0, .int .u8 0, .float .f64 0, .string ⟨#[]⟩, .int .i64 0, .int .u8 0, .float .f64 0, .string ⟨#[]⟩, .int .i64 0, .bool false, .bool false, .bool false, .slice none 0 0, .int .u8 0, .string ⟨#[]⟩]) 36)).setRow w4'.heap.size O1.cs) = w7 at *
    clear hW R9
    have hb := HB9.out
    clear HB9
    replace R := hidB (R.out.on hb); replace XF := hidB (XF.out.on hb); replace Y := hidB (Y.out.on hb); replace PF := hidB (PF.out.on hb); replace FR := hidB (FR.out.trans (FrP.below hb)); clear hb
    generalize w4'.heap.size = gZ at *
    have HYZ := hidB (show gY ≠ gZ from Nat.ne_of_lt YL.out)
    have z0 : w7.cell? ⟨gZ, 0, none⟩ = some (.int .u8 O1.kd) := Z.out.cell 0
    by_cases hk : O1.kd = 1
    rotate_left
    · have hk1 : (O1.kd == 1) = false := by rw [beq_eq_false_iff_ne]; exact hk
      have hk2 : (O1.kd != 1) = true := by rw [bne, hk1]; rfl
      have HE := hidB (show cf = ([methW (getA tg protoK), madeW (objI (orV O0.v pr))], O1) by rw [← HF.out]; simp only [hk, HKO0.out, if_true, if_false])
      clear HF
      go_wp2_with (first | ((with_reducible refine ldId 36 (.tmp 12) ?_); refine wpList_load_row (by rfl) 36 (.tmp 12) (by rfl) (gZ) (by rfl) 36 (O1.cs) (0, 0) _ (by exact Z.out) Try.underlying36 (by rfl) (by kernel_rfl) ?_) | ((with_reducible refine stId 36 (.tmp 10) (.tmp 33) ?_); refine wpList_store_row (by rfl) 36 (.tmp 10) (.tmp 33) (by rfl) (w.heap.size + 1 + 1 + 1) (O1.cs) (by rfl) (by rfl) 36 (OI.zero.cs) (by exact R.out) (by kernel_rfl) (by rfl) (by exact OI.one _ HO1.out) ?_))
      exact bodyPost_ret (v := .agg (O1.cs)) (results_cell_row Try.results56 _ _ (w.heap.size + 1 + 1 + 1) 36 (O1.cs) (0, 0) _ rfl (R.out.setRow _) Try.underlying36 rfl (by kernel_rfl)) rfl (by unfold RefP; rw [HE.out]; exact ⟨rfl, HO1.out, PF.out.setRow (by have := HB0.out; omega) R.out (by decide) (by decide) _, FR.out.setRow (by omega) _⟩)
    have hk1 : (O1.kd == 1) = true := by rw [beq_iff_eq]; exact hk
    have hk2 : (O1.kd != 1) = false := by rw [bne, hk1]; rfl
    have HKO1 := hidB hk
    clear hk
    go_wp2_with (first | ((with_reducible refine ldId 24 (.tmp 6) ?_); refine wpList_load_row (by rfl) 24 (.tmp 6) (by rfl) (w.heap.size) (by rfl) 24 (f'.cells.toArray) (0, 0) _ (by exact XF.out) Try.underlying24 (by rfl) (by kernel_rfl) ?_) | ((with_reducible refine ldId 24 (.tmp 36) ?_); refine wpList_load_mid (by rfl) 24 (.tmp 36) (by rfl) (gZ) 1 (by rfl) (O1.v.cells) _ (by exact Bk.mid Z.out 1 _ rfl) Try.underlying24 (by rfl) (by kernel_rfl) ?_))
    refine (rcallW_any f' O1.v pa n c w0 p ans [methW (getA tg protoK), madeW (objI (orV O0.v pr))] L hA 2 rfl (by decide) _ PF.out).mono ?_; rintro e w8 ⟨he, hrp, hfr⟩; rw [HOE2.out] at he; subst he
    replace R := hidB (hfr.keep _ _ _ R.out (by decide) (by have := HPL.out; omega))
    replace Y := hidB (hfr.keep _ _ _ Y.out (by decide) HGP.out)
    replace Z := hidB (hfr.keep _ _ _ Z.out (by decide) (by have h1 := HGZ.out; have h2 := HPL.out; omega))
    replace PF := hidB hrp
    replace FR := hidB (FR.out.trans hfr)
    clear hrp hfr XF z0
    have PF9 := hidB (PF.out.setRow (g := gY) (by have h1 := HGY.out; have h2 := HB0.out; omega) Y.out (by decide) (by decide) O2.cs)
    have FR9 := hidB (FR.out.setRow (g := gY) (by have h1 := HGY.out; omega) O2.cs)
    have Y9 := hidB (Y.out.setRow O2.cs)
    have Z9 := hidB (Z.out.setRow_far (g2 := gY) HYZ.out O2.cs)
    have R9 := hidB (R.out.setRow_far (g2 := gY) (Nat.ne_of_gt HGY.out) O2.cs)
    clear PF FR Z R
    go_upto_region 10 with (first | ((with_reducible refine stId 36 (.tmp 11) (.tmp 39) ?_); refine wpList_store_row (by rfl) 36 (.tmp 11) (.tmp 39) (by rfl) (gY) (O2.cs) (by rfl) (by rfl) 36 (O0.cs) (by exact Y.out) (by kernel_rfl) (by rfl) (by exact OI.one _ HO2.out) ?_))
    clear Y
    generalize hW : (w8.setRow gY O2.cs) = w9 at *
    clear hW
    have PF := hidB PF9.out
    have FR := hidB FR9.out
    have Y := hidB Y9.out
    have Z := hidB Z9.out
    have R := hidB R9.out
    clear PF9 FR9 Y9 Z9 R9
    have z0 : w9.cell? ⟨gY, 0, none⟩ = some (.int .u8 O2.kd) := Y.out.cell 0
    by_cases hk : O2.kd = 1
    rotate_left
    · have hk1 : (O2.kd == 1) = false := by rw [beq_eq_false_iff_ne]; exact hk
      have hk2 : (O2.kd != 1) = true := by rw [bne, hk1]; rfl
      have HE := hidB (show cf = ([methW (getA tg protoK), madeW (objI (orV O0.v pr)), callW f' O1.v (.slice pa n c)], O2) by rw [← HF.out]; simp only [hk, HKO0.out, HKO1.out, if_true, if_false])
      clear HF
      go_wp2_with (first | ((with_reducible refine ldId 36 (.tmp 11) ?_); refine wpList_load_row (by rfl) 36 (.tmp 11) (by rfl) (gY) (by rfl) 36 (O2.cs) (0, 0) _ (by exact Y.out) Try.underlying36 (by rfl) (by kernel_rfl) ?_) | ((with_reducible refine stId 36 (.tmp 10) (.tmp 43) ?_); refine wpList_store_row (by rfl) 36 (.tmp 10) (.tmp 43) (by rfl) (w.heap.size + 1 + 1 + 1) (O2.cs) (by rfl) (by rfl) 36 (OI.zero.cs) (by exact R.out) (by kernel_rfl) (by rfl) (by exact OI.one _ HO2.out) ?_))
      exact bodyPost_ret (v := .agg (O2.cs)) (results_cell_row Try.results56 _ _ (w.heap.size + 1 + 1 + 1) 36 (O2.cs) (0, 0) _ rfl (R.out.setRow _) Try.underlying36 rfl (by kernel_rfl)) rfl (by unfold RefP; rw [HE.out]; exact ⟨rfl, HO2.out, PF.out.setRow (by have := HB0.out; omega) R.out (by decide) (by decide) _, FR.out.setRow (by omega) _⟩)
    have hk1 : (O2.kd == 1) = true := by rw [beq_iff_eq]; exact hk
    have hk2 : (O2.kd != 1) = false := by rw [bne, hk1]; rfl
    have HKO2 := hidB hk
    clear hk
    go_wp2_with (first | ((with_reducible refine ldId 24 (.tmp 44) ?_); refine wpList_load_mid (by rfl) 24 (.tmp 44) (by rfl) (gY) 1 (by rfl) (O2.v.cells) _ (by exact Bk.mid Y.out 1 _ rfl) Try.underlying24 (by rfl) (by kernel_rfl) ?_))
    refine (refObj_any O2.v.k O2.v.x O2.v.s O2.v.r _).mono ?_; rintro e wa ⟨rfl, hbe⟩
    have hb : Below w9.heap.size w9 wa := hbe ▸ box_one _ _
    clear hbe z0
    replace R := hidB (R.out.on hb); replace Y := hidB (Y.out.on hb); replace Z := hidB (Z.out.on hb); replace PF := hidB (PF.out.on hb); replace FR := hidB (FR.out.trans (FrP.below hb)); clear hb
    cases hi2 : isObj O2.v.k
    · have HQ2 := hidB (show orV O2.v O1.v = O1.v by unfold orV; rw [hi2]; rfl)
      clear hi2
      go_wp2_with (first | ((with_reducible refine ldId 24 (.tmp 50) ?_); refine wpList_load_mid (by rfl) 24 (.tmp 50) (by rfl) (gZ) 1 (by rfl) (O1.v.cells) _ (by exact Bk.mid Z.out 1 _ rfl) Try.underlying24 (by rfl) (by kernel_rfl) ?_))
      refine (rdoneI_any O1.v _).mono ?_; rintro e wb ⟨rfl, hb⟩
      replace R := hidB (R.out.on hb); replace PF := hidB (PF.out.on hb); replace FR := hidB (FR.out.trans (FrP.below hb)); clear hb
      have HE := hidB (show cf = ([methW (getA tg protoK), madeW (objI (orV O0.v pr)), callW f' O1.v (.slice pa n c)], doneI O1.v) by rw [← HF.out]; simp only [HKO0.out, HKO1.out, HKO2.out, if_true, HQ2.out])
      go_wp2_with (first | ((with_reducible refine stId 36 (.tmp 10) (.tmp 52) ?_); refine wpList_store_row (by rfl) 36 (.tmp 10) (.tmp 52) (by rfl) (w.heap.size + 1 + 1 + 1) ((doneI O1.v).cs) (by rfl) (by rfl) 36 (OI.zero.cs) (by exact R.out) (by kernel_rfl) (by rfl) (by exact OI.one _ rfl) ?_))
      exact bodyPost_ret (v := .agg ((doneI O1.v).cs)) (results_cell_row Try.results56 _ _ (w.heap.size + 1 + 1 + 1) 36 ((doneI O1.v).cs) (0, 0) _ rfl (R.out.setRow _) Try.underlying36 rfl (by kernel_rfl)) rfl (by unfold RefP; rw [HE.out]; exact ⟨rfl, rfl, PF.out.setRow (by have := HB0.out; omega) R.out (by decide) (by decide) _, FR.out.setRow (by omega) _⟩)
    · have HQ2 := hidB (show orV O2.v O1.v = O2.v by unfold orV; rw [hi2]; rfl)
      clear hi2
      go_wp2_with (first | ((with_reducible refine ldId 24 (.tmp 47) ?_); refine wpList_load_mid (by rfl) 24 (.tmp 47) (by rfl) (gY) 1 (by rfl) (O2.v.cells) _ (by exact Bk.mid Y.out 1 _ rfl) Try.underlying24 (by rfl) (by kernel_rfl) ?_))
      refine (rdoneI_any O2.v _).mono ?_; rintro e wb ⟨rfl, hb⟩
      replace R := hidB (R.out.on hb); replace PF := hidB (PF.out.on hb); replace FR := hidB (FR.out.trans (FrP.below hb)); clear hb
      have HE := hidB (show cf = ([methW (getA tg protoK), madeW (objI (orV O0.v pr)), callW f' O1.v (.slice pa n c)], doneI O2.v) by rw [← HF.out]; simp only [HKO0.out, HKO1.out, HKO2.out, if_true, HQ2.out])
      go_wp2_with (first | ((with_reducible refine stId 36 (.tmp 10) (.tmp 49) ?_); refine wpList_store_row (by rfl) 36 (.tmp 10) (.tmp 49) (by rfl) (w.heap.size + 1 + 1 + 1) ((doneI O2.v).cs) (by rfl) (by rfl) 36 (OI.zero.cs) (by exact R.out) (by kernel_rfl) (by rfl) (by exact OI.one _ rfl) ?_))
      exact bodyPost_ret (v := .agg ((doneI O2.v).cs)) (results_cell_row Try.results56 _ _ (w.heap.size + 1 + 1 + 1) 36 ((doneI O2.v).cs) (0, 0) _ rfl (R.out.setRow _) Try.underlying36 rfl (by kernel_rfl)) rfl (by unfold RefP; rw [HE.out]; exact ⟨rfl, rfl, PF.out.setRow (by have := HB0.out; omega) R.out (by decide) (by decide) _, FR.out.setRow (by omega) _⟩)
  · skip
    have PF9 := hidB (PF.out.setRow (g := w.heap.size + 1 + 1) (by have h2 := HB0.out; omega) XP.out (by decide) (by decide) O0.v.cells.toArray)
    have FR9 := hidB (FR.out.setRow (g := w.heap.size + 1 + 1) (by omega) O0.v.cells.toArray)
    have Y9 := hidB (Y.out.setRow_far (g2 := w.heap.size + 1 + 1) (by have h1 := HGY.out; omega) O0.v.cells.toArray)
    have XP9 := hidB (XP.out.setRow O0.v.cells.toArray)
    have XF9 := hidB (XF.out.setRow_far (g2 := w.heap.size + 1 + 1) (by omega) O0.v.cells.toArray)
    have R9 := hidB (R.out.setRow_far (g2 := w.heap.size + 1 + 1) (by omega) O0.v.cells.toArray)
    clear PF FR XF R
    go_upto_region 6 with (first | ((with_reducible refine ldId 24 (.tmp 24) ?_); refine wpList_load_mid (by rfl) 24 (.tmp 24) (by rfl) (gY) 1 (by rfl) (O0.v.cells) _ (by exact Bk.mid Y.out 1 _ rfl) Try.underlying24 (by rfl) (by kernel_rfl) ?_) | ((with_reducible refine stId 24 (.tmp 9) (.tmp 25) ?_); refine wpList_store_row (by rfl) 24 (.tmp 9) (.tmp 25) (by rfl) (w.heap.size + 1 + 1) (O0.v.cells.toArray) (by rfl) (by rfl) 24 (pr.cells.toArray) (by exact XP.out) (by kernel_rfl) (by rfl) (by exact VI.one _) ?_))
    clear Y XP
    generalize hW : (w6.setRow (w.heap.size + 1 + 1) O0.v.cells.toArray) = w6' at *
    clear hW
    have PF := hidB PF9.out
    have FR := hidB FR9.out
    have Y := hidB Y9.out
    have XP := hidB XP9.out
    have XF := hidB XF9.out
    have R := hidB R9.out
    clear PF9 FR9 Y9 XP9 XF9 R9
    have HQ := hidB (show orV O0.v pr = O0.v by unfold orV; rw [hio]; rfl)
    clear hio
    go_wp2_with (first | ((with_reducible refine ldId 24 (.tmp 9) ?_); refine wpList_load_row (by rfl) 24 (.tmp 9) (by rfl) (w.heap.size + 1 + 1) (by rfl) 24 (O0.v.cells.toArray) (0, 0) _ (by exact XP.out) Try.underlying24 (by rfl) (by kernel_rfl) ?_) | ((with_reducible refine wpId ?_); refine wpList_build_to (by rfl) 43 _ (by rfl) ((objI O0.v).cs) (by kernel_rfl) ?_))
    refine (rmade_any (objI O0.v) rfl w0 p ans [methW (getA tg protoK)] L hA 1 rfl (by decide) _ PF.out).mono ?_; rintro e w4' ⟨he, hrp, hfr⟩; rw [HOE1.out] at he; subst he
    rw [← HQ.out] at hrp
    have HGP := hidB (show gY ≠ p by have h1 := HGY.out; have h2 := HPL.out; omega)
    replace R := hidB (hfr.keep _ _ _ R.out (by decide) (by have := HPL.out; omega))
    replace XF := hidB (hfr.keep _ _ _ XF.out (by decide) (by have := HPL.out; omega))
    replace Y := hidB (hfr.keep _ _ _ Y.out (by decide) HGP.out)
    replace PF := hidB hrp
    replace FR := hidB (FR.out.trans hfr)
    clear hrp hfr XP HQ
    have YL := hidB Y.out.lt
    have R9 := hidB (show Bk (w4'.alloc (.cells (#[.int .u8 0, .int .u8 0, .float .f64 0, .string ⟨#[]⟩, .int .i64 0, .bool false, .bool false, .int .u8 0, .int .u8 0, .float .f64 0, .string ⟨#[]⟩, .int .i64 0, .int .u8 0, .float .f64 0, .string ⟨#[]⟩, .int .i64 0, .int .u8 0, .float .f64 0, .string ⟨#[]⟩, .int .i64 0, .bool false, .bool false, .bool false, .slice none 0 0, .int .u8 0, .string ⟨#[]⟩]) 36)) w4'.heap.size 36 OI.zero.cs from Bk.new _ _ _)
    have hb : Below w4'.heap.size w4' ((w4'.alloc (.cells (#[.int .u8 0, .int .u8 0, .float .f64 0, .string ⟨#[]⟩, .int .i64 0, .bool false, .bool false, .int .u8 0, .int .u8 0, .float .f64 0, .string ⟨#[]⟩, .int .i64 0, .int .u8 0, .float .f64 0, .string ⟨#[]⟩, .int .i64 0, .int .u8 0, .float .f64 0, .string ⟨#[]⟩, .int .i64 0, .bool false, .bool false, .bool false, .slice none 0 0, .int .u8 0, .string ⟨#[]⟩]) 36)).setRow w4'.heap.size O1.cs) := below_setRow (box_one _ _) (Nat.le_refl _) _
    have Z := hidB (show Bk ((w4'.alloc (.cells (#[.int .u8 0, .int .u8 0, .float .f64 0, .string ⟨#[]⟩, .int .i64 0, .bool false, .bool false, .int .u8 0, .int .u8 0, .float .f64 0, .string ⟨#[]⟩, .int .i64 0, .int .u8 0, .float .f64 0, .string ⟨#[]⟩, .int .i64 0, .int .u8 0, .float .f64 0, .string ⟨#[]⟩, .int .i64 0, .bool false, .bool false, .bool false, .slice none 0 0, .int .u8 0, .string ⟨#[]⟩]) 36)).setRow w4'.heap.size O1.cs) w4'.heap.size 36 O1.cs from R9.out.setRow _)
    have HGZ := hidB R.out.lt
    have HB9 := hidB hb
    clear hb
    go_upto_region 7 with (first | ((with_reducible refine stId 36 (.tmp 12) (.tmp 29) ?_); refine wpList_store_row (by rfl) 36 (.tmp 12) (.tmp 29) (by rfl) (w4'.heap.size) (O1.cs) (by rfl) (by rfl) 36 (OI.zero.cs) (by exact R9.out) (by kernel_rfl) (by rfl) (by exact OI.one _ HO1.out) ?_))
    generalize hW : ((w4'.alloc (.cells (#[.int .u8 0, .int .u8 0, .float .f64 0, .string ⟨#[]⟩, .int .i64 0, .bool false, .bool false, .int .u8 0, .int .u8 0, .float .f64 0, .string ⟨#[]⟩, .int .i64 0, .int .u8 0, .float .f64 0, .string ⟨#[]⟩, .int .i64 0, .int .u8 0, .float .f64 0, .string ⟨#[]⟩, .int .i64 0, .bool false, .bool false, .bool false, .slice none 0 0, .int .u8 0, .string ⟨#[]⟩]) 36)).setRow w4'.heap.size O1.cs) = w7 at *
    clear hW R9
    have hb := HB9.out
    clear HB9
    replace R := hidB (R.out.on hb); replace XF := hidB (XF.out.on hb); replace Y := hidB (Y.out.on hb); replace PF := hidB (PF.out.on hb); replace FR := hidB (FR.out.trans (FrP.below hb)); clear hb
    generalize w4'.heap.size = gZ at *
    have HYZ := hidB (show gY ≠ gZ from Nat.ne_of_lt YL.out)
    have z0 : w7.cell? ⟨gZ, 0, none⟩ = some (.int .u8 O1.kd) := Z.out.cell 0
    by_cases hk : O1.kd = 1
    rotate_left
    · have hk1 : (O1.kd == 1) = false := by rw [beq_eq_false_iff_ne]; exact hk
      have hk2 : (O1.kd != 1) = true := by rw [bne, hk1]; rfl
      have HE := hidB (show cf = ([methW (getA tg protoK), madeW (objI (orV O0.v pr))], O1) by rw [← HF.out]; simp only [hk, HKO0.out, if_true, if_false])
      clear HF
      go_wp2_with (first | ((with_reducible refine ldId 36 (.tmp 12) ?_); refine wpList_load_row (by rfl) 36 (.tmp 12) (by rfl) (gZ) (by rfl) 36 (O1.cs) (0, 0) _ (by exact Z.out) Try.underlying36 (by rfl) (by kernel_rfl) ?_) | ((with_reducible refine stId 36 (.tmp 10) (.tmp 33) ?_); refine wpList_store_row (by rfl) 36 (.tmp 10) (.tmp 33) (by rfl) (w.heap.size + 1 + 1 + 1) (O1.cs) (by rfl) (by rfl) 36 (OI.zero.cs) (by exact R.out) (by kernel_rfl) (by rfl) (by exact OI.one _ HO1.out) ?_))
      exact bodyPost_ret (v := .agg (O1.cs)) (results_cell_row Try.results56 _ _ (w.heap.size + 1 + 1 + 1) 36 (O1.cs) (0, 0) _ rfl (R.out.setRow _) Try.underlying36 rfl (by kernel_rfl)) rfl (by unfold RefP; rw [HE.out]; exact ⟨rfl, HO1.out, PF.out.setRow (by have := HB0.out; omega) R.out (by decide) (by decide) _, FR.out.setRow (by omega) _⟩)
    have hk1 : (O1.kd == 1) = true := by rw [beq_iff_eq]; exact hk
    have hk2 : (O1.kd != 1) = false := by rw [bne, hk1]; rfl
    have HKO1 := hidB hk
    clear hk
    go_wp2_with (first | ((with_reducible refine ldId 24 (.tmp 6) ?_); refine wpList_load_row (by rfl) 24 (.tmp 6) (by rfl) (w.heap.size) (by rfl) 24 (f'.cells.toArray) (0, 0) _ (by exact XF.out) Try.underlying24 (by rfl) (by kernel_rfl) ?_) | ((with_reducible refine ldId 24 (.tmp 36) ?_); refine wpList_load_mid (by rfl) 24 (.tmp 36) (by rfl) (gZ) 1 (by rfl) (O1.v.cells) _ (by exact Bk.mid Z.out 1 _ rfl) Try.underlying24 (by rfl) (by kernel_rfl) ?_))
    refine (rcallW_any f' O1.v pa n c w0 p ans [methW (getA tg protoK), madeW (objI (orV O0.v pr))] L hA 2 rfl (by decide) _ PF.out).mono ?_; rintro e w8 ⟨he, hrp, hfr⟩; rw [HOE2.out] at he; subst he
    replace R := hidB (hfr.keep _ _ _ R.out (by decide) (by have := HPL.out; omega))
    replace Y := hidB (hfr.keep _ _ _ Y.out (by decide) HGP.out)
    replace Z := hidB (hfr.keep _ _ _ Z.out (by decide) (by have h1 := HGZ.out; have h2 := HPL.out; omega))
    replace PF := hidB hrp
    replace FR := hidB (FR.out.trans hfr)
    clear hrp hfr XF z0
    have PF9 := hidB (PF.out.setRow (g := gY) (by have h1 := HGY.out; have h2 := HB0.out; omega) Y.out (by decide) (by decide) O2.cs)
    have FR9 := hidB (FR.out.setRow (g := gY) (by have h1 := HGY.out; omega) O2.cs)
    have Y9 := hidB (Y.out.setRow O2.cs)
    have Z9 := hidB (Z.out.setRow_far (g2 := gY) HYZ.out O2.cs)
    have R9 := hidB (R.out.setRow_far (g2 := gY) (Nat.ne_of_gt HGY.out) O2.cs)
    clear PF FR Z R
    go_upto_region 10 with (first | ((with_reducible refine stId 36 (.tmp 11) (.tmp 39) ?_); refine wpList_store_row (by rfl) 36 (.tmp 11) (.tmp 39) (by rfl) (gY) (O2.cs) (by rfl) (by rfl) 36 (O0.cs) (by exact Y.out) (by kernel_rfl) (by rfl) (by exact OI.one _ HO2.out) ?_))
    clear Y
    generalize hW : (w8.setRow gY O2.cs) = w9 at *
    clear hW
    have PF := hidB PF9.out
    have FR := hidB FR9.out
    have Y := hidB Y9.out
    have Z := hidB Z9.out
    have R := hidB R9.out
    clear PF9 FR9 Y9 Z9 R9
    have z0 : w9.cell? ⟨gY, 0, none⟩ = some (.int .u8 O2.kd) := Y.out.cell 0
    by_cases hk : O2.kd = 1
    rotate_left
    · have hk1 : (O2.kd == 1) = false := by rw [beq_eq_false_iff_ne]; exact hk
      have hk2 : (O2.kd != 1) = true := by rw [bne, hk1]; rfl
      have HE := hidB (show cf = ([methW (getA tg protoK), madeW (objI (orV O0.v pr)), callW f' O1.v (.slice pa n c)], O2) by rw [← HF.out]; simp only [hk, HKO0.out, HKO1.out, if_true, if_false])
      clear HF
      go_wp2_with (first | ((with_reducible refine ldId 36 (.tmp 11) ?_); refine wpList_load_row (by rfl) 36 (.tmp 11) (by rfl) (gY) (by rfl) 36 (O2.cs) (0, 0) _ (by exact Y.out) Try.underlying36 (by rfl) (by kernel_rfl) ?_) | ((with_reducible refine stId 36 (.tmp 10) (.tmp 43) ?_); refine wpList_store_row (by rfl) 36 (.tmp 10) (.tmp 43) (by rfl) (w.heap.size + 1 + 1 + 1) (O2.cs) (by rfl) (by rfl) 36 (OI.zero.cs) (by exact R.out) (by kernel_rfl) (by rfl) (by exact OI.one _ HO2.out) ?_))
      exact bodyPost_ret (v := .agg (O2.cs)) (results_cell_row Try.results56 _ _ (w.heap.size + 1 + 1 + 1) 36 (O2.cs) (0, 0) _ rfl (R.out.setRow _) Try.underlying36 rfl (by kernel_rfl)) rfl (by unfold RefP; rw [HE.out]; exact ⟨rfl, HO2.out, PF.out.setRow (by have := HB0.out; omega) R.out (by decide) (by decide) _, FR.out.setRow (by omega) _⟩)
    have hk1 : (O2.kd == 1) = true := by rw [beq_iff_eq]; exact hk
    have hk2 : (O2.kd != 1) = false := by rw [bne, hk1]; rfl
    have HKO2 := hidB hk
    clear hk
    go_wp2_with (first | ((with_reducible refine ldId 24 (.tmp 44) ?_); refine wpList_load_mid (by rfl) 24 (.tmp 44) (by rfl) (gY) 1 (by rfl) (O2.v.cells) _ (by exact Bk.mid Y.out 1 _ rfl) Try.underlying24 (by rfl) (by kernel_rfl) ?_))
    refine (refObj_any O2.v.k O2.v.x O2.v.s O2.v.r _).mono ?_; rintro e wa ⟨rfl, hbe⟩
    have hb : Below w9.heap.size w9 wa := hbe ▸ box_one _ _
    clear hbe z0
    replace R := hidB (R.out.on hb); replace Y := hidB (Y.out.on hb); replace Z := hidB (Z.out.on hb); replace PF := hidB (PF.out.on hb); replace FR := hidB (FR.out.trans (FrP.below hb)); clear hb
    cases hi2 : isObj O2.v.k
    · have HQ2 := hidB (show orV O2.v O1.v = O1.v by unfold orV; rw [hi2]; rfl)
      clear hi2
      go_wp2_with (first | ((with_reducible refine ldId 24 (.tmp 50) ?_); refine wpList_load_mid (by rfl) 24 (.tmp 50) (by rfl) (gZ) 1 (by rfl) (O1.v.cells) _ (by exact Bk.mid Z.out 1 _ rfl) Try.underlying24 (by rfl) (by kernel_rfl) ?_))
      refine (rdoneI_any O1.v _).mono ?_; rintro e wb ⟨rfl, hb⟩
      replace R := hidB (R.out.on hb); replace PF := hidB (PF.out.on hb); replace FR := hidB (FR.out.trans (FrP.below hb)); clear hb
      have HE := hidB (show cf = ([methW (getA tg protoK), madeW (objI (orV O0.v pr)), callW f' O1.v (.slice pa n c)], doneI O1.v) by rw [← HF.out]; simp only [HKO0.out, HKO1.out, HKO2.out, if_true, HQ2.out])
      go_wp2_with (first | ((with_reducible refine stId 36 (.tmp 10) (.tmp 52) ?_); refine wpList_store_row (by rfl) 36 (.tmp 10) (.tmp 52) (by rfl) (w.heap.size + 1 + 1 + 1) ((doneI O1.v).cs) (by rfl) (by rfl) 36 (OI.zero.cs) (by exact R.out) (by kernel_rfl) (by rfl) (by exact OI.one _ rfl) ?_))
      exact bodyPost_ret (v := .agg ((doneI O1.v).cs)) (results_cell_row Try.results56 _ _ (w.heap.size + 1 + 1 + 1) 36 ((doneI O1.v).cs) (0, 0) _ rfl (R.out.setRow _) Try.underlying36 rfl (by kernel_rfl)) rfl (by unfold RefP; rw [HE.out]; exact ⟨rfl, rfl, PF.out.setRow (by have := HB0.out; omega) R.out (by decide) (by decide) _, FR.out.setRow (by omega) _⟩)
    · have HQ2 := hidB (show orV O2.v O1.v = O2.v by unfold orV; rw [hi2]; rfl)
      clear hi2
      go_wp2_with (first | ((with_reducible refine ldId 24 (.tmp 47) ?_); refine wpList_load_mid (by rfl) 24 (.tmp 47) (by rfl) (gY) 1 (by rfl) (O2.v.cells) _ (by exact Bk.mid Y.out 1 _ rfl) Try.underlying24 (by rfl) (by kernel_rfl) ?_))
      refine (rdoneI_any O2.v _).mono ?_; rintro e wb ⟨rfl, hb⟩
      replace R := hidB (R.out.on hb); replace PF := hidB (PF.out.on hb); replace FR := hidB (FR.out.trans (FrP.below hb)); clear hb
      have HE := hidB (show cf = ([methW (getA tg protoK), madeW (objI (orV O0.v pr)), callW f' O1.v (.slice pa n c)], doneI O2.v) by rw [← HF.out]; simp only [HKO0.out, HKO1.out, HKO2.out, if_true, HQ2.out])
      go_wp2_with (first | ((with_reducible refine stId 36 (.tmp 10) (.tmp 49) ?_); refine wpList_store_row (by rfl) 36 (.tmp 10) (.tmp 49) (by rfl) (w.heap.size + 1 + 1 + 1) ((doneI O2.v).cs) (by rfl) (by rfl) 36 (OI.zero.cs) (by exact R.out) (by kernel_rfl) (by rfl) (by exact OI.one _ rfl) ?_))
      exact bodyPost_ret (v := .agg ((doneI O2.v).cs)) (results_cell_row Try.results56 _ _ (w.heap.size + 1 + 1 + 1) 36 ((doneI O2.v).cs) (0, 0) _ rfl (R.out.setRow _) Try.underlying36 rfl (by kernel_rfl)) rfl (by unfold RefP; rw [HE.out]; exact ⟨rfl, rfl, PF.out.setRow (by have := HB0.out; omega) R.out (by decide) (by decide) _, FR.out.setRow (by omega) _⟩)

end Go.Proofs.Ytbkjbpefbdoenaa
