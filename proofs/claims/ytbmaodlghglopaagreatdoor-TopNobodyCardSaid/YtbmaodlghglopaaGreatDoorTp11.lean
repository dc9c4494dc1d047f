/-
  May a value be in a heap: the walk of reach's own test.
-/
import Derived.Test.YtbmaodlghglopaaGreatDoorMxA
import Derived.Test.YtbmaodlghglopaaGreatDoorTp10
namespace Go.Proofs.YtbmaodlghglopaaGreatDoor
open Go.RowKit

set_option maxHeartbeats 8000000 in
set_option maxRecDepth 100000 in
theorem namedW_any (h : HI) (hv : Value) (n : Nat) (hn : n < h.length) (gw : Nat) (w : World) (hw : Bk w gw 65 #[hv]) (hr : RdH h hv w) : Calls Tryz.prog 39 #[.pointer (some ⟨gw, 0, none⟩), .int .i64 n] w fun e w' => e = .returned (nmI (h[n]'hn).1 n).a ∧ Below w.heap.size w w' := by
  obtain ⟨g, o, c, rfl, hlm, hj⟩ := hr.obj hn
  have HJ := hidB hj
  have HRJ := hidB (fun (W : World) (hb : Below w.heap.size w W) => hj.on hb)
  unfold maxLen at hlm
  have hlm2 : h.length ≤ 9223372036854775807 := by omega
  clear hr hj hlm
  have hn0 : (0 : Int) ≤ (n : Int) := by omega
  have hn1 : (n : Int) < (h.length : Int) := by omega
  generalize (h[n]'hn) = e0 at *
  have R := hidB (show Bk (w.alloc (.cells (#[.int .u8 0, .float .f64 0, .string ⟨#[]⟩, .int .i64 0]) 29)) (w.heap.size) 29 (#[.int .u8 0, .float .f64 0, .string ⟨#[]⟩, .int .i64 0]) from Bk.new w _ _)
  have B := hidB (show Below w.heap.size w (w.alloc (.cells (#[.int .u8 0, .float .f64 0, .string ⟨#[]⟩, .int .i64 0]) 29)) from box_one w _)
  have Y := hidB (show Bk (w.alloc (.cells (#[.int .u8 0, .float .f64 0, .string ⟨#[]⟩, .int .i64 0]) 29)) gw 65 #[(.slice (some ⟨g, o, none⟩) h.length c)] from hw.alloc _)
  have HGW := hidB hw.lt
  clear hw
  go_enter Tryz.func39, Tryz.ntmps39
  go_upto_region 1 with fail
  generalize hW : (w.alloc (.cells (#[.int .u8 0, .float .f64 0, .string ⟨#[]⟩, .int .i64 0]) 29)) = w1 at *
  clear hW
  replace HJ := hidB (HJ.out.on B.out)
  have Z := hidB (show Bk (w1.alloc (.cells #[.int .u8 6, .float .f64 0, .string ⟨#[]⟩, .int .i64 n] 29)) w1.heap.size 29 #[.int .u8 6, .float .f64 0, .string ⟨#[]⟩, .int .i64 n] from Bk.new w1 _ _)
  have hgz := hidB R.out.lt
  replace Y := hidB (show Bk (w1.alloc (.cells #[.int .u8 6, .float .f64 0, .string ⟨#[]⟩, .int .i64 n] 29)) gw 65 #[(.slice (some ⟨g, o, none⟩) h.length c)] from Y.out.alloc _)
  replace R := hidB (show Bk (w1.alloc (.cells #[.int .u8 6, .float .f64 0, .string ⟨#[]⟩, .int .i64 n] 29)) (w.heap.size) 29 #[.int .u8 0, .float .f64 0, .string ⟨#[]⟩, .int .i64 0] from R.out.alloc _)
  have hbs := hidB B.out.size
  replace HJ := hidB (HJ.out.on (box_one w1 (.cells #[.int .u8 6, .float .f64 0, .string ⟨#[]⟩, .int .i64 n] 29)))
  replace B := hidB (show Below w.heap.size w (w1.alloc (.cells #[.int .u8 6, .float .f64 0, .string ⟨#[]⟩, .int .i64 n] 29)) from B.out.alloc B.out.size _)
  go_upto_region 2 with (first | ((with_reducible refine wpId ?_); refine wpList_build_to (by rfl) 29 _ (by rfl) (#[.int .u8 6, .float .f64 0, .string ⟨#[]⟩, .int .i64 n]) (by kernel_rfl) ?_) | ((with_reducible refine wpId ?_); refine wpList_store_new (by rfl) 29 (.tmp 5) (.tmp 7) (by rfl) #[.int .u8 6, .float .f64 0, .string ⟨#[]⟩, .int .i64 n] 29 _ (by rfl) (by rfl) (by kernel_rfl) (by rfl) (by rfl) ?_))
  generalize hW : (w1.alloc (.cells #[.int .u8 6, .float .f64 0, .string ⟨#[]⟩, .int .i64 n] 29)) = w2 at *
  generalize hG : w1.heap.size = gz at *
  clear hW hG
  cases hma : e0.1.ma <;> cases hca : e0.1.ca
  · skip
    have y0 : w2.cell? ⟨gw, 0, none⟩ = some (.slice (some ⟨g, o, none⟩) h.length c) := Y.out.cell 0
    have c16 : w2.cell? ⟨g, o + n * 18 + 16, none⟩ = some (.bool e0.1.ca) := HJ.out.row 16 _ rfl
    have c17 : w2.cell? ⟨g, o + n * 18 + 17, none⟩ = some (.bool e0.1.ma) := HJ.out.row 17 _ rfl
    have z0 : w2.cell? ⟨gz, 0, none⟩ = some (.int .u8 6) := Z.out.cell 0
    have zf : w2.frozen? ⟨gz, 0, none⟩ = false := Z.out.free 0
    rw [hca] at c16
    rw [hma] at c17
    have HK := hidB (show kindO e0.1 = 6 by unfold kindO; rw [hma, hca]; rfl)
    have HC := hidB (fun (W : World) (hb : Below w.heap.size w W) => HRJ.out W hb)
    go_upto_region 6 with fail
    clear y0 c16 c17 z0 zf
    go_wp2_with (first | ((with_reducible refine ldId 29 (.tmp 5) ?_); refine wpList_load_row (by rfl) 29 (.tmp 5) (by rfl) (gz) (by rfl) 29 (#[.int .u8 6, .float .f64 0, .string ⟨#[]⟩, .int .i64 n]) (0, 0) _ (by exact Z.out) Tryz.underlying29 (by rfl) (by kernel_rfl) ?_) | ((with_reducible refine stId 29 (.tmp 4) (.tmp 28) ?_); refine wpList_store_row (by rfl) 29 (.tmp 4) (.tmp 28) (by rfl) (w.heap.size) (#[.int .u8 6, .float .f64 0, .string ⟨#[]⟩, .int .i64 n]) (by rfl) (by rfl) 29 (#[.int .u8 0, .float .f64 0, .string ⟨#[]⟩, .int .i64 0]) (by exact R.out) (by kernel_rfl) (by rfl) (by exact (vi_one1 (VI.mk 6 0 ⟨#[]⟩ n))) ?_))
    exact bodyPost_ret (v := .agg (#[.int .u8 6, .float .f64 0, .string ⟨#[]⟩, .int .i64 n])) (results_cell_row Tryz.results39 _ _ (w.heap.size) 29 (#[.int .u8 6, .float .f64 0, .string ⟨#[]⟩, .int .i64 n]) (0, 0) _ rfl (R.out.setRow _) Tryz.underlying29 rfl (by kernel_rfl)) rfl (⟨by show Ending.returned (Value.agg #[.int .u8 6, .float .f64 0, .string ⟨#[]⟩, .int .i64 n]) = .returned (nmI e0.1 n).a; unfold nmI; rw [HK.out], below_setRow B.out (Nat.le_refl _) _⟩)
  · skip
    have y0 : w2.cell? ⟨gw, 0, none⟩ = some (.slice (some ⟨g, o, none⟩) h.length c) := Y.out.cell 0
    have c16 : w2.cell? ⟨g, o + n * 18 + 16, none⟩ = some (.bool e0.1.ca) := HJ.out.row 16 _ rfl
    have c17 : w2.cell? ⟨g, o + n * 18 + 17, none⟩ = some (.bool e0.1.ma) := HJ.out.row 17 _ rfl
    have z0 : w2.cell? ⟨gz, 0, none⟩ = some (.int .u8 6) := Z.out.cell 0
    have zf : w2.frozen? ⟨gz, 0, none⟩ = false := Z.out.free 0
    rw [hca] at c16
    rw [hma] at c17
    have HK := hidB (show kindO e0.1 = 7 by unfold kindO; rw [hma, hca]; rfl)
    have HC := hidB (fun (W : World) (hb : Below w.heap.size w W) => HRJ.out W hb)
    have Z7 := hidB (show Bk (w2.setCell ⟨gz, 0, none⟩ (.int .u8 7)) gz 29 #[.int .u8 7, .float .f64 0, .string ⟨#[]⟩, .int .i64 n] from Z.out.set 0 _)
    have Y7 := hidB (show Bk (w2.setCell ⟨gz, 0, none⟩ (.int .u8 7)) gw 65 #[(.slice (some ⟨g, o, none⟩) h.length c)] from Y.out.far (by show gw ≠ gz; have h1 := hgz.out; have h2 := HGW.out; omega) _)
    have R7 := hidB (show Bk (w2.setCell ⟨gz, 0, none⟩ (.int .u8 7)) (w.heap.size) 29 #[.int .u8 0, .float .f64 0, .string ⟨#[]⟩, .int .i64 0] from R.out.far (by show w.heap.size ≠ gz; have := hgz.out; omega) _)
    have B7 := hidB (show Below w.heap.size w (w2.setCell ⟨gz, 0, none⟩ (.int .u8 7)) from B.out.setCell (by show w.heap.size ≤ gz; exact hbs.out) _)
    skip
    go_upto_region 4 with fail
    clear y0 c16 c17 z0 zf Z Y R B HJ
    generalize (w2.setCell ⟨gz, 0, none⟩ (.int .u8 7)) = w3 at *
    have Z := Z7
    have Y := Y7
    have R := R7
    have B := B7
    have HJ := hidB (HC.out _ B7.out)
    clear Z7 Y7 R7 B7
    have y0 : w3.cell? ⟨gw, 0, none⟩ = some (.slice (some ⟨g, o, none⟩) h.length c) := Y.out.cell 0
    have c16 : w3.cell? ⟨g, o + n * 18 + 16, none⟩ = some (.bool e0.1.ca) := HJ.out.row 16 _ rfl
    have c17 : w3.cell? ⟨g, o + n * 18 + 17, none⟩ = some (.bool e0.1.ma) := HJ.out.row 17 _ rfl
    have z0 : w3.cell? ⟨gz, 0, none⟩ = some (.int .u8 7) := Z.out.cell 0
    have zf : w3.frozen? ⟨gz, 0, none⟩ = false := Z.out.free 0
    rw [hca] at c16
    rw [hma] at c17
    go_upto_region 6 with fail
    clear y0 c16 c17 z0 zf
    go_wp2_with (first | ((with_reducible refine ldId 29 (.tmp 5) ?_); refine wpList_load_row (by rfl) 29 (.tmp 5) (by rfl) (gz) (by rfl) 29 (#[.int .u8 7, .float .f64 0, .string ⟨#[]⟩, .int .i64 n]) (0, 0) _ (by exact Z.out) Tryz.underlying29 (by rfl) (by kernel_rfl) ?_) | ((with_reducible refine stId 29 (.tmp 4) (.tmp 28) ?_); refine wpList_store_row (by rfl) 29 (.tmp 4) (.tmp 28) (by rfl) (w.heap.size) (#[.int .u8 7, .float .f64 0, .string ⟨#[]⟩, .int .i64 n]) (by rfl) (by rfl) 29 (#[.int .u8 0, .float .f64 0, .string ⟨#[]⟩, .int .i64 0]) (by exact R.out) (by kernel_rfl) (by rfl) (by exact (vi_one1 (VI.mk 7 0 ⟨#[]⟩ n))) ?_))
    exact bodyPost_ret (v := .agg (#[.int .u8 7, .float .f64 0, .string ⟨#[]⟩, .int .i64 n])) (results_cell_row Tryz.results39 _ _ (w.heap.size) 29 (#[.int .u8 7, .float .f64 0, .string ⟨#[]⟩, .int .i64 n]) (0, 0) _ rfl (R.out.setRow _) Tryz.underlying29 rfl (by kernel_rfl)) rfl (⟨by show Ending.returned (Value.agg #[.int .u8 7, .float .f64 0, .string ⟨#[]⟩, .int .i64 n]) = .returned (nmI e0.1 n).a; unfold nmI; rw [HK.out], below_setRow B.out (Nat.le_refl _) _⟩)
  · skip
    have y0 : w2.cell? ⟨gw, 0, none⟩ = some (.slice (some ⟨g, o, none⟩) h.length c) := Y.out.cell 0
    have c16 : w2.cell? ⟨g, o + n * 18 + 16, none⟩ = some (.bool e0.1.ca) := HJ.out.row 16 _ rfl
    have c17 : w2.cell? ⟨g, o + n * 18 + 17, none⟩ = some (.bool e0.1.ma) := HJ.out.row 17 _ rfl
    have z0 : w2.cell? ⟨gz, 0, none⟩ = some (.int .u8 6) := Z.out.cell 0
    have zf : w2.frozen? ⟨gz, 0, none⟩ = false := Z.out.free 0
    rw [hca] at c16
    rw [hma] at c17
    have HK := hidB (show kindO e0.1 = 8 by unfold kindO; rw [hma]; rfl)
    have HC := hidB (fun (W : World) (hb : Below w.heap.size w W) => HRJ.out W hb)
    have Z8 := hidB (show Bk (w2.setCell ⟨gz, 0, none⟩ (.int .u8 8)) gz 29 #[.int .u8 8, .float .f64 0, .string ⟨#[]⟩, .int .i64 n] from Z.out.set 0 _)
    have Y8 := hidB (show Bk (w2.setCell ⟨gz, 0, none⟩ (.int .u8 8)) gw 65 #[(.slice (some ⟨g, o, none⟩) h.length c)] from Y.out.far (by show gw ≠ gz; have h1 := hgz.out; have h2 := HGW.out; omega) _)
    have R8 := hidB (show Bk (w2.setCell ⟨gz, 0, none⟩ (.int .u8 8)) (w.heap.size) 29 #[.int .u8 0, .float .f64 0, .string ⟨#[]⟩, .int .i64 0] from R.out.far (by show w.heap.size ≠ gz; have := hgz.out; omega) _)
    have B8 := hidB (show Below w.heap.size w (w2.setCell ⟨gz, 0, none⟩ (.int .u8 8)) from B.out.setCell (by show w.heap.size ≤ gz; exact hbs.out) _)
    skip
    go_upto_region 6 with fail
    clear y0 c16 c17 z0 zf Z Y R B HJ
    generalize (w2.setCell ⟨gz, 0, none⟩ (.int .u8 8)) = w4 at *
    have Z := Z8
    have Y := Y8
    have R := R8
    have B := B8
    have HJ := hidB (HC.out _ B8.out)
    clear Z8 Y8 R8 B8
    go_wp2_with (first | ((with_reducible refine ldId 29 (.tmp 5) ?_); refine wpList_load_row (by rfl) 29 (.tmp 5) (by rfl) (gz) (by rfl) 29 (#[.int .u8 8, .float .f64 0, .string ⟨#[]⟩, .int .i64 n]) (0, 0) _ (by exact Z.out) Tryz.underlying29 (by rfl) (by kernel_rfl) ?_) | ((with_reducible refine stId 29 (.tmp 4) (.tmp 28) ?_); refine wpList_store_row (by rfl) 29 (.tmp 4) (.tmp 28) (by rfl) (w.heap.size) (#[.int .u8 8, .float .f64 0, .string ⟨#[]⟩, .int .i64 n]) (by rfl) (by rfl) 29 (#[.int .u8 0, .float .f64 0, .string ⟨#[]⟩, .int .i64 0]) (by exact R.out) (by kernel_rfl) (by rfl) (by exact (vi_one1 (VI.mk 8 0 ⟨#[]⟩ n))) ?_))
    exact bodyPost_ret (v := .agg (#[.int .u8 8, .float .f64 0, .string ⟨#[]⟩, .int .i64 n])) (results_cell_row Tryz.results39 _ _ (w.heap.size) 29 (#[.int .u8 8, .float .f64 0, .string ⟨#[]⟩, .int .i64 n]) (0, 0) _ rfl (R.out.setRow _) Tryz.underlying29 rfl (by kernel_rfl)) rfl (⟨by show Ending.returned (Value.agg #[.int .u8 8, .float .f64 0, .string ⟨#[]⟩, .int .i64 n]) = .returned (nmI e0.1 n).a; unfold nmI; rw [HK.out], below_setRow B.out (Nat.le_refl _) _⟩)
  · skip
    have y0 : w2.cell? ⟨gw, 0, none⟩ = some (.slice (some ⟨g, o, none⟩) h.length c) := Y.out.cell 0
    have c16 : w2.cell? ⟨g, o + n * 18 + 16, none⟩ = some (.bool e0.1.ca) := HJ.out.row 16 _ rfl
    have c17 : w2.cell? ⟨g, o + n * 18 + 17, none⟩ = some (.bool e0.1.ma) := HJ.out.row 17 _ rfl
    have z0 : w2.cell? ⟨gz, 0, none⟩ = some (.int .u8 6) := Z.out.cell 0
    have zf : w2.frozen? ⟨gz, 0, none⟩ = false := Z.out.free 0
    rw [hca] at c16
    rw [hma] at c17
    have HK := hidB (show kindO e0.1 = 8 by unfold kindO; rw [hma]; rfl)
    have HC := hidB (fun (W : World) (hb : Below w.heap.size w W) => HRJ.out W hb)
    have Z7 := hidB (show Bk (w2.setCell ⟨gz, 0, none⟩ (.int .u8 7)) gz 29 #[.int .u8 7, .float .f64 0, .string ⟨#[]⟩, .int .i64 n] from Z.out.set 0 _)
    have Y7 := hidB (show Bk (w2.setCell ⟨gz, 0, none⟩ (.int .u8 7)) gw 65 #[(.slice (some ⟨g, o, none⟩) h.length c)] from Y.out.far (by show gw ≠ gz; have h1 := hgz.out; have h2 := HGW.out; omega) _)
    have R7 := hidB (show Bk (w2.setCell ⟨gz, 0, none⟩ (.int .u8 7)) (w.heap.size) 29 #[.int .u8 0, .float .f64 0, .string ⟨#[]⟩, .int .i64 0] from R.out.far (by show w.heap.size ≠ gz; have := hgz.out; omega) _)
    have B7 := hidB (show Below w.heap.size w (w2.setCell ⟨gz, 0, none⟩ (.int .u8 7)) from B.out.setCell (by show w.heap.size ≤ gz; exact hbs.out) _)
    skip
    go_upto_region 4 with fail
    clear y0 c16 c17 z0 zf Z Y R B HJ
    generalize (w2.setCell ⟨gz, 0, none⟩ (.int .u8 7)) = w3 at *
    have Z := Z7
    have Y := Y7
    have R := R7
    have B := B7
    have HJ := hidB (HC.out _ B7.out)
    clear Z7 Y7 R7 B7
    have y0 : w3.cell? ⟨gw, 0, none⟩ = some (.slice (some ⟨g, o, none⟩) h.length c) := Y.out.cell 0
    have c16 : w3.cell? ⟨g, o + n * 18 + 16, none⟩ = some (.bool e0.1.ca) := HJ.out.row 16 _ rfl
    have c17 : w3.cell? ⟨g, o + n * 18 + 17, none⟩ = some (.bool e0.1.ma) := HJ.out.row 17 _ rfl
    have z0 : w3.cell? ⟨gz, 0, none⟩ = some (.int .u8 7) := Z.out.cell 0
    have zf : w3.frozen? ⟨gz, 0, none⟩ = false := Z.out.free 0
    rw [hca] at c16
    rw [hma] at c17
    have Z8 := hidB (show Bk (w3.setCell ⟨gz, 0, none⟩ (.int .u8 8)) gz 29 #[.int .u8 8, .float .f64 0, .string ⟨#[]⟩, .int .i64 n] from Z.out.set 0 _)
    have Y8 := hidB (show Bk (w3.setCell ⟨gz, 0, none⟩ (.int .u8 8)) gw 65 #[(.slice (some ⟨g, o, none⟩) h.length c)] from Y.out.far (by show gw ≠ gz; have h1 := hgz.out; have h2 := HGW.out; omega) _)
    have R8 := hidB (show Bk (w3.setCell ⟨gz, 0, none⟩ (.int .u8 8)) (w.heap.size) 29 #[.int .u8 0, .float .f64 0, .string ⟨#[]⟩, .int .i64 0] from R.out.far (by show w.heap.size ≠ gz; have := hgz.out; omega) _)
    have B8 := hidB (show Below w.heap.size w (w3.setCell ⟨gz, 0, none⟩ (.int .u8 8)) from B.out.setCell (by show w.heap.size ≤ gz; exact hbs.out) _)
    skip
    go_upto_region 6 with fail
    clear y0 c16 c17 z0 zf Z Y R B HJ
    generalize (w3.setCell ⟨gz, 0, none⟩ (.int .u8 8)) = w4 at *
    have Z := Z8
    have Y := Y8
    have R := R8
    have B := B8
    have HJ := hidB (HC.out _ B8.out)
    clear Z8 Y8 R8 B8
    go_wp2_with (first | ((with_reducible refine ldId 29 (.tmp 5) ?_); refine wpList_load_row (by rfl) 29 (.tmp 5) (by rfl) (gz) (by rfl) 29 (#[.int .u8 8, .float .f64 0, .string ⟨#[]⟩, .int .i64 n]) (0, 0) _ (by exact Z.out) Tryz.underlying29 (by rfl) (by kernel_rfl) ?_) | ((with_reducible refine stId 29 (.tmp 4) (.tmp 28) ?_); refine wpList_store_row (by rfl) 29 (.tmp 4) (.tmp 28) (by rfl) (w.heap.size) (#[.int .u8 8, .float .f64 0, .string ⟨#[]⟩, .int .i64 n]) (by rfl) (by rfl) 29 (#[.int .u8 0, .float .f64 0, .string ⟨#[]⟩, .int .i64 0]) (by exact R.out) (by kernel_rfl) (by rfl) (by exact (vi_one1 (VI.mk 8 0 ⟨#[]⟩ n))) ?_))
    exact bodyPost_ret (v := .agg (#[.int .u8 8, .float .f64 0, .string ⟨#[]⟩, .int .i64 n])) (results_cell_row Tryz.results39 _ _ (w.heap.size) 29 (#[.int .u8 8, .float .f64 0, .string ⟨#[]⟩, .int .i64 n]) (0, 0) _ rfl (R.out.setRow _) Tryz.underlying29 rfl (by kernel_rfl)) rfl (⟨by show Ending.returned (Value.agg #[.int .u8 8, .float .f64 0, .string ⟨#[]⟩, .int .i64 n]) = .returned (nmI e0.1 n).a; unfold nmI; rw [HK.out], below_setRow B.out (Nat.le_refl _) _⟩)
/-- What is told of a value. -/
def InR (v : VI) (w : World) (e : Ending) (w' : World) : Prop := ∃ b : Bool, e = .returned (.bool b) ∧ (isObj v.k = false → b = v.may) ∧ Below w.heap.size w w'
set_option maxHeartbeats 8000000 in
set_option maxRecDepth 100000 in
theorem inR_any (h : HI) (hv : Value) (v : VI) (h0 : 0 ≤ v.k) (w : World) (hr : RdH h hv w) : Calls Tryz.prog 33 #[.agg #[hv], v.a] w (InR v w) := by
  have HRD := hidB (fun W (hb : Below w.heap.size w W) => hr.on hb)
  have MA := hidB (fun W => vmay_any v.k v.x v.s v.r h0 W)
  have HNA := hidB (fun (n : Nat) (hn : n < h.length) (gw : Nat) W (hb : Below w.heap.size w W) (hW : Bk W gw 65 #[hv]) => namedW_any h hv n hn gw W hW (hr.on hb))
  obtain ⟨⟨pa, c, rfl, h1, h2, _⟩, _⟩ := hr
  unfold maxLen at h2
  have hlm : h.length ≤ 9223372036854775807 := by omega
  clear h1 h2
  have Y := hidB (show Bk ((w.alloc (.cells (#[(.slice pa h.length c)]) 24)).alloc (.cells (v.cells.toArray) 29)) (w.heap.size) 24 (#[(.slice pa h.length c)]) from (Bk.new w _ _).alloc _)
  have X := hidB (show Bk ((w.alloc (.cells (#[(.slice pa h.length c)]) 24)).alloc (.cells (v.cells.toArray) 29)) (w.heap.size + 1) 29 (v.cells.toArray) from Bk.new2 w _ _ _)
  have B := hidB (show Below w.heap.size w ((w.alloc (.cells (#[(.slice pa h.length c)]) 24)).alloc (.cells (v.cells.toArray) 29)) from (box_one w _).alloc (by simp) _)
  go_enter Tryz.func33, Tryz.ntmps33
  go_upto_region 1 with fail
  generalize hW : ((w.alloc (.cells (#[(.slice pa h.length c)]) 24)).alloc (.cells (v.cells.toArray) 29)) = w1 at *
  clear hW
  go_wp2_with (first | ((with_reducible refine ldId 29 (.tmp 3) ?_); refine wpList_load_row (by rfl) 29 (.tmp 3) (by rfl) (w.heap.size + 1) (by rfl) 29 (v.cells.toArray) (0, 0) _ (by exact X.out) Tryz.underlying29 (by rfl) (by kernel_rfl) ?_))
  refine (MA.out _).mono ?_; rintro e w2 ⟨rfl, hb⟩
  replace Y := hidB (Y.out.on hb)
  replace X := hidB (X.out.on hb)
  replace B := hidB (B.out.trans (hb.mono B.out.size))
  clear hb
  cases hm : mayV v.k v.x v.s v.r
  · have HM := hidB (show v.may = false from hm)
    clear hm
    go_wp2_with fail
    go_ret
    exact ⟨false, rfl, fun _ => HM.out.symm, B.out⟩
  have HM := hidB (show v.may = true from hm)
  clear hm
  have Z := hidB (show Bk (w2.alloc (.cells #[(.slice pa h.length c)] 65)) w2.heap.size 65 #[(.slice pa h.length c)] from Bk.new w2 _ _)
  have Yo := hidB Y.out
  replace Y := hidB (Y.out.alloc (.cells #[(.slice pa h.length c)] 65))
  replace X := hidB (X.out.alloc (.cells #[(.slice pa h.length c)] 65))
  have hbs := hidB B.out.size
  replace B := hidB (show Below w.heap.size w (w2.alloc (.cells #[(.slice pa h.length c)] 65)) from B.out.alloc B.out.size _)
  go_upto_region 4 with (first | ((with_reducible refine ldId 24 (.tmp 2) ?_); refine wpList_load_row (by rfl) 24 (.tmp 2) (by rfl) (w.heap.size) (by rfl) 24 (#[(.slice pa h.length c)]) (0, 0) _ (by exact Yo.out) Tryz.underlying24 (by rfl) (by kernel_rfl) ?_) | ((with_reducible refine wpId ?_); refine wpList_build_to (by rfl) 65 _ (by rfl) (#[(.slice pa h.length c)]) (by kernel_rfl) ?_) | ((with_reducible refine wpId ?_); refine wpList_store_new (by rfl) 65 (.tmp 5) (.tmp 10) (by rfl) #[(.slice pa h.length c)] 65 _ (by rfl) (by rfl) (by kernel_rfl) (by rfl) (by rfl) ?_))
  generalize hW : (w2.alloc (.cells #[(.slice pa h.length c)] 65)) = w3 at *
  generalize hG : w2.heap.size = gz at *
  clear hW hG Yo
  have IO := hidB (fun W => isObjB_any v W)
  have HBG := hidB (show w.heap.size ≤ gz from hbs.out)
  cases hob : isObj v.k
  · have HOB := hidB hob
    clear hob
    refine wp_region_noPanic ?_
    refine wp_region_held_drew (S := fun W => Below w.heap.size w W ∧ Below w3.heap.size w3 W) (by kernel_rfl) ?_ (fun hHeld => ?_)
    · exact ⟨B.out.drew, (Below.refl _ _).drew⟩
    generalize hWd : w3.drew = wd at *
    clear hWd
    (refine wpAnyH_take (i := 0) (v := v.a) (by exact gE rfl) (by kernel_rfl) (by kernel_rfl) (by kernel_rfl) (fun _ _ _ h => h) (yieldsIf_load_mid (by rfl) 29 (.tmp 3) (by rfl) (w.heap.size + 1) (0) (by rfl) (v.cells) _ (fun W hS => Bk.mid (X.out.on hS.2) 0 _ rfl) Tryz.underlying29 (by rfl) (by kernel_rfl)) (by assumption) ?_; try simp only [Act.put, List.setIfInBounds_toArray, List.set_cons_zero, List.set_cons_succ])
    refine wpAnyH_ready (rs := [1]) (by kernel_rfl) (by simp) ?_
    refine AllReadyH.cons rfl (fun K hK => ?_) AllReadyH.nil
    go_simp
    refine (IO.out _).mono ?_; rintro e wc ⟨rfl, hb⟩
    rw [HOB.out]
    replace hHeld := And.intro (hHeld.1.trans (hb.mono hHeld.1.size)) (hHeld.2.trans (hb.mono hHeld.2.size))
    clear hb
    refine hK.out _ _ hHeld (fun _ => ?_)
    clear hK K
    try simp only [Act.put, List.setIfInBounds_toArray, List.set_cons_zero, List.set_cons_succ]
    first | (refine wpAnyH_take (i := 2) (v := undef) (by exact gE rfl) (by kernel_rfl) (by kernel_rfl) (by kernel_rfl) (fun _ _ _ h => h) (Or.inr ⟨?_, rfl⟩) (by assumption) ?_; (rfl); try simp only [Act.put, List.setIfInBounds_toArray, List.set_cons_zero, List.set_cons_succ]) | (refine wpAnyH_take (i := 2) (v := ?_) (by exact gE rfl) (by kernel_rfl) (by kernel_rfl) (by kernel_rfl) (fun _ _ _ h => h) (Or.inl ⟨?_, ?_⟩) (by assumption) ?_; rotate_left; (rfl); (focus (intro w hSw; (try dsimp only at hSw); go_simp; try with_reducible rfl)); try simp only [Act.put, List.setIfInBounds_toArray, List.set_cons_zero, List.set_cons_succ])
    first | (refine wpAnyH_take (i := 3) (v := undef) (by exact gE rfl) (by kernel_rfl) (by kernel_rfl) (by kernel_rfl) (fun _ _ _ h => h) (Or.inr ⟨?_, rfl⟩) (by assumption) ?_; (rfl); try simp only [Act.put, List.setIfInBounds_toArray, List.set_cons_zero, List.set_cons_succ]) | (refine wpAnyH_take (i := 3) (v := ?_) (by exact gE rfl) (by kernel_rfl) (by kernel_rfl) (by kernel_rfl) (fun _ _ _ h => h) (Or.inl ⟨?_, ?_⟩) (by assumption) ?_; rotate_left; (rfl); (focus (intro w hSw; (try dsimp only at hSw); go_simp; try with_reducible rfl)); try simp only [Act.put, List.setIfInBounds_toArray, List.set_cons_zero, List.set_cons_succ])
    (refine wpAnyH_take (i := 4) (v := undef) (by exact gE rfl) (by kernel_rfl) (by kernel_rfl) (by kernel_rfl) (fun _ _ _ h => h) (Or.inr ⟨?_, rfl⟩) (by assumption) ?_; (rfl); try simp only [Act.put, List.setIfInBounds_toArray, List.set_cons_zero, List.set_cons_succ])
    (refine wpAnyH_take (i := 5) (v := undef) (by exact gE rfl) (by kernel_rfl) (by kernel_rfl) (by kernel_rfl) (fun _ _ _ h => h) (Or.inr ⟨?_, rfl⟩) (by assumption) ?_; (rfl); try simp only [Act.put, List.setIfInBounds_toArray, List.set_cons_zero, List.set_cons_succ])
    (refine wpAnyH_take (i := 6) (v := undef) (by exact gE rfl) (by kernel_rfl) (by kernel_rfl) (by kernel_rfl) (fun _ _ _ h => h) (Or.inr ⟨?_, rfl⟩) (by assumption) ?_; (rfl); try simp only [Act.put, List.setIfInBounds_toArray, List.set_cons_zero, List.set_cons_succ])
    (refine wpAnyH_take (i := 7) (v := undef) (by exact gE rfl) (by kernel_rfl) (by kernel_rfl) (by kernel_rfl) (fun _ _ _ h => h) (Or.inr ⟨?_, rfl⟩) (by assumption) ?_; (rfl); try simp only [Act.put, List.setIfInBounds_toArray, List.set_cons_zero, List.set_cons_succ])
    (refine wpAnyH_take (i := 8) (v := undef) (by exact gE rfl) (by kernel_rfl) (by kernel_rfl) (by kernel_rfl) (fun _ _ _ h => h) (Or.inr ⟨?_, rfl⟩) (by assumption) ?_; (rfl); try simp only [Act.put, List.setIfInBounds_toArray, List.set_cons_zero, List.set_cons_succ])
    (refine wpAnyH_take (i := 9) (v := undef) (by exact gE rfl) (by kernel_rfl) (by kernel_rfl) (by kernel_rfl) (fun _ _ _ h => h) (Or.inr ⟨?_, rfl⟩) (by assumption) ?_; (rfl); try simp only [Act.put, List.setIfInBounds_toArray, List.set_cons_zero, List.set_cons_succ])
    (refine wpAnyH_take (i := 10) (v := undef) (by exact gE rfl) (by kernel_rfl) (by kernel_rfl) (by kernel_rfl) (fun _ _ _ h => h) (Or.inr ⟨?_, rfl⟩) (by assumption) ?_; (rfl); try simp only [Act.put, List.setIfInBounds_toArray, List.set_cons_zero, List.set_cons_succ])
    (refine wpAnyH_take (i := 11) (v := undef) (by exact gE rfl) (by kernel_rfl) (by kernel_rfl) (by kernel_rfl) (fun _ _ _ h => h) (Or.inr ⟨?_, rfl⟩) (by assumption) ?_; (rfl); try simp only [Act.put, List.setIfInBounds_toArray, List.set_cons_zero, List.set_cons_succ])
    (refine wpAnyH_take (i := 12) (v := undef) (by exact gE rfl) (by kernel_rfl) (by kernel_rfl) (by kernel_rfl) (fun _ _ _ h => h) (Or.inr ⟨?_, rfl⟩) (by assumption) ?_; (rfl); try simp only [Act.put, List.setIfInBounds_toArray, List.set_cons_zero, List.set_cons_succ])
    (refine wpAnyH_take (i := 13) (v := undef) (by exact gE rfl) (by kernel_rfl) (by kernel_rfl) (by kernel_rfl) (fun _ _ _ h => h) (Or.inr ⟨?_, rfl⟩) (by assumption) ?_; (rfl); try simp only [Act.put, List.setIfInBounds_toArray, List.set_cons_zero, List.set_cons_succ])
    (refine wpAnyH_take (i := 14) (v := undef) (by exact gE rfl) (by kernel_rfl) (by kernel_rfl) (by kernel_rfl) (fun _ _ _ h => h) (Or.inr ⟨?_, rfl⟩) (by assumption) ?_; (rfl); try simp only [Act.put, List.setIfInBounds_toArray, List.set_cons_zero, List.set_cons_succ])
    (refine wpAnyH_take (i := 15) (v := undef) (by exact gE rfl) (by kernel_rfl) (by kernel_rfl) (by kernel_rfl) (fun _ _ _ h => h) (Or.inr ⟨?_, rfl⟩) (by assumption) ?_; (rfl); try simp only [Act.put, List.setIfInBounds_toArray, List.set_cons_zero, List.set_cons_succ])
    (refine wpAnyH_take (i := 16) (v := undef) (by exact gE rfl) (by kernel_rfl) (by kernel_rfl) (by kernel_rfl) (fun _ _ _ h => h) (Or.inr ⟨?_, rfl⟩) (by assumption) ?_; (rfl); try simp only [Act.put, List.setIfInBounds_toArray, List.set_cons_zero, List.set_cons_succ])
    first | (refine wpAnyH_take (i := 17) (v := undef) (by exact gE rfl) (by kernel_rfl) (by kernel_rfl) (by kernel_rfl) (fun _ _ _ h => h) (Or.inr ⟨?_, rfl⟩) (by assumption) ?_; (rfl); try simp only [Act.put, List.setIfInBounds_toArray, List.set_cons_zero, List.set_cons_succ]) | (refine wpAnyH_take (i := 17) (v := ?_) (by exact gE rfl) (by kernel_rfl) (by kernel_rfl) (by kernel_rfl) (fun _ _ _ h => h) (Or.inl ⟨?_, ?_⟩) (by assumption) ?_; rotate_left; (rfl); (focus (intro w hSw; (try dsimp only at hSw); go_simp; try with_reducible rfl)); try simp only [Act.put, List.setIfInBounds_toArray, List.set_cons_zero, List.set_cons_succ])
    first | (refine wpAnyH_take (i := 18) (v := undef) (by exact gE rfl) (by kernel_rfl) (by kernel_rfl) (by kernel_rfl) (fun _ _ _ h => h) (Or.inr ⟨?_, rfl⟩) (by assumption) ?_; (rfl); try simp only [Act.put, List.setIfInBounds_toArray, List.set_cons_zero, List.set_cons_succ]) | (refine wpAnyH_take (i := 18) (v := ?_) (by exact gE rfl) (by kernel_rfl) (by kernel_rfl) (by kernel_rfl) (fun _ _ _ h => h) (Or.inl ⟨?_, ?_⟩) (by assumption) ?_; rotate_left; (rfl); (focus (intro w hSw; (try dsimp only at hSw); go_simp; try with_reducible rfl)); try simp only [Act.put, List.setIfInBounds_toArray, List.set_cons_zero, List.set_cons_succ])
    refine wpAnyH_done (by kernel_rfl) ?_ _
    refine NoPanic.normal ?_
    go_wp2_with fail
    go_ret
    exact ⟨true, rfl, fun _ => HM.out.symm, hHeld.1⟩
  have HOB := hidB hob
  have hr0 := may_ref HM.out hob
  obtain ⟨n, hn⟩ : ∃ n : Nat, v.r = (n : Int) := ⟨v.r.toNat, by omega⟩
  have HN := hidB hn
  clear hob hr0
  by_cases hlt : n < h.length
  rotate_left
  · have hx : ¬ ((n : Int) < (h.length : Int)) := by omega
    clear hn
    refine wp_region_noPanic ?_
    refine wp_region_held_drew (S := fun W => Below w.heap.size w W ∧ Below w3.heap.size w3 W) (by kernel_rfl) ?_ (fun hHeld => ?_)
    · exact ⟨B.out.drew, (Below.refl _ _).drew⟩
    generalize hWd : w3.drew = wd at *
    clear hWd
    (refine wpAnyH_take (i := 0) (v := v.a) (by exact gE rfl) (by kernel_rfl) (by kernel_rfl) (by kernel_rfl) (fun _ _ _ h => h) (yieldsIf_load_mid (by rfl) 29 (.tmp 3) (by rfl) (w.heap.size + 1) (0) (by rfl) (v.cells) _ (fun W hS => Bk.mid (X.out.on hS.2) 0 _ rfl) Tryz.underlying29 (by rfl) (by kernel_rfl)) (by assumption) ?_; try simp only [Act.put, List.setIfInBounds_toArray, List.set_cons_zero, List.set_cons_succ])
    refine wpAnyH_ready (rs := [1]) (by kernel_rfl) (by simp) ?_
    refine AllReadyH.cons rfl (fun K hK => ?_) AllReadyH.nil
    go_simp
    refine (IO.out _).mono ?_; rintro e wc ⟨rfl, hb⟩
    rw [HOB.out]
    replace hHeld := And.intro (hHeld.1.trans (hb.mono hHeld.1.size)) (hHeld.2.trans (hb.mono hHeld.2.size))
    clear hb
    refine hK.out _ _ hHeld (fun _ => ?_)
    clear hK K
    try simp only [Act.put, List.setIfInBounds_toArray, List.set_cons_zero, List.set_cons_succ]
    first | (refine wpAnyH_take (i := 2) (v := undef) (by exact gE rfl) (by kernel_rfl) (by kernel_rfl) (by kernel_rfl) (fun _ _ _ h => h) (Or.inr ⟨?_, rfl⟩) (by assumption) ?_; (rfl); try simp only [Act.put, List.setIfInBounds_toArray, List.set_cons_zero, List.set_cons_succ]) | (refine wpAnyH_take (i := 2) (v := ?_) (by exact gE rfl) (by kernel_rfl) (by kernel_rfl) (by kernel_rfl) (fun _ _ _ h => h) (Or.inl ⟨?_, ?_⟩) (by assumption) ?_; rotate_left; (rfl); (focus (intro w hSw; (try dsimp only at hSw); go_simp; try with_reducible rfl)); try simp only [Act.put, List.setIfInBounds_toArray, List.set_cons_zero, List.set_cons_succ])
    first | (refine wpAnyH_take (i := 3) (v := undef) (by exact gE rfl) (by kernel_rfl) (by kernel_rfl) (by kernel_rfl) (fun _ _ _ h => h) (Or.inr ⟨?_, rfl⟩) (by assumption) ?_; (rfl); try simp only [Act.put, List.setIfInBounds_toArray, List.set_cons_zero, List.set_cons_succ]) | (refine wpAnyH_take (i := 3) (v := ?_) (by exact gE rfl) (by kernel_rfl) (by kernel_rfl) (by kernel_rfl) (fun _ _ _ h => h) (Or.inl ⟨?_, ?_⟩) (by assumption) ?_; rotate_left; (rfl); (focus (intro w hSw; (try dsimp only at hSw); go_simp; try with_reducible rfl)); try simp only [Act.put, List.setIfInBounds_toArray, List.set_cons_zero, List.set_cons_succ])
    first | (refine wpAnyH_take (i := 4) (v := undef) (by exact gE rfl) (by kernel_rfl) (by kernel_rfl) (by kernel_rfl) (fun _ _ _ h => h) (Or.inr ⟨?_, rfl⟩) (by assumption) ?_; (rfl); try simp only [Act.put, List.setIfInBounds_toArray, List.set_cons_zero, List.set_cons_succ]) | (refine wpAnyH_take (i := 4) (v := ?_) (by exact gE rfl) (by kernel_rfl) (by kernel_rfl) (by kernel_rfl) (fun _ _ _ h => h) (Or.inl ⟨?_, ?_⟩) (by assumption) ?_; rotate_left; (rfl); (focus (intro w hSw; (try dsimp only at hSw); go_simp; try with_reducible rfl)); try simp only [Act.put, List.setIfInBounds_toArray, List.set_cons_zero, List.set_cons_succ])
    first | (refine wpAnyH_take (i := 5) (v := undef) (by exact gE rfl) (by kernel_rfl) (by kernel_rfl) (by kernel_rfl) (fun _ _ _ h => h) (Or.inr ⟨?_, rfl⟩) (by assumption) ?_; (rfl); try simp only [Act.put, List.setIfInBounds_toArray, List.set_cons_zero, List.set_cons_succ]) | (refine wpAnyH_take (i := 5) (v := ?_) (by exact gE rfl) (by kernel_rfl) (by kernel_rfl) (by kernel_rfl) (fun _ _ _ h => h) (Or.inl ⟨?_, ?_⟩) (by assumption) ?_; rotate_left; (rfl); (focus (intro W hSw; have hc0 := (show W.cell? ⟨w.heap.size + 1, 3, none⟩ = some (.int .i64 (n : Int)) from by rw [← HN.out]; exact (X.out.on hSw.2).cell 3); clear hSw; go_simp; try with_reducible rfl)); try simp only [Act.put, List.setIfInBounds_toArray, List.set_cons_zero, List.set_cons_succ])
    first | (refine wpAnyH_take (i := 6) (v := undef) (by exact gE rfl) (by kernel_rfl) (by kernel_rfl) (by kernel_rfl) (fun _ _ _ h => h) (Or.inr ⟨?_, rfl⟩) (by assumption) ?_; (rfl); try simp only [Act.put, List.setIfInBounds_toArray, List.set_cons_zero, List.set_cons_succ]) | (refine wpAnyH_take (i := 6) (v := ?_) (by exact gE rfl) (by kernel_rfl) (by kernel_rfl) (by kernel_rfl) (fun _ _ _ h => h) (Or.inl ⟨?_, ?_⟩) (by assumption) ?_; rotate_left; (rfl); (focus (intro w hSw; (try dsimp only at hSw); go_simp; try with_reducible rfl)); try simp only [Act.put, List.setIfInBounds_toArray, List.set_cons_zero, List.set_cons_succ])
    first | (refine wpAnyH_take (i := 7) (v := undef) (by exact gE rfl) (by kernel_rfl) (by kernel_rfl) (by kernel_rfl) (fun _ _ _ h => h) (Or.inr ⟨?_, rfl⟩) (by assumption) ?_; (rfl); try simp only [Act.put, List.setIfInBounds_toArray, List.set_cons_zero, List.set_cons_succ]) | (refine wpAnyH_take (i := 7) (v := ?_) (by exact gE rfl) (by kernel_rfl) (by kernel_rfl) (by kernel_rfl) (fun _ _ _ h => h) (Or.inl ⟨?_, ?_⟩) (by assumption) ?_; rotate_left; (rfl); (focus (intro W hSw; have hc0 := (show W.cell? ⟨w.heap.size, 0, none⟩ = some ((.slice pa h.length c)) from (Y.out.on hSw.2).cell 0); clear hSw; go_simp; try with_reducible rfl)); try simp only [Act.put, List.setIfInBounds_toArray, List.set_cons_zero, List.set_cons_succ])
    first | (refine wpAnyH_take (i := 8) (v := undef) (by exact gE rfl) (by kernel_rfl) (by kernel_rfl) (by kernel_rfl) (fun _ _ _ h => h) (Or.inr ⟨?_, rfl⟩) (by assumption) ?_; (rfl); try simp only [Act.put, List.setIfInBounds_toArray, List.set_cons_zero, List.set_cons_succ]) | (refine wpAnyH_take (i := 8) (v := ?_) (by exact gE rfl) (by kernel_rfl) (by kernel_rfl) (by kernel_rfl) (fun _ _ _ h => h) (Or.inl ⟨?_, ?_⟩) (by assumption) ?_; rotate_left; (rfl); (focus (intro w hSw; (try dsimp only at hSw); go_simp; try with_reducible rfl)); try simp only [Act.put, List.setIfInBounds_toArray, List.set_cons_zero, List.set_cons_succ])
    first | (refine wpAnyH_take (i := 9) (v := undef) (by exact gE rfl) (by kernel_rfl) (by kernel_rfl) (by kernel_rfl) (fun _ _ _ h => h) (Or.inr ⟨?_, rfl⟩) (by assumption) ?_; (rfl); try simp only [Act.put, List.setIfInBounds_toArray, List.set_cons_zero, List.set_cons_succ]) | (refine wpAnyH_take (i := 9) (v := ?_) (by exact gE rfl) (by kernel_rfl) (by kernel_rfl) (by kernel_rfl) (fun _ _ _ h => h) (Or.inl ⟨?_, ?_⟩) (by assumption) ?_; rotate_left; (rfl); (focus (intro w hSw; (try dsimp only at hSw); go_simp; try with_reducible rfl)); try simp only [Act.put, List.setIfInBounds_toArray, List.set_cons_zero, List.set_cons_succ])
    first | (refine wpAnyH_take (i := 10) (v := undef) (by exact gE rfl) (by kernel_rfl) (by kernel_rfl) (by kernel_rfl) (fun _ _ _ h => h) (Or.inr ⟨?_, rfl⟩) (by assumption) ?_; (rfl); try simp only [Act.put, List.setIfInBounds_toArray, List.set_cons_zero, List.set_cons_succ]) | (refine wpAnyH_take (i := 10) (v := ?_) (by exact gE rfl) (by kernel_rfl) (by kernel_rfl) (by kernel_rfl) (fun _ _ _ h => h) (Or.inl ⟨?_, ?_⟩) (by assumption) ?_; rotate_left; (rfl); (focus (intro w hSw; (try dsimp only at hSw); go_simp; try with_reducible rfl)); try simp only [Act.put, List.setIfInBounds_toArray, List.set_cons_zero, List.set_cons_succ])
    (refine wpAnyH_take (i := 11) (v := undef) (by exact gE rfl) (by kernel_rfl) (by kernel_rfl) (by kernel_rfl) (fun _ _ _ h => h) (Or.inr ⟨?_, rfl⟩) (by assumption) ?_; (rfl); try simp only [Act.put, List.setIfInBounds_toArray, List.set_cons_zero, List.set_cons_succ])
    (refine wpAnyH_take (i := 12) (v := undef) (by exact gE rfl) (by kernel_rfl) (by kernel_rfl) (by kernel_rfl) (fun _ _ _ h => h) (Or.inr ⟨?_, rfl⟩) (by assumption) ?_; (rfl); try simp only [Act.put, List.setIfInBounds_toArray, List.set_cons_zero, List.set_cons_succ])
    (refine wpAnyH_take (i := 13) (v := undef) (by exact gE rfl) (by kernel_rfl) (by kernel_rfl) (by kernel_rfl) (fun _ _ _ h => h) (Or.inr ⟨?_, rfl⟩) (by assumption) ?_; (rfl); try simp only [Act.put, List.setIfInBounds_toArray, List.set_cons_zero, List.set_cons_succ])
    (refine wpAnyH_take (i := 14) (v := undef) (by exact gE rfl) (by kernel_rfl) (by kernel_rfl) (by kernel_rfl) (fun _ _ _ h => h) (Or.inr ⟨?_, rfl⟩) (by assumption) ?_; (rfl); try simp only [Act.put, List.setIfInBounds_toArray, List.set_cons_zero, List.set_cons_succ])
    (refine wpAnyH_take (i := 15) (v := undef) (by exact gE rfl) (by kernel_rfl) (by kernel_rfl) (by kernel_rfl) (fun _ _ _ h => h) (Or.inr ⟨?_, rfl⟩) (by assumption) ?_; (rfl); try simp only [Act.put, List.setIfInBounds_toArray, List.set_cons_zero, List.set_cons_succ])
    first | (refine wpAnyH_take (i := 16) (v := undef) (by exact gE rfl) (by kernel_rfl) (by kernel_rfl) (by kernel_rfl) (fun _ _ _ h => h) (Or.inr ⟨?_, rfl⟩) (by assumption) ?_; (rfl); try simp only [Act.put, List.setIfInBounds_toArray, List.set_cons_zero, List.set_cons_succ]) | (refine wpAnyH_take (i := 16) (v := ?_) (by exact gE rfl) (by kernel_rfl) (by kernel_rfl) (by kernel_rfl) (fun _ _ _ h => h) (Or.inl ⟨?_, ?_⟩) (by assumption) ?_; rotate_left; (rfl); (focus (intro w hSw; (try dsimp only at hSw); go_simp; try with_reducible rfl)); try simp only [Act.put, List.setIfInBounds_toArray, List.set_cons_zero, List.set_cons_succ])
    first | (refine wpAnyH_take (i := 17) (v := undef) (by exact gE rfl) (by kernel_rfl) (by kernel_rfl) (by kernel_rfl) (fun _ _ _ h => h) (Or.inr ⟨?_, rfl⟩) (by assumption) ?_; (rfl); try simp only [Act.put, List.setIfInBounds_toArray, List.set_cons_zero, List.set_cons_succ]) | (refine wpAnyH_take (i := 17) (v := ?_) (by exact gE rfl) (by kernel_rfl) (by kernel_rfl) (by kernel_rfl) (fun _ _ _ h => h) (Or.inl ⟨?_, ?_⟩) (by assumption) ?_; rotate_left; (rfl); (focus (intro w hSw; (try dsimp only at hSw); go_simp; try with_reducible rfl)); try simp only [Act.put, List.setIfInBounds_toArray, List.set_cons_zero, List.set_cons_succ])
    first | (refine wpAnyH_take (i := 18) (v := undef) (by exact gE rfl) (by kernel_rfl) (by kernel_rfl) (by kernel_rfl) (fun _ _ _ h => h) (Or.inr ⟨?_, rfl⟩) (by assumption) ?_; (rfl); try simp only [Act.put, List.setIfInBounds_toArray, List.set_cons_zero, List.set_cons_succ]) | (refine wpAnyH_take (i := 18) (v := ?_) (by exact gE rfl) (by kernel_rfl) (by kernel_rfl) (by kernel_rfl) (fun _ _ _ h => h) (Or.inl ⟨?_, ?_⟩) (by assumption) ?_; rotate_left; (rfl); (focus (intro w hSw; (try dsimp only at hSw); go_simp; try with_reducible rfl)); try simp only [Act.put, List.setIfInBounds_toArray, List.set_cons_zero, List.set_cons_succ])
    refine wpAnyH_done (by kernel_rfl) ?_ _
    refine NoPanic.normal ?_
    go_wp2_with fail
    go_ret
    exact ⟨false, rfl, fun h => absurd (h.symm.trans HOB.out) (by decide), hHeld.1⟩
  have hx : (n : Int) < (h.length : Int) := by omega
  have HNM := hidB (HNA.out n hlt gz)
  clear hn HNA
  generalize (h[n]'hlt) = e0 at *
  have EV : ∀ W : World, (Op.equalIn 10000 29 (nmI e0.1 n).a v.a).run Tryz.prog W = .ok (eqV (nmI e0.1 n).k v.k (nmI e0.1 n).x v.x (nmI e0.1 n).s v.s (nmI e0.1 n).r v.r) W := fun W => equal_val 9998 _ _ _ _ _ _ _ _ W
  generalize nmI e0.1 n = nm at *
  obtain ⟨bq, hbq⟩ : ∃ q, eqV nm.k v.k nm.x v.x nm.s v.s nm.r v.r = q := ⟨_, rfl⟩
  rw [hbq] at EV
  refine wp_region_noPanic ?_
  refine wp_region_held_drew (S := fun W => Below w.heap.size w W ∧ Below w3.heap.size w3 W) (by kernel_rfl) ?_ (fun hHeld => ?_)
  · exact ⟨B.out.drew, (Below.refl _ _).drew⟩
  generalize hWd : w3.drew = wd at *
  clear hWd
  (refine wpAnyH_take (i := 0) (v := v.a) (by exact gE rfl) (by kernel_rfl) (by kernel_rfl) (by kernel_rfl) (fun _ _ _ h => h) (yieldsIf_load_mid (by rfl) 29 (.tmp 3) (by rfl) (w.heap.size + 1) (0) (by rfl) (v.cells) _ (fun W hS => Bk.mid (X.out.on hS.2) 0 _ rfl) Tryz.underlying29 (by rfl) (by kernel_rfl)) (by assumption) ?_; try simp only [Act.put, List.setIfInBounds_toArray, List.set_cons_zero, List.set_cons_succ])
  refine wpAnyH_ready (rs := [1]) (by kernel_rfl) (by simp) ?_
  refine AllReadyH.cons rfl (fun K hK => ?_) AllReadyH.nil
  go_simp
  refine (IO.out _).mono ?_; rintro e wc ⟨rfl, hb⟩
  rw [HOB.out]
  replace hHeld := And.intro (hHeld.1.trans (hb.mono hHeld.1.size)) (hHeld.2.trans (hb.mono hHeld.2.size))
  clear hb
  refine hK.out _ _ hHeld (fun _ => ?_)
  clear hK K
  try simp only [Act.put, List.setIfInBounds_toArray, List.set_cons_zero, List.set_cons_succ]
  first | (refine wpAnyH_take (i := 2) (v := undef) (by exact gE rfl) (by kernel_rfl) (by kernel_rfl) (by kernel_rfl) (fun _ _ _ h => h) (Or.inr ⟨?_, rfl⟩) (by assumption) ?_; (rfl); try simp only [Act.put, List.setIfInBounds_toArray, List.set_cons_zero, List.set_cons_succ]) | (refine wpAnyH_take (i := 2) (v := ?_) (by exact gE rfl) (by kernel_rfl) (by kernel_rfl) (by kernel_rfl) (fun _ _ _ h => h) (Or.inl ⟨?_, ?_⟩) (by assumption) ?_; rotate_left; (rfl); (focus (intro w hSw; (try dsimp only at hSw); go_simp; try with_reducible rfl)); try simp only [Act.put, List.setIfInBounds_toArray, List.set_cons_zero, List.set_cons_succ])
  first | (refine wpAnyH_take (i := 3) (v := undef) (by exact gE rfl) (by kernel_rfl) (by kernel_rfl) (by kernel_rfl) (fun _ _ _ h => h) (Or.inr ⟨?_, rfl⟩) (by assumption) ?_; (rfl); try simp only [Act.put, List.setIfInBounds_toArray, List.set_cons_zero, List.set_cons_succ]) | (refine wpAnyH_take (i := 3) (v := ?_) (by exact gE rfl) (by kernel_rfl) (by kernel_rfl) (by kernel_rfl) (fun _ _ _ h => h) (Or.inl ⟨?_, ?_⟩) (by assumption) ?_; rotate_left; (rfl); (focus (intro w hSw; (try dsimp only at hSw); go_simp; try with_reducible rfl)); try simp only [Act.put, List.setIfInBounds_toArray, List.set_cons_zero, List.set_cons_succ])
  first | (refine wpAnyH_take (i := 4) (v := undef) (by exact gE rfl) (by kernel_rfl) (by kernel_rfl) (by kernel_rfl) (fun _ _ _ h => h) (Or.inr ⟨?_, rfl⟩) (by assumption) ?_; (rfl); try simp only [Act.put, List.setIfInBounds_toArray, List.set_cons_zero, List.set_cons_succ]) | (refine wpAnyH_take (i := 4) (v := ?_) (by exact gE rfl) (by kernel_rfl) (by kernel_rfl) (by kernel_rfl) (fun _ _ _ h => h) (Or.inl ⟨?_, ?_⟩) (by assumption) ?_; rotate_left; (rfl); (focus (intro w hSw; (try dsimp only at hSw); go_simp; try with_reducible rfl)); try simp only [Act.put, List.setIfInBounds_toArray, List.set_cons_zero, List.set_cons_succ])
  first | (refine wpAnyH_take (i := 5) (v := undef) (by exact gE rfl) (by kernel_rfl) (by kernel_rfl) (by kernel_rfl) (fun _ _ _ h => h) (Or.inr ⟨?_, rfl⟩) (by assumption) ?_; (rfl); try simp only [Act.put, List.setIfInBounds_toArray, List.set_cons_zero, List.set_cons_succ]) | (refine wpAnyH_take (i := 5) (v := ?_) (by exact gE rfl) (by kernel_rfl) (by kernel_rfl) (by kernel_rfl) (fun _ _ _ h => h) (Or.inl ⟨?_, ?_⟩) (by assumption) ?_; rotate_left; (rfl); (focus (intro W hSw; have hc0 := (show W.cell? ⟨w.heap.size + 1, 3, none⟩ = some (.int .i64 (n : Int)) from by rw [← HN.out]; exact (X.out.on hSw.2).cell 3); clear hSw; go_simp; try with_reducible rfl)); try simp only [Act.put, List.setIfInBounds_toArray, List.set_cons_zero, List.set_cons_succ])
  first | (refine wpAnyH_take (i := 6) (v := undef) (by exact gE rfl) (by kernel_rfl) (by kernel_rfl) (by kernel_rfl) (fun _ _ _ h => h) (Or.inr ⟨?_, rfl⟩) (by assumption) ?_; (rfl); try simp only [Act.put, List.setIfInBounds_toArray, List.set_cons_zero, List.set_cons_succ]) | (refine wpAnyH_take (i := 6) (v := ?_) (by exact gE rfl) (by kernel_rfl) (by kernel_rfl) (by kernel_rfl) (fun _ _ _ h => h) (Or.inl ⟨?_, ?_⟩) (by assumption) ?_; rotate_left; (rfl); (focus (intro w hSw; (try dsimp only at hSw); go_simp; try with_reducible rfl)); try simp only [Act.put, List.setIfInBounds_toArray, List.set_cons_zero, List.set_cons_succ])
  first | (refine wpAnyH_take (i := 7) (v := undef) (by exact gE rfl) (by kernel_rfl) (by kernel_rfl) (by kernel_rfl) (fun _ _ _ h => h) (Or.inr ⟨?_, rfl⟩) (by assumption) ?_; (rfl); try simp only [Act.put, List.setIfInBounds_toArray, List.set_cons_zero, List.set_cons_succ]) | (refine wpAnyH_take (i := 7) (v := ?_) (by exact gE rfl) (by kernel_rfl) (by kernel_rfl) (by kernel_rfl) (fun _ _ _ h => h) (Or.inl ⟨?_, ?_⟩) (by assumption) ?_; rotate_left; (rfl); (focus (intro W hSw; have hc0 := (show W.cell? ⟨w.heap.size, 0, none⟩ = some ((.slice pa h.length c)) from (Y.out.on hSw.2).cell 0); clear hSw; go_simp; try with_reducible rfl)); try simp only [Act.put, List.setIfInBounds_toArray, List.set_cons_zero, List.set_cons_succ])
  first | (refine wpAnyH_take (i := 8) (v := undef) (by exact gE rfl) (by kernel_rfl) (by kernel_rfl) (by kernel_rfl) (fun _ _ _ h => h) (Or.inr ⟨?_, rfl⟩) (by assumption) ?_; (rfl); try simp only [Act.put, List.setIfInBounds_toArray, List.set_cons_zero, List.set_cons_succ]) | (refine wpAnyH_take (i := 8) (v := ?_) (by exact gE rfl) (by kernel_rfl) (by kernel_rfl) (by kernel_rfl) (fun _ _ _ h => h) (Or.inl ⟨?_, ?_⟩) (by assumption) ?_; rotate_left; (rfl); (focus (intro w hSw; (try dsimp only at hSw); go_simp; try with_reducible rfl)); try simp only [Act.put, List.setIfInBounds_toArray, List.set_cons_zero, List.set_cons_succ])
  first | (refine wpAnyH_take (i := 9) (v := undef) (by exact gE rfl) (by kernel_rfl) (by kernel_rfl) (by kernel_rfl) (fun _ _ _ h => h) (Or.inr ⟨?_, rfl⟩) (by assumption) ?_; (rfl); try simp only [Act.put, List.setIfInBounds_toArray, List.set_cons_zero, List.set_cons_succ]) | (refine wpAnyH_take (i := 9) (v := ?_) (by exact gE rfl) (by kernel_rfl) (by kernel_rfl) (by kernel_rfl) (fun _ _ _ h => h) (Or.inl ⟨?_, ?_⟩) (by assumption) ?_; rotate_left; (rfl); (focus (intro w hSw; (try dsimp only at hSw); go_simp; try with_reducible rfl)); try simp only [Act.put, List.setIfInBounds_toArray, List.set_cons_zero, List.set_cons_succ])
  first | (refine wpAnyH_take (i := 10) (v := undef) (by exact gE rfl) (by kernel_rfl) (by kernel_rfl) (by kernel_rfl) (fun _ _ _ h => h) (Or.inr ⟨?_, rfl⟩) (by assumption) ?_; (rfl); try simp only [Act.put, List.setIfInBounds_toArray, List.set_cons_zero, List.set_cons_succ]) | (refine wpAnyH_take (i := 10) (v := ?_) (by exact gE rfl) (by kernel_rfl) (by kernel_rfl) (by kernel_rfl) (fun _ _ _ h => h) (Or.inl ⟨?_, ?_⟩) (by assumption) ?_; rotate_left; (rfl); (focus (intro w hSw; (try dsimp only at hSw); go_simp; try with_reducible rfl)); try simp only [Act.put, List.setIfInBounds_toArray, List.set_cons_zero, List.set_cons_succ])
  first | (refine wpAnyH_take (i := 11) (v := undef) (by exact gE rfl) (by kernel_rfl) (by kernel_rfl) (by kernel_rfl) (fun _ _ _ h => h) (Or.inr ⟨?_, rfl⟩) (by assumption) ?_; (rfl); try simp only [Act.put, List.setIfInBounds_toArray, List.set_cons_zero, List.set_cons_succ]) | (refine wpAnyH_take (i := 11) (v := ?_) (by exact gE rfl) (by kernel_rfl) (by kernel_rfl) (by kernel_rfl) (fun _ _ _ h => h) (Or.inl ⟨?_, ?_⟩) (by assumption) ?_; rotate_left; (rfl); (focus (intro w hSw; (try dsimp only at hSw); go_simp; try with_reducible rfl)); try simp only [Act.put, List.setIfInBounds_toArray, List.set_cons_zero, List.set_cons_succ])
  first | (refine wpAnyH_take (i := 12) (v := undef) (by exact gE rfl) (by kernel_rfl) (by kernel_rfl) (by kernel_rfl) (fun _ _ _ h => h) (Or.inr ⟨?_, rfl⟩) (by assumption) ?_; (rfl); try simp only [Act.put, List.setIfInBounds_toArray, List.set_cons_zero, List.set_cons_succ]) | (refine wpAnyH_take (i := 12) (v := ?_) (by exact gE rfl) (by kernel_rfl) (by kernel_rfl) (by kernel_rfl) (fun _ _ _ h => h) (Or.inl ⟨?_, ?_⟩) (by assumption) ?_; rotate_left; (rfl); (focus (intro W hSw; have hc0 := (show W.cell? ⟨w.heap.size + 1, 3, none⟩ = some (.int .i64 (n : Int)) from by rw [← HN.out]; exact (X.out.on hSw.2).cell 3); clear hSw; go_simp; try with_reducible rfl)); try simp only [Act.put, List.setIfInBounds_toArray, List.set_cons_zero, List.set_cons_succ])
  (refine wpAnyH_take (i := 14) (v := v.a) (by exact gE rfl) (by kernel_rfl) (by kernel_rfl) (by kernel_rfl) (fun _ _ _ h => h) (yieldsIf_load_mid (by rfl) 29 (.tmp 3) (by rfl) (w.heap.size + 1) (0) (by rfl) (v.cells) _ (fun W hS => Bk.mid (X.out.on hS.2) 0 _ rfl) Tryz.underlying29 (by rfl) (by kernel_rfl)) (by assumption) ?_; try simp only [Act.put, List.setIfInBounds_toArray, List.set_cons_zero, List.set_cons_succ])
  refine wpAnyH_ready (rs := [13]) (by kernel_rfl) (by simp) ?_
  refine AllReadyH.cons rfl (fun K hK => ?_) AllReadyH.nil
  go_simp
  refine (HNM.out _ hHeld.1 (Z.out.on hHeld.2)).mono ?_; rintro e wn ⟨rfl, hb⟩
  replace hHeld := And.intro (hHeld.1.trans (hb.mono hHeld.1.size)) (hHeld.2.trans (hb.mono hHeld.2.size))
  clear hb
  refine hK.out _ _ hHeld (fun _ => ?_)
  clear hK K
  try simp only [Act.put, List.setIfInBounds_toArray, List.set_cons_zero, List.set_cons_succ]
  refine wpAnyH_ready (rs := [15]) (by kernel_rfl) (by simp) ?_
  refine AllReadyH.cons rfl (fun K hK => ?_) AllReadyH.nil
  have EV2 := EV
  go_simp
  refine hK.out _ _ hHeld (fun _ => ?_)
  clear hK K
  try simp only [Act.put, List.setIfInBounds_toArray, List.set_cons_zero, List.set_cons_succ]
  first | (refine wpAnyH_take (i := 16) (v := undef) (by exact gE rfl) (by kernel_rfl) (by kernel_rfl) (by kernel_rfl) (fun _ _ _ h => h) (Or.inr ⟨?_, rfl⟩) (by assumption) ?_; (rfl); try simp only [Act.put, List.setIfInBounds_toArray, List.set_cons_zero, List.set_cons_succ]) | (refine wpAnyH_take (i := 16) (v := ?_) (by exact gE rfl) (by kernel_rfl) (by kernel_rfl) (by kernel_rfl) (fun _ _ _ h => h) (Or.inl ⟨?_, ?_⟩) (by assumption) ?_; rotate_left; (rfl); (focus (intro w hSw; (try dsimp only at hSw); go_simp; try with_reducible rfl)); try simp only [Act.put, List.setIfInBounds_toArray, List.set_cons_zero, List.set_cons_succ])
  first | (refine wpAnyH_take (i := 17) (v := undef) (by exact gE rfl) (by kernel_rfl) (by kernel_rfl) (by kernel_rfl) (fun _ _ _ h => h) (Or.inr ⟨?_, rfl⟩) (by assumption) ?_; (rfl); try simp only [Act.put, List.setIfInBounds_toArray, List.set_cons_zero, List.set_cons_succ]) | (refine wpAnyH_take (i := 17) (v := ?_) (by exact gE rfl) (by kernel_rfl) (by kernel_rfl) (by kernel_rfl) (fun _ _ _ h => h) (Or.inl ⟨?_, ?_⟩) (by assumption) ?_; rotate_left; (rfl); (focus (intro w hSw; (try dsimp only at hSw); go_simp; try with_reducible rfl)); try simp only [Act.put, List.setIfInBounds_toArray, List.set_cons_zero, List.set_cons_succ])
  first | (refine wpAnyH_take (i := 18) (v := undef) (by exact gE rfl) (by kernel_rfl) (by kernel_rfl) (by kernel_rfl) (fun _ _ _ h => h) (Or.inr ⟨?_, rfl⟩) (by assumption) ?_; (rfl); try simp only [Act.put, List.setIfInBounds_toArray, List.set_cons_zero, List.set_cons_succ]) | (refine wpAnyH_take (i := 18) (v := ?_) (by exact gE rfl) (by kernel_rfl) (by kernel_rfl) (by kernel_rfl) (fun _ _ _ h => h) (Or.inl ⟨?_, ?_⟩) (by assumption) ?_; rotate_left; (rfl); (focus (intro w hSw; (try dsimp only at hSw); go_simp; try with_reducible rfl)); try simp only [Act.put, List.setIfInBounds_toArray, List.set_cons_zero, List.set_cons_succ])
  refine wpAnyH_done (by kernel_rfl) ?_ _
  refine NoPanic.normal ?_
  go_wp2_with fail
  go_ret
  exact ⟨_, rfl, fun h => absurd (h.symm.trans HOB.out) (by decide), hHeld.1⟩

end Go.Proofs.YtbmaodlghglopaaGreatDoor
