/-
  Proxies: live, gone; an object's value; numbers asked of a heap.
-/
import Derived.Test.YtnidamkgfgddfaaGreatHNew
namespace Go.Proofs.YtnidamkgfgddfaaGreat
open Go.RowKit

def goneB (o : OJ) : Bool := (o.kd == 6) && (o.tg.k == 1)
def liveB (o : OJ) : Bool := (o.kd == 6) && !(o.tg.k == 1)
def namedI (o : OJ) (n : Int) : VI := ⟨kindO o, 0, ⟨#[]⟩, n⟩
/-- What is wrong with a heap, with numbers. -/
def askE (h : HI) (ns : List Int) : Int := if chkH h = 0 then (if ns.all (fun n => decide (0 ≤ n) && decide (n < (h.length : Int))) then 0 else 2) else chkH h
theorem rd_rowH {h : HI} {pa : Option Addr} {n c : Nat} {w : World} (hr : RdH h (.slice pa n c) w) {i : Nat} (hi : i < h.length) : ∃ g o, pa = some ⟨g, o, none⟩ ∧ g < w.heap.size ∧ w.rangeAt g (o + i * 18) (h[i]'hi).1.cs.toList := by
  obtain ⟨⟨pa', c', hv, _, _, h3⟩, _⟩ := hr
  obtain ⟨g, o, rfl, hg, hrow⟩ := h3 (by omega)
  simp only [Value.slice.injEq] at hv
  exact ⟨g, o, hv.1, hg, hrow i hi⟩
theorem vi_oneC (v : VI) : v.cells.toArray.all (·.oneCell') = true := by
  rw [Array.all_eq_true_iff_forall_mem]
  intro u hu
  simp only [VI.cells, List.mem_toArray, List.mem_cons, List.not_mem_nil, or_false] at hu
  rcases hu with rfl | rfl | rfl | rfl <;> rfl
def intsC (ns : List Int) : Array Value := (ns.map (Value.int .i64)).toArray

set_option maxHeartbeats 8000000 in
set_option maxRecDepth 100000 in
theorem gone_any (o : OJ) (w : World) : Calls Tryz.prog 22 #[o.a] w fun e w' => e = .returned (.bool (goneB o)) ∧ Below w.heap.size w w' := by
  have X := hidB (show Bk (w.alloc (.cells (o.cs) 46)) (w.heap.size) 46 (o.cs) from Bk.new w _ _)
  have B := hidB (show Below w.heap.size w (w.alloc (.cells (o.cs) 46)) from box_one w _)
  go_enter Tryz.func22, Tryz.ntmps22
  go_upto_region 1 with fail
  generalize hW : (w.alloc (.cells (o.cs) 46)) = w1 at *
  clear hW
  have x0 : w1.cell? ⟨w.heap.size, 0, none⟩ = some (.int .u8 o.kd) := X.out.cell 0
  have x7 : w1.cell? ⟨w.heap.size, 7, none⟩ = some (.int .u8 o.tg.k) := X.out.cell 7
  cases hk : (o.kd == 6)
  · have HK := hidB hk
    have HQ := hidB (show goneB o = false by unfold goneB; rw [HK.out]; rfl)
    go_wp2_with fail
    go_ret
    exact ⟨by rw [HQ.out]; rfl, B.out⟩
  have HK := hidB hk
  cases ht : (o.tg.k == 1)
  · have HT := hidB ht
    have ht2 : (o.tg.k != 1) = true := by rw [bne, ht]; rfl
    have HQ := hidB (show goneB o = false by unfold goneB; rw [HK.out, HT.out]; rfl)
    go_wp2_with fail
    go_ret
    exact ⟨by rw [HQ.out]; rfl, B.out⟩
  · have HT := hidB ht
    have ht2 : (o.tg.k != 1) = false := by rw [bne, ht]; rfl
    have HQ := hidB (show goneB o = true by unfold goneB; rw [HK.out, HT.out]; rfl)
    go_wp2_with fail
    go_ret
    exact ⟨by rw [HQ.out]; rfl, B.out⟩
set_option maxHeartbeats 8000000 in
set_option maxRecDepth 100000 in
theorem live_any (o : OJ) (w : World) : Calls Tryz.prog 29 #[o.a] w fun e w' => e = .returned (.bool (liveB o)) ∧ Below w.heap.size w w' := by
  have X := hidB (show Bk (w.alloc (.cells (o.cs) 46)) (w.heap.size) 46 (o.cs) from Bk.new w _ _)
  have B := hidB (show Below w.heap.size w (w.alloc (.cells (o.cs) 46)) from box_one w _)
  go_enter Tryz.func29, Tryz.ntmps29
  go_upto_region 1 with fail
  generalize hW : (w.alloc (.cells (o.cs) 46)) = w1 at *
  clear hW
  have x0 : w1.cell? ⟨w.heap.size, 0, none⟩ = some (.int .u8 o.kd) := X.out.cell 0
  have x7 : w1.cell? ⟨w.heap.size, 7, none⟩ = some (.int .u8 o.tg.k) := X.out.cell 7
  cases hk : (o.kd == 6)
  · have HK := hidB hk
    have HQ := hidB (show liveB o = false by unfold liveB; rw [HK.out]; rfl)
    go_wp2_with fail
    go_ret
    exact ⟨by rw [HQ.out]; rfl, B.out⟩
  have HK := hidB hk
  cases ht : (o.tg.k == 1)
  · have HT := hidB ht
    have ht2 : (o.tg.k != 1) = true := by rw [bne, ht]; rfl
    have HQ := hidB (show liveB o = true by unfold liveB; rw [HK.out, HT.out]; rfl)
    go_wp2_with fail
    go_ret
    exact ⟨by rw [HQ.out]; rfl, B.out⟩
  · have HT := hidB ht
    have ht2 : (o.tg.k != 1) = false := by rw [bne, ht]; rfl
    have HQ := hidB (show liveB o = false by unfold liveB; rw [HK.out, HT.out]; rfl)
    go_wp2_with fail
    go_ret
    exact ⟨by rw [HQ.out]; rfl, B.out⟩
set_option maxHeartbeats 8000000 in
set_option maxRecDepth 100000 in
theorem named_any (h : HI) (hv : Value) (n : Nat) (hn : n < h.length) (w : World) (hr : RdH h hv w) : Calls Tryz.prog 23 #[.agg #[hv], .int .i64 n] w fun e w' => e = .returned (namedI (h[n]'hn).1 n).a ∧ Below w.heap.size w w' := by
  have HR := hidB hr
  obtain ⟨⟨pa, c, rfl, h1, h2, h3⟩, _⟩ := hr
  unfold maxLen at h2
  have hlm : h.length ≤ 9223372036854775807 := by omega
  obtain ⟨g, o, rfl, hg, hrow⟩ := h3 (by omega)
  have HG := hidB hg
  have HROW := hidB (hrow n hn)
  clear h3 hg hrow
  have hn0 : (0 : Int) ≤ (n : Int) := by omega
  have hn1 : (n : Int) < (h.length : Int) := by omega
  generalize (h[n]'hn) = e0 at *
  have Y := hidB (show Bk ((w.alloc (.cells (#[(.slice (some ⟨g, o, none⟩) h.length c)]) 24)).alloc (.cells (#[.int .u8 0, .float .f64 0, .string ⟨#[]⟩, .int .i64 0]) 43)) (w.heap.size) 24 (#[(.slice (some ⟨g, o, none⟩) h.length c)]) from (Bk.new w _ _).alloc _)
  have R := hidB (show Bk ((w.alloc (.cells (#[(.slice (some ⟨g, o, none⟩) h.length c)]) 24)).alloc (.cells (#[.int .u8 0, .float .f64 0, .string ⟨#[]⟩, .int .i64 0]) 43)) (w.heap.size + 1) 43 (#[.int .u8 0, .float .f64 0, .string ⟨#[]⟩, .int .i64 0]) from Bk.new2 w _ _ _)
  have B := hidB (show Below w.heap.size w ((w.alloc (.cells (#[(.slice (some ⟨g, o, none⟩) h.length c)]) 24)).alloc (.cells (#[.int .u8 0, .float .f64 0, .string ⟨#[]⟩, .int .i64 0]) 43)) from (box_one w _).alloc (by simp) _)
  go_enter Tryz.func23, Tryz.ntmps23
  go_upto_region 1 with fail
  generalize hW : ((w.alloc (.cells (#[(.slice (some ⟨g, o, none⟩) h.length c)]) 24)).alloc (.cells (#[.int .u8 0, .float .f64 0, .string ⟨#[]⟩, .int .i64 0]) 43)) = w1 at *
  clear hW
  have Z := hidB (show Bk (w1.alloc (.cells #[.int .u8 6, .float .f64 0, .string ⟨#[]⟩, .int .i64 n] 43)) w1.heap.size 43 #[.int .u8 6, .float .f64 0, .string ⟨#[]⟩, .int .i64 n] from Bk.new w1 _ _)
  have hgz := hidB R.out.lt
  replace Y := hidB (show Bk (w1.alloc (.cells #[.int .u8 6, .float .f64 0, .string ⟨#[]⟩, .int .i64 n] 43)) w.heap.size 24 #[(.slice (some ⟨g, o, none⟩) h.length c)] from Y.out.alloc _)
  replace R := hidB (show Bk (w1.alloc (.cells #[.int .u8 6, .float .f64 0, .string ⟨#[]⟩, .int .i64 n] 43)) (w.heap.size + 1) 43 #[.int .u8 0, .float .f64 0, .string ⟨#[]⟩, .int .i64 0] from R.out.alloc _)
  have hbs := hidB B.out.size
  replace B := hidB (show Below w.heap.size w (w1.alloc (.cells #[.int .u8 6, .float .f64 0, .string ⟨#[]⟩, .int .i64 n] 43)) from B.out.alloc B.out.size _)
  go_upto_region 2 with (first | ((with_reducible refine wpId ?_); refine wpList_build_to (by rfl) 43 _ (by rfl) (#[.int .u8 6, .float .f64 0, .string ⟨#[]⟩, .int .i64 n]) (by kernel_rfl) ?_) | ((with_reducible refine wpId ?_); refine wpList_store_new (by rfl) 43 (.tmp 5) (.tmp 7) (by rfl) #[.int .u8 6, .float .f64 0, .string ⟨#[]⟩, .int .i64 n] 43 _ (by rfl) (by rfl) (by kernel_rfl) (by rfl) (by rfl) ?_))
  generalize hW : (w1.alloc (.cells #[.int .u8 6, .float .f64 0, .string ⟨#[]⟩, .int .i64 n] 43)) = w2 at *
  generalize hG : w1.heap.size = gz at *
  clear hW hG
  cases hma : e0.1.ma <;> cases hca : e0.1.ca
  · skip
    have y0 : w2.cell? ⟨w.heap.size, 0, none⟩ = some (.slice (some ⟨g, o, none⟩) h.length c) := Y.out.cell 0
    have c16 : w2.cell? ⟨g, o + n * 18 + 16, none⟩ = some (.bool e0.1.ca) := rangeOn B.out HG.out HROW.out 16 _ rfl
    have c17 : w2.cell? ⟨g, o + n * 18 + 17, none⟩ = some (.bool e0.1.ma) := rangeOn B.out HG.out HROW.out 17 _ rfl
    have z0 : w2.cell? ⟨gz, 0, none⟩ = some (.int .u8 6) := Z.out.cell 0
    have zf : w2.frozen? ⟨gz, 0, none⟩ = false := Z.out.free 0
    rw [hca] at c16
    rw [hma] at c17
    have HK := hidB (show kindO e0.1 = 6 by unfold kindO; rw [hma, hca]; rfl)
    go_upto_region 6 with fail
    clear y0 c16 c17 z0 zf
    go_wp2_with (first | ((with_reducible refine ldId 43 (.tmp 5) ?_); refine wpList_load_row (by rfl) 43 (.tmp 5) (by rfl) (gz) (by rfl) 43 (#[.int .u8 6, .float .f64 0, .string ⟨#[]⟩, .int .i64 n]) (0, 0) _ (by exact Z.out) Tryz.underlying43 (by rfl) (by kernel_rfl) ?_) | ((with_reducible refine stId 43 (.tmp 4) (.tmp 22) ?_); refine wpList_store_row (by rfl) 43 (.tmp 4) (.tmp 22) (by rfl) (w.heap.size + 1) (#[.int .u8 6, .float .f64 0, .string ⟨#[]⟩, .int .i64 n]) (by rfl) (by rfl) 43 (#[.int .u8 0, .float .f64 0, .string ⟨#[]⟩, .int .i64 0]) (by exact R.out) (by kernel_rfl) (by rfl) (by exact (vi_oneC (VI.mk 6 0 ⟨#[]⟩ n))) ?_))
    exact bodyPost_ret (v := .agg (#[.int .u8 6, .float .f64 0, .string ⟨#[]⟩, .int .i64 n])) (results_cell_row Tryz.results23 _ _ (w.heap.size + 1) 43 (#[.int .u8 6, .float .f64 0, .string ⟨#[]⟩, .int .i64 n]) (0, 0) _ rfl (R.out.setRow _) Tryz.underlying43 rfl (by kernel_rfl)) rfl (⟨by show Ending.returned (Value.agg #[.int .u8 6, .float .f64 0, .string ⟨#[]⟩, .int .i64 n]) = .returned (namedI e0.1 n).a; unfold namedI; rw [HK.out], below_setRow B.out (Nat.le_succ _) _⟩)
  · skip
    have y0 : w2.cell? ⟨w.heap.size, 0, none⟩ = some (.slice (some ⟨g, o, none⟩) h.length c) := Y.out.cell 0
    have c16 : w2.cell? ⟨g, o + n * 18 + 16, none⟩ = some (.bool e0.1.ca) := rangeOn B.out HG.out HROW.out 16 _ rfl
    have c17 : w2.cell? ⟨g, o + n * 18 + 17, none⟩ = some (.bool e0.1.ma) := rangeOn B.out HG.out HROW.out 17 _ rfl
    have z0 : w2.cell? ⟨gz, 0, none⟩ = some (.int .u8 6) := Z.out.cell 0
    have zf : w2.frozen? ⟨gz, 0, none⟩ = false := Z.out.free 0
    rw [hca] at c16
    rw [hma] at c17
    have HK := hidB (show kindO e0.1 = 7 by unfold kindO; rw [hma, hca]; rfl)
    have Z7 := hidB (show Bk (w2.setCell ⟨gz, 0, none⟩ (.int .u8 7)) gz 43 #[.int .u8 7, .float .f64 0, .string ⟨#[]⟩, .int .i64 n] from Z.out.set 0 _)
    have Y7 := hidB (show Bk (w2.setCell ⟨gz, 0, none⟩ (.int .u8 7)) w.heap.size 24 #[(.slice (some ⟨g, o, none⟩) h.length c)] from Y.out.far (by show w.heap.size ≠ gz; have := hgz.out; omega) _)
    have R7 := hidB (show Bk (w2.setCell ⟨gz, 0, none⟩ (.int .u8 7)) (w.heap.size + 1) 43 #[.int .u8 0, .float .f64 0, .string ⟨#[]⟩, .int .i64 0] from R.out.far (by show w.heap.size + 1 ≠ gz; have := hgz.out; omega) _)
    have B7 := hidB (show Below w.heap.size w (w2.setCell ⟨gz, 0, none⟩ (.int .u8 7)) from B.out.setCell (by show w.heap.size ≤ gz; exact hbs.out) _)
    go_upto_region 4 with fail
    clear y0 c16 c17 z0 zf Z Y R B
    generalize (w2.setCell ⟨gz, 0, none⟩ (.int .u8 7)) = w3 at *
    have Z := Z7
    have Y := Y7
    have R := R7
    have B := B7
    clear Z7 Y7 R7 B7
    have y0 : w3.cell? ⟨w.heap.size, 0, none⟩ = some (.slice (some ⟨g, o, none⟩) h.length c) := Y.out.cell 0
    have c16 : w3.cell? ⟨g, o + n * 18 + 16, none⟩ = some (.bool e0.1.ca) := rangeOn B.out HG.out HROW.out 16 _ rfl
    have c17 : w3.cell? ⟨g, o + n * 18 + 17, none⟩ = some (.bool e0.1.ma) := rangeOn B.out HG.out HROW.out 17 _ rfl
    have z0 : w3.cell? ⟨gz, 0, none⟩ = some (.int .u8 7) := Z.out.cell 0
    have zf : w3.frozen? ⟨gz, 0, none⟩ = false := Z.out.free 0
    rw [hca] at c16
    rw [hma] at c17
    go_upto_region 6 with fail
    clear y0 c16 c17 z0 zf
    go_wp2_with (first | ((with_reducible refine ldId 43 (.tmp 5) ?_); refine wpList_load_row (by rfl) 43 (.tmp 5) (by rfl) (gz) (by rfl) 43 (#[.int .u8 7, .float .f64 0, .string ⟨#[]⟩, .int .i64 n]) (0, 0) _ (by exact Z.out) Tryz.underlying43 (by rfl) (by kernel_rfl) ?_) | ((with_reducible refine stId 43 (.tmp 4) (.tmp 22) ?_); refine wpList_store_row (by rfl) 43 (.tmp 4) (.tmp 22) (by rfl) (w.heap.size + 1) (#[.int .u8 7, .float .f64 0, .string ⟨#[]⟩, .int .i64 n]) (by rfl) (by rfl) 43 (#[.int .u8 0, .float .f64 0, .string ⟨#[]⟩, .int .i64 0]) (by exact R.out) (by kernel_rfl) (by rfl) (by exact (vi_oneC (VI.mk 7 0 ⟨#[]⟩ n))) ?_))
    exact bodyPost_ret (v := .agg (#[.int .u8 7, .float .f64 0, .string ⟨#[]⟩, .int .i64 n])) (results_cell_row Tryz.results23 _ _ (w.heap.size + 1) 43 (#[.int .u8 7, .float .f64 0, .string ⟨#[]⟩, .int .i64 n]) (0, 0) _ rfl (R.out.setRow _) Tryz.underlying43 rfl (by kernel_rfl)) rfl (⟨by show Ending.returned (Value.agg #[.int .u8 7, .float .f64 0, .string ⟨#[]⟩, .int .i64 n]) = .returned (namedI e0.1 n).a; unfold namedI; rw [HK.out], below_setRow B.out (Nat.le_succ _) _⟩)
  · skip
    have y0 : w2.cell? ⟨w.heap.size, 0, none⟩ = some (.slice (some ⟨g, o, none⟩) h.length c) := Y.out.cell 0
    have c16 : w2.cell? ⟨g, o + n * 18 + 16, none⟩ = some (.bool e0.1.ca) := rangeOn B.out HG.out HROW.out 16 _ rfl
    have c17 : w2.cell? ⟨g, o + n * 18 + 17, none⟩ = some (.bool e0.1.ma) := rangeOn B.out HG.out HROW.out 17 _ rfl
    have z0 : w2.cell? ⟨gz, 0, none⟩ = some (.int .u8 6) := Z.out.cell 0
    have zf : w2.frozen? ⟨gz, 0, none⟩ = false := Z.out.free 0
    rw [hca] at c16
    rw [hma] at c17
    have HK := hidB (show kindO e0.1 = 8 by unfold kindO; rw [hma]; rfl)
    have Z8 := hidB (show Bk (w2.setCell ⟨gz, 0, none⟩ (.int .u8 8)) gz 43 #[.int .u8 8, .float .f64 0, .string ⟨#[]⟩, .int .i64 n] from Z.out.set 0 _)
    have Y8 := hidB (show Bk (w2.setCell ⟨gz, 0, none⟩ (.int .u8 8)) w.heap.size 24 #[(.slice (some ⟨g, o, none⟩) h.length c)] from Y.out.far (by show w.heap.size ≠ gz; have := hgz.out; omega) _)
    have R8 := hidB (show Bk (w2.setCell ⟨gz, 0, none⟩ (.int .u8 8)) (w.heap.size + 1) 43 #[.int .u8 0, .float .f64 0, .string ⟨#[]⟩, .int .i64 0] from R.out.far (by show w.heap.size + 1 ≠ gz; have := hgz.out; omega) _)
    have B8 := hidB (show Below w.heap.size w (w2.setCell ⟨gz, 0, none⟩ (.int .u8 8)) from B.out.setCell (by show w.heap.size ≤ gz; exact hbs.out) _)
    go_upto_region 6 with fail
    clear y0 c16 c17 z0 zf Z Y R B
    generalize (w2.setCell ⟨gz, 0, none⟩ (.int .u8 8)) = w4 at *
    have Z := Z8
    have Y := Y8
    have R := R8
    have B := B8
    clear Z8 Y8 R8 B8
    go_wp2_with (first | ((with_reducible refine ldId 43 (.tmp 5) ?_); refine wpList_load_row (by rfl) 43 (.tmp 5) (by rfl) (gz) (by rfl) 43 (#[.int .u8 8, .float .f64 0, .string ⟨#[]⟩, .int .i64 n]) (0, 0) _ (by exact Z.out) Tryz.underlying43 (by rfl) (by kernel_rfl) ?_) | ((with_reducible refine stId 43 (.tmp 4) (.tmp 22) ?_); refine wpList_store_row (by rfl) 43 (.tmp 4) (.tmp 22) (by rfl) (w.heap.size + 1) (#[.int .u8 8, .float .f64 0, .string ⟨#[]⟩, .int .i64 n]) (by rfl) (by rfl) 43 (#[.int .u8 0, .float .f64 0, .string ⟨#[]⟩, .int .i64 0]) (by exact R.out) (by kernel_rfl) (by rfl) (by exact (vi_oneC (VI.mk 8 0 ⟨#[]⟩ n))) ?_))
    exact bodyPost_ret (v := .agg (#[.int .u8 8, .float .f64 0, .string ⟨#[]⟩, .int .i64 n])) (results_cell_row Tryz.results23 _ _ (w.heap.size + 1) 43 (#[.int .u8 8, .float .f64 0, .string ⟨#[]⟩, .int .i64 n]) (0, 0) _ rfl (R.out.setRow _) Tryz.underlying43 rfl (by kernel_rfl)) rfl (⟨by show Ending.returned (Value.agg #[.int .u8 8, .float .f64 0, .string ⟨#[]⟩, .int .i64 n]) = .returned (namedI e0.1 n).a; unfold namedI; rw [HK.out], below_setRow B.out (Nat.le_succ _) _⟩)
  · skip
    have y0 : w2.cell? ⟨w.heap.size, 0, none⟩ = some (.slice (some ⟨g, o, none⟩) h.length c) := Y.out.cell 0
    have c16 : w2.cell? ⟨g, o + n * 18 + 16, none⟩ = some (.bool e0.1.ca) := rangeOn B.out HG.out HROW.out 16 _ rfl
    have c17 : w2.cell? ⟨g, o + n * 18 + 17, none⟩ = some (.bool e0.1.ma) := rangeOn B.out HG.out HROW.out 17 _ rfl
    have z0 : w2.cell? ⟨gz, 0, none⟩ = some (.int .u8 6) := Z.out.cell 0
    have zf : w2.frozen? ⟨gz, 0, none⟩ = false := Z.out.free 0
    rw [hca] at c16
    rw [hma] at c17
    have HK := hidB (show kindO e0.1 = 8 by unfold kindO; rw [hma]; rfl)
    have Z7 := hidB (show Bk (w2.setCell ⟨gz, 0, none⟩ (.int .u8 7)) gz 43 #[.int .u8 7, .float .f64 0, .string ⟨#[]⟩, .int .i64 n] from Z.out.set 0 _)
    have Y7 := hidB (show Bk (w2.setCell ⟨gz, 0, none⟩ (.int .u8 7)) w.heap.size 24 #[(.slice (some ⟨g, o, none⟩) h.length c)] from Y.out.far (by show w.heap.size ≠ gz; have := hgz.out; omega) _)
    have R7 := hidB (show Bk (w2.setCell ⟨gz, 0, none⟩ (.int .u8 7)) (w.heap.size + 1) 43 #[.int .u8 0, .float .f64 0, .string ⟨#[]⟩, .int .i64 0] from R.out.far (by show w.heap.size + 1 ≠ gz; have := hgz.out; omega) _)
    have B7 := hidB (show Below w.heap.size w (w2.setCell ⟨gz, 0, none⟩ (.int .u8 7)) from B.out.setCell (by show w.heap.size ≤ gz; exact hbs.out) _)
    go_upto_region 4 with fail
    clear y0 c16 c17 z0 zf Z Y R B
    generalize (w2.setCell ⟨gz, 0, none⟩ (.int .u8 7)) = w3 at *
    have Z := Z7
    have Y := Y7
    have R := R7
    have B := B7
    clear Z7 Y7 R7 B7
    have y0 : w3.cell? ⟨w.heap.size, 0, none⟩ = some (.slice (some ⟨g, o, none⟩) h.length c) := Y.out.cell 0
    have c16 : w3.cell? ⟨g, o + n * 18 + 16, none⟩ = some (.bool e0.1.ca) := rangeOn B.out HG.out HROW.out 16 _ rfl
    have c17 : w3.cell? ⟨g, o + n * 18 + 17, none⟩ = some (.bool e0.1.ma) := rangeOn B.out HG.out HROW.out 17 _ rfl
    have z0 : w3.cell? ⟨gz, 0, none⟩ = some (.int .u8 7) := Z.out.cell 0
    have zf : w3.frozen? ⟨gz, 0, none⟩ = false := Z.out.free 0
    rw [hca] at c16
    rw [hma] at c17
    have Z8 := hidB (show Bk (w3.setCell ⟨gz, 0, none⟩ (.int .u8 8)) gz 43 #[.int .u8 8, .float .f64 0, .string ⟨#[]⟩, .int .i64 n] from Z.out.set 0 _)
    have Y8 := hidB (show Bk (w3.setCell ⟨gz, 0, none⟩ (.int .u8 8)) w.heap.size 24 #[(.slice (some ⟨g, o, none⟩) h.length c)] from Y.out.far (by show w.heap.size ≠ gz; have := hgz.out; omega) _)
    have R8 := hidB (show Bk (w3.setCell ⟨gz, 0, none⟩ (.int .u8 8)) (w.heap.size + 1) 43 #[.int .u8 0, .float .f64 0, .string ⟨#[]⟩, .int .i64 0] from R.out.far (by show w.heap.size + 1 ≠ gz; have := hgz.out; omega) _)
    have B8 := hidB (show Below w.heap.size w (w3.setCell ⟨gz, 0, none⟩ (.int .u8 8)) from B.out.setCell (by show w.heap.size ≤ gz; exact hbs.out) _)
    go_upto_region 6 with fail
    clear y0 c16 c17 z0 zf Z Y R B
    generalize (w3.setCell ⟨gz, 0, none⟩ (.int .u8 8)) = w4 at *
    have Z := Z8
    have Y := Y8
    have R := R8
    have B := B8
    clear Z8 Y8 R8 B8
    go_wp2_with (first | ((with_reducible refine ldId 43 (.tmp 5) ?_); refine wpList_load_row (by rfl) 43 (.tmp 5) (by rfl) (gz) (by rfl) 43 (#[.int .u8 8, .float .f64 0, .string ⟨#[]⟩, .int .i64 n]) (0, 0) _ (by exact Z.out) Tryz.underlying43 (by rfl) (by kernel_rfl) ?_) | ((with_reducible refine stId 43 (.tmp 4) (.tmp 22) ?_); refine wpList_store_row (by rfl) 43 (.tmp 4) (.tmp 22) (by rfl) (w.heap.size + 1) (#[.int .u8 8, .float .f64 0, .string ⟨#[]⟩, .int .i64 n]) (by rfl) (by rfl) 43 (#[.int .u8 0, .float .f64 0, .string ⟨#[]⟩, .int .i64 0]) (by exact R.out) (by kernel_rfl) (by rfl) (by exact (vi_oneC (VI.mk 8 0 ⟨#[]⟩ n))) ?_))
    exact bodyPost_ret (v := .agg (#[.int .u8 8, .float .f64 0, .string ⟨#[]⟩, .int .i64 n])) (results_cell_row Tryz.results23 _ _ (w.heap.size + 1) 43 (#[.int .u8 8, .float .f64 0, .string ⟨#[]⟩, .int .i64 n]) (0, 0) _ rfl (R.out.setRow _) Tryz.underlying43 rfl (by kernel_rfl)) rfl (⟨by show Ending.returned (Value.agg #[.int .u8 8, .float .f64 0, .string ⟨#[]⟩, .int .i64 n]) = .returned (namedI e0.1 n).a; unfold namedI; rw [HK.out], below_setRow B.out (Nat.le_succ _) _⟩)
set_option maxHeartbeats 8000000 in
set_option maxRecDepth 100000 in
theorem asked_chain (h : HI) (hok : HOk h) (hk : HKeys h) (hv : Value) (ns : List Int) (hns : ns.length ≤ 4096) (w : World) (hr : RdH h hv w) (gn : Nat) (hgn : Bk w gn 3 (intsC ns)) : Calls Tryz.prog 21 #[.agg #[hv], .slice (some ⟨gn, 0, none⟩) ns.length ns.length] w fun e w' => e = .returned (.int .i64 (askE h ns)) ∧ Below w.heap.size w w' := by
  have CHK := hidB (fun W hr => chk_any h hok hk hv W hr)
  have HRD := hidB (fun W (hb : Below w.heap.size w W) => hr.on hb)
  have NB := hidB (fun W (hb : Below w.heap.size w W) => hgn.on hb)
  obtain ⟨⟨pa, c, rfl, h1, h2, _⟩, _⟩ := hr
  unfold maxLen at h2
  have hlm : h.length ≤ 9223372036854775807 := by omega
  clear hok hk hgn h1 h2
  have Y := hidB (show Bk (w.alloc (.cells (#[(.slice pa h.length c)]) 24)) (w.heap.size) 24 (#[(.slice pa h.length c)]) from Bk.new w _ _)
  have B := hidB (show Below w.heap.size w (w.alloc (.cells (#[(.slice pa h.length c)]) 24)) from box_one w _)
  go_enter Tryz.func21, Tryz.ntmps21
  go_upto_region 1 with fail
  generalize hW : (w.alloc (.cells (#[(.slice pa h.length c)]) 24)) = w1 at *
  clear hW
  go_wp2_with (first | ((with_reducible refine ldId 24 (.tmp 2) ?_); refine wpList_load_row (by rfl) 24 (.tmp 2) (by rfl) (w.heap.size) (by rfl) 24 (#[(.slice pa h.length c)]) (0, 0) _ (by exact Y.out) Tryz.underlying24 (by rfl) (by kernel_rfl) ?_))
  refine (CHK.out _ (HRD.out _ B.out)).mono ?_; rintro e w2 ⟨rfl, hb⟩
  replace Y := hidB (Y.out.on hb)
  replace B := hidB (B.out.trans (hb.mono B.out.size))
  clear hb CHK HRD
  obtain ⟨ck, hck⟩ : ∃ ck, chkH h = ck := ⟨_, rfl⟩
  have HCK := hidB hck
  rw [hck]
  clear hck
  by_cases h0 : ck = 0
  rotate_left
  · have h0b : (ck == 0) = false := by rw [beq_eq_false_iff_ne]; exact h0
    have h0n : (ck != 0) = true := by rw [bne, h0b]; rfl
    have HQ := hidB (show askE h ns = ck by unfold askE; rw [HCK.out, if_neg h0])
    clear h0
    go_wp2_with fail
    go_ret
    exact ⟨by rw [HQ.out]; rfl, B.out⟩
  subst h0
  have HQ := hidB (show askE h ns = if ns.all (fun n => decide (0 ≤ n) && decide (n < (h.length : Int))) then 0 else 2 by unfold askE; rw [HCK.out, if_pos rfl])
  have HNL := hidB hns
  have hns2 : ns.length ≤ 9223372036854775807 := by omega
  clear hns
  go_wp2_with fail
  go_loopg [15] ns.length (fun n s15 wr => ∃ i : Nat, n = ns.length - i ∧ i ≤ ns.length ∧ s15 = .int .i64 i ∧ (∀ j (hj : j < ns.length), j < i → (decide (0 ≤ ns[j]) && decide (ns[j] < (h.length : Int))) = true) ∧ Bk wr w.heap.size 24 #[(.slice pa h.length c)] ∧ Below w.heap.size w wr)
  case atStart => exact ⟨0, rfl, Nat.zero_le _, rfl, fun j _ hj => absurd hj (by omega), Y.out, B.out⟩
  case round =>
    clear Y B
    obtain ⟨i, rfl, hi, rfl, hal, hY, hb⟩ := hrel
    have Y := hidB hY
    have B := hidB hb
    have HAL := hidB hal
    clear hY hb hal
    have hi0 : (0 : Int) ≤ (i : Int) := by omega
    by_cases hlt : i < ns.length
    rotate_left
    · obtain rfl : i = ns.length := by omega
      have hx4 : ¬ ((ns.length : Int) < (ns.length : Int)) := by omega
      have HR := hidB (HQ.out.trans (if_pos (List.all_eq_true.2 (fun n hn => by obtain ⟨j, hj, rfl⟩ := List.mem_iff_getElem.1 hn; exact HAL.out j hj hj))))
      go_wp2_with fail
      go_ret
      exact ⟨by rw [HR.out]; rfl, B.out⟩
    have hi1 : (i : Int) < (ns.length : Int) := by omega
    have n0 : wr.cell? ⟨gn, i, none⟩ = some (.int .i64 ns[i]) := ((NB.out _ B.out).cell i).trans (by unfold intsC; simp [hlt])
    have y0 : wr.cell? ⟨w.heap.size, 0, none⟩ = some (.slice pa h.length c) := Y.out.cell 0
    have HBAD := hidB (fun (hb : (decide (0 ≤ ns[i]) && decide (ns[i] < (h.length : Int))) = false) => HQ.out.trans (if_neg (fun ha => by have := List.all_eq_true.1 ha ns[i] (List.getElem_mem hlt); rw [hb] at this; cases this)))
    have HST := hidB (fun (hg : (decide (0 ≤ ns[i]) && decide (ns[i] < (h.length : Int))) = true) => (fun j (hj : j < ns.length) (hji : j < i + 1) => (Nat.lt_succ_iff_lt_or_eq.1 hji).elim (fun a => HAL.out j hj a) (fun a => by subst a; exact hg)))
    generalize ns[i] = m at *
    by_cases h0 : m < 0
    · have HR := hidB (HBAD.out (by rw [decide_eq_false (by omega)]; rfl))
      go_wp2_with fail
      go_ret
      exact ⟨by rw [HR.out]; rfl, B.out⟩
    have hm0 : 0 ≤ m := by omega
    by_cases h1 : (h.length : Int) ≤ m
    · have HR := hidB (HBAD.out (by rw [decide_eq_false (by omega : ¬ m < (h.length : Int)), Bool.and_false]))
      go_wp2_with fail
      go_ret
      exact ⟨by rw [HR.out]; rfl, B.out⟩
    have HS2 := hidB (HST.out (by rw [decide_eq_true hm0, decide_eq_true (by omega : m < (h.length : Int))]; rfl))
    go_wp2_with fail
    go_roundg (ns.length - (i + 1))
    case measure => omega
    case rel => exact ⟨i + 1, rfl, by omega, by go_num, HS2.out, Y.out, B.out⟩

end Go.Proofs.YtnidamkgfgddfaaGreat
