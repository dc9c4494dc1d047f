/-
  Is an answer well? The walk of post.well.
-/
import Derived.Test.YtlpldhcoplbopaaPostListed
namespace Go.Proofs.Ytlpldhcoplbopaa
open Go.RowKit

theorem Bk.new3 (w : World) (o p : Obj) (t : TypeId) (cs : Array Value) : Bk (((w.alloc o).alloc p).alloc (.cells cs t)) (w.heap.size + 1 + 1) t cs := by
  have h := Bk.new2 (w.alloc o) p t cs
  rwa [show (w.alloc o).heap.size = w.heap.size + 1 by simp] at h

set_option maxHeartbeats 8000000 in
set_option maxRecDepth 100000 in
theorem well_1 (a : AI) (x : OI) (f : FI) (hm : a.m = 1) (h0 : 0 ≤ x.v.k) (w : World) : Calls Try.prog 26 #[a.a, x.a, f.a] w fun e w' => e = .returned (.bool (x.v.proto && (f.ext || x.v.same f.pr))) ∧ Below w.heap.size w w' := by
  have PA := hidB (fun W => proto_any x.v h0 W)
  have SA : Hid (∀ W, Calls Try.prog 16 #[x.v.a, f.pr.a] W fun e w' => e = .returned (.bool (x.v.same f.pr)) ∧ Below W.heap.size W w') := hidB (fun W => same_any x.v.k x.v.x x.v.s x.v.r f.pr.k f.pr.x f.pr.s f.pr.r h0 W)
  clear h0
  generalize x.v.proto = q at *
  generalize x.v.same f.pr = sm at *
  have H_m := hidB hm
  clear hm
  have A1 := hidB (show Bk (((w.alloc (.cells a.cs 35)).alloc (.cells x.cs 38)).alloc (.cells f.cs 48)) (w.heap.size) 35 a.cs from ((Bk.new w _ _).alloc _).alloc _)
  have X1 := hidB (show Bk (((w.alloc (.cells a.cs 35)).alloc (.cells x.cs 38)).alloc (.cells f.cs 48)) (w.heap.size + 1) 38 x.cs from (Bk.new2 w _ _ _).alloc _)
  have F1 := hidB (show Bk (((w.alloc (.cells a.cs 35)).alloc (.cells x.cs 38)).alloc (.cells f.cs 48)) (w.heap.size + 1 + 1) 48 f.cs from Bk.new3 w _ _ _ _)
  have B1 := hidB (show Below w.heap.size w (((w.alloc (.cells a.cs 35)).alloc (.cells x.cs 38)).alloc (.cells f.cs 48)) from ((box_one w _).alloc (by simp) _).alloc (by simp; omega) _)
  generalize h_ext : f.ext = l_ext at *
  have H_ext := hidB h_ext
  clear h_ext
  cases q
  · skip
    go_enter Try.func26, Try.ntmps26
    go_upto_region 1 with fail
    generalize (((w.alloc (.cells a.cs 35)).alloc (.cells x.cs 38)).alloc (.cells f.cs 48)) = w1 at *
    have z_m : w1.cell? ⟨w.heap.size, 0, none⟩ = some (.int .u8 a.m) := A1.out.cell 0
    rw [H_m.out] at z_m
    have z_ext : w1.cell? ⟨w.heap.size + 1 + 1, 0, none⟩ = some (.bool f.ext) := F1.out.cell 0
    rw [H_ext.out] at z_ext
    go_wp2_with (first | ((with_reducible refine ldId 30 (.tmp 13) ?_); refine wpList_load_mid (by rfl) 30 (.tmp 13) (by rfl) (w.heap.size + 1) 1 (by rfl) (x.v.cells) _ (by exact Bk.mid X1.out 1 _ rfl) Try.underlying30 (by rfl) (by kernel_rfl) ?_))
    refine (PA.out _).mono ?_; rintro e w2 ⟨rfl, hb⟩
    have A2 := hidB (A1.out.on hb)
    have X2 := hidB (X1.out.on hb)
    have F2 := hidB (F1.out.on hb)
    have B2 := hidB (B1.out.trans (hb.mono B1.out.size))
    clear hb A1 X1 F1 B1 z_m z_ext
    have z_m : w2.cell? ⟨w.heap.size, 0, none⟩ = some (.int .u8 a.m) := A2.out.cell 0
    rw [H_m.out] at z_m
    have z_ext : w2.cell? ⟨w.heap.size + 1 + 1, 0, none⟩ = some (.bool f.ext) := F2.out.cell 0
    rw [H_ext.out] at z_ext
    go_wp2_with fail
    go_ret
    exact ⟨ret_bool (by first | rfl | (simp [*]; done)), B2.out⟩
  · skip
    cases l_ext
    · skip
      go_enter Try.func26, Try.ntmps26
      go_upto_region 1 with fail
      generalize (((w.alloc (.cells a.cs 35)).alloc (.cells x.cs 38)).alloc (.cells f.cs 48)) = w1 at *
      have z_m : w1.cell? ⟨w.heap.size, 0, none⟩ = some (.int .u8 a.m) := A1.out.cell 0
      rw [H_m.out] at z_m
      have z_ext : w1.cell? ⟨w.heap.size + 1 + 1, 0, none⟩ = some (.bool f.ext) := F1.out.cell 0
      rw [H_ext.out] at z_ext
      go_wp2_with (first | ((with_reducible refine ldId 30 (.tmp 13) ?_); refine wpList_load_mid (by rfl) 30 (.tmp 13) (by rfl) (w.heap.size + 1) 1 (by rfl) (x.v.cells) _ (by exact Bk.mid X1.out 1 _ rfl) Try.underlying30 (by rfl) (by kernel_rfl) ?_))
      refine (PA.out _).mono ?_; rintro e w2 ⟨rfl, hb⟩
      have A2 := hidB (A1.out.on hb)
      have X2 := hidB (X1.out.on hb)
      have F2 := hidB (F1.out.on hb)
      have B2 := hidB (B1.out.trans (hb.mono B1.out.size))
      clear hb A1 X1 F1 B1 z_m z_ext
      have z_m : w2.cell? ⟨w.heap.size, 0, none⟩ = some (.int .u8 a.m) := A2.out.cell 0
      rw [H_m.out] at z_m
      have z_ext : w2.cell? ⟨w.heap.size + 1 + 1, 0, none⟩ = some (.bool f.ext) := F2.out.cell 0
      rw [H_ext.out] at z_ext
      go_wp2_with (first | ((with_reducible refine ldId 30 (.tmp 20) ?_); refine wpList_wload_mid 30 (.tmp 20) (by rfl) (by rfl) (w.heap.size + 1) 1 (by rfl) (x.v.cells) _ (by exact Bk.mid X2.out 1 _ rfl) Try.underlying30 (by rfl) (by kernel_rfl) ?_) | ((with_reducible refine ldId 30 (.tmp 22) ?_); refine wpList_wload_mid 30 (.tmp 22) (by rfl) (by rfl) (w.heap.size + 1 + 1) 1 (by rfl) (f.pr.cells) _ (by exact Bk.mid F2.out 1 _ rfl) Try.underlying30 (by rfl) (by kernel_rfl) ?_))
      refine (SA.out _).mono ?_; rintro e w3 ⟨rfl, hb⟩
      have A3 := hidB (A2.out.on hb)
      have X3 := hidB (X2.out.on hb)
      have F3 := hidB (F2.out.on hb)
      have B3 := hidB (B2.out.trans (hb.mono B2.out.size))
      clear hb A2 X2 F2 B2 z_m z_ext
      have z_m : w3.cell? ⟨w.heap.size, 0, none⟩ = some (.int .u8 a.m) := A3.out.cell 0
      rw [H_m.out] at z_m
      have z_ext : w3.cell? ⟨w.heap.size + 1 + 1, 0, none⟩ = some (.bool f.ext) := F3.out.cell 0
      rw [H_ext.out] at z_ext
      go_wp2_with fail
      go_ret
      exact ⟨ret_bool (by first | rfl | (simp [*]; done)), B3.out⟩
    · skip
      go_enter Try.func26, Try.ntmps26
      go_upto_region 1 with fail
      generalize (((w.alloc (.cells a.cs 35)).alloc (.cells x.cs 38)).alloc (.cells f.cs 48)) = w1 at *
      have z_m : w1.cell? ⟨w.heap.size, 0, none⟩ = some (.int .u8 a.m) := A1.out.cell 0
      rw [H_m.out] at z_m
      have z_ext : w1.cell? ⟨w.heap.size + 1 + 1, 0, none⟩ = some (.bool f.ext) := F1.out.cell 0
      rw [H_ext.out] at z_ext
      go_wp2_with (first | ((with_reducible refine ldId 30 (.tmp 13) ?_); refine wpList_load_mid (by rfl) 30 (.tmp 13) (by rfl) (w.heap.size + 1) 1 (by rfl) (x.v.cells) _ (by exact Bk.mid X1.out 1 _ rfl) Try.underlying30 (by rfl) (by kernel_rfl) ?_))
      refine (PA.out _).mono ?_; rintro e w2 ⟨rfl, hb⟩
      have A2 := hidB (A1.out.on hb)
      have X2 := hidB (X1.out.on hb)
      have F2 := hidB (F1.out.on hb)
      have B2 := hidB (B1.out.trans (hb.mono B1.out.size))
      clear hb A1 X1 F1 B1 z_m z_ext
      have z_m : w2.cell? ⟨w.heap.size, 0, none⟩ = some (.int .u8 a.m) := A2.out.cell 0
      rw [H_m.out] at z_m
      have z_ext : w2.cell? ⟨w.heap.size + 1 + 1, 0, none⟩ = some (.bool f.ext) := F2.out.cell 0
      rw [H_ext.out] at z_ext
      go_wp2_with fail
      go_ret
      exact ⟨ret_bool (by first | rfl | (simp [*]; done)), B2.out⟩

set_option maxHeartbeats 8000000 in
set_option maxRecDepth 100000 in
theorem well_2 (a : AI) (x : OI) (f : FI) (hm : a.m = 2) (h0 : 0 ≤ a.v.k) (w : World) : Calls Try.prog 26 #[a.a, x.a, f.a] w fun e w' => e = .returned (.bool (!x.b || (f.ext || a.v.same f.pr))) ∧ Below w.heap.size w w' := by
  have SA : Hid (∀ W, Calls Try.prog 16 #[a.v.a, f.pr.a] W fun e w' => e = .returned (.bool (a.v.same f.pr)) ∧ Below W.heap.size W w') := hidB (fun W => same_any a.v.k a.v.x a.v.s a.v.r f.pr.k f.pr.x f.pr.s f.pr.r h0 W)
  clear h0
  generalize a.v.same f.pr = sm at *
  have H_m := hidB hm
  clear hm
  have A1 := hidB (show Bk (((w.alloc (.cells a.cs 35)).alloc (.cells x.cs 38)).alloc (.cells f.cs 48)) (w.heap.size) 35 a.cs from ((Bk.new w _ _).alloc _).alloc _)
  have X1 := hidB (show Bk (((w.alloc (.cells a.cs 35)).alloc (.cells x.cs 38)).alloc (.cells f.cs 48)) (w.heap.size + 1) 38 x.cs from (Bk.new2 w _ _ _).alloc _)
  have F1 := hidB (show Bk (((w.alloc (.cells a.cs 35)).alloc (.cells x.cs 38)).alloc (.cells f.cs 48)) (w.heap.size + 1 + 1) 48 f.cs from Bk.new3 w _ _ _ _)
  have B1 := hidB (show Below w.heap.size w (((w.alloc (.cells a.cs 35)).alloc (.cells x.cs 38)).alloc (.cells f.cs 48)) from ((box_one w _).alloc (by simp) _).alloc (by simp; omega) _)
  generalize h_b : x.b = l_b at *
  have H_b := hidB h_b
  clear h_b
  generalize h_ext : f.ext = l_ext at *
  have H_ext := hidB h_ext
  clear h_ext
  cases l_b
  · skip
    go_enter Try.func26, Try.ntmps26
    go_upto_region 1 with fail
    generalize (((w.alloc (.cells a.cs 35)).alloc (.cells x.cs 38)).alloc (.cells f.cs 48)) = w1 at *
    have z_m : w1.cell? ⟨w.heap.size, 0, none⟩ = some (.int .u8 a.m) := A1.out.cell 0
    rw [H_m.out] at z_m
    have z_b : w1.cell? ⟨w.heap.size + 1, 5, none⟩ = some (.bool x.b) := X1.out.cell 5
    rw [H_b.out] at z_b
    have z_ext : w1.cell? ⟨w.heap.size + 1 + 1, 0, none⟩ = some (.bool f.ext) := F1.out.cell 0
    rw [H_ext.out] at z_ext
    go_wp2_with fail
    go_ret
    exact ⟨ret_bool (by first | rfl | (simp [*]; done)), B1.out⟩
  · skip
    cases l_ext
    · skip
      go_enter Try.func26, Try.ntmps26
      go_upto_region 1 with fail
      generalize (((w.alloc (.cells a.cs 35)).alloc (.cells x.cs 38)).alloc (.cells f.cs 48)) = w1 at *
      have z_m : w1.cell? ⟨w.heap.size, 0, none⟩ = some (.int .u8 a.m) := A1.out.cell 0
      rw [H_m.out] at z_m
      have z_b : w1.cell? ⟨w.heap.size + 1, 5, none⟩ = some (.bool x.b) := X1.out.cell 5
      rw [H_b.out] at z_b
      have z_ext : w1.cell? ⟨w.heap.size + 1 + 1, 0, none⟩ = some (.bool f.ext) := F1.out.cell 0
      rw [H_ext.out] at z_ext
      go_wp2_with (first | ((with_reducible refine ldId 30 (.tmp 37) ?_); refine wpList_wload_mid 30 (.tmp 37) (by rfl) (by rfl) (w.heap.size) 20 (by rfl) (a.v.cells) _ (by exact Bk.mid A1.out 20 _ rfl) Try.underlying30 (by rfl) (by kernel_rfl) ?_) | ((with_reducible refine ldId 30 (.tmp 39) ?_); refine wpList_wload_mid 30 (.tmp 39) (by rfl) (by rfl) (w.heap.size + 1 + 1) 1 (by rfl) (f.pr.cells) _ (by exact Bk.mid F1.out 1 _ rfl) Try.underlying30 (by rfl) (by kernel_rfl) ?_))
      refine (SA.out _).mono ?_; rintro e w2 ⟨rfl, hb⟩
      have A2 := hidB (A1.out.on hb)
      have X2 := hidB (X1.out.on hb)
      have F2 := hidB (F1.out.on hb)
      have B2 := hidB (B1.out.trans (hb.mono B1.out.size))
      clear hb A1 X1 F1 B1 z_m z_b z_ext
      have z_m : w2.cell? ⟨w.heap.size, 0, none⟩ = some (.int .u8 a.m) := A2.out.cell 0
      rw [H_m.out] at z_m
      have z_b : w2.cell? ⟨w.heap.size + 1, 5, none⟩ = some (.bool x.b) := X2.out.cell 5
      rw [H_b.out] at z_b
      have z_ext : w2.cell? ⟨w.heap.size + 1 + 1, 0, none⟩ = some (.bool f.ext) := F2.out.cell 0
      rw [H_ext.out] at z_ext
      go_wp2_with fail
      go_ret
      exact ⟨ret_bool (by first | rfl | (simp [*]; done)), B2.out⟩
    · skip
      go_enter Try.func26, Try.ntmps26
      go_upto_region 1 with fail
      generalize (((w.alloc (.cells a.cs 35)).alloc (.cells x.cs 38)).alloc (.cells f.cs 48)) = w1 at *
      have z_m : w1.cell? ⟨w.heap.size, 0, none⟩ = some (.int .u8 a.m) := A1.out.cell 0
      rw [H_m.out] at z_m
      have z_b : w1.cell? ⟨w.heap.size + 1, 5, none⟩ = some (.bool x.b) := X1.out.cell 5
      rw [H_b.out] at z_b
      have z_ext : w1.cell? ⟨w.heap.size + 1 + 1, 0, none⟩ = some (.bool f.ext) := F1.out.cell 0
      rw [H_ext.out] at z_ext
      go_wp2_with fail
      go_ret
      exact ⟨ret_bool (by first | rfl | (simp [*]; done)), B1.out⟩

set_option maxHeartbeats 8000000 in
set_option maxRecDepth 100000 in
theorem well_3 (a : AI) (x : OI) (f : FI) (hm : a.m = 3)  (w : World) : Calls Try.prog 26 #[a.a, x.a, f.a] w fun e w' => e = .returned (.bool (x.b == f.ext)) ∧ Below w.heap.size w w' := by
  have H_m := hidB hm
  clear hm
  have A1 := hidB (show Bk (((w.alloc (.cells a.cs 35)).alloc (.cells x.cs 38)).alloc (.cells f.cs 48)) (w.heap.size) 35 a.cs from ((Bk.new w _ _).alloc _).alloc _)
  have X1 := hidB (show Bk (((w.alloc (.cells a.cs 35)).alloc (.cells x.cs 38)).alloc (.cells f.cs 48)) (w.heap.size + 1) 38 x.cs from (Bk.new2 w _ _ _).alloc _)
  have F1 := hidB (show Bk (((w.alloc (.cells a.cs 35)).alloc (.cells x.cs 38)).alloc (.cells f.cs 48)) (w.heap.size + 1 + 1) 48 f.cs from Bk.new3 w _ _ _ _)
  have B1 := hidB (show Below w.heap.size w (((w.alloc (.cells a.cs 35)).alloc (.cells x.cs 38)).alloc (.cells f.cs 48)) from ((box_one w _).alloc (by simp) _).alloc (by simp; omega) _)
  generalize h_b : x.b = l_b at *
  have H_b := hidB h_b
  clear h_b
  generalize h_ext : f.ext = l_ext at *
  have H_ext := hidB h_ext
  clear h_ext
  cases l_b
  · skip
    cases l_ext
    · skip
      go_enter Try.func26, Try.ntmps26
      go_upto_region 1 with fail
      generalize (((w.alloc (.cells a.cs 35)).alloc (.cells x.cs 38)).alloc (.cells f.cs 48)) = w1 at *
      have z_m : w1.cell? ⟨w.heap.size, 0, none⟩ = some (.int .u8 a.m) := A1.out.cell 0
      rw [H_m.out] at z_m
      have z_b : w1.cell? ⟨w.heap.size + 1, 5, none⟩ = some (.bool x.b) := X1.out.cell 5
      rw [H_b.out] at z_b
      have z_ext : w1.cell? ⟨w.heap.size + 1 + 1, 0, none⟩ = some (.bool f.ext) := F1.out.cell 0
      rw [H_ext.out] at z_ext
      go_wp2_with fail
      go_ret
      exact ⟨ret_bool (by first | rfl | (simp [*]; done)), B1.out⟩
    · skip
      go_enter Try.func26, Try.ntmps26
      go_upto_region 1 with fail
      generalize (((w.alloc (.cells a.cs 35)).alloc (.cells x.cs 38)).alloc (.cells f.cs 48)) = w1 at *
      have z_m : w1.cell? ⟨w.heap.size, 0, none⟩ = some (.int .u8 a.m) := A1.out.cell 0
      rw [H_m.out] at z_m
      have z_b : w1.cell? ⟨w.heap.size + 1, 5, none⟩ = some (.bool x.b) := X1.out.cell 5
      rw [H_b.out] at z_b
      have z_ext : w1.cell? ⟨w.heap.size + 1 + 1, 0, none⟩ = some (.bool f.ext) := F1.out.cell 0
      rw [H_ext.out] at z_ext
      go_wp2_with fail
      go_ret
      exact ⟨ret_bool (by first | rfl | (simp [*]; done)), B1.out⟩
  · skip
    cases l_ext
    · skip
      go_enter Try.func26, Try.ntmps26
      go_upto_region 1 with fail
      generalize (((w.alloc (.cells a.cs 35)).alloc (.cells x.cs 38)).alloc (.cells f.cs 48)) = w1 at *
      have z_m : w1.cell? ⟨w.heap.size, 0, none⟩ = some (.int .u8 a.m) := A1.out.cell 0
      rw [H_m.out] at z_m
      have z_b : w1.cell? ⟨w.heap.size + 1, 5, none⟩ = some (.bool x.b) := X1.out.cell 5
      rw [H_b.out] at z_b
      have z_ext : w1.cell? ⟨w.heap.size + 1 + 1, 0, none⟩ = some (.bool f.ext) := F1.out.cell 0
      rw [H_ext.out] at z_ext
      go_wp2_with fail
      go_ret
      exact ⟨ret_bool (by first | rfl | (simp [*]; done)), B1.out⟩
    · skip
      go_enter Try.func26, Try.ntmps26
      go_upto_region 1 with fail
      generalize (((w.alloc (.cells a.cs 35)).alloc (.cells x.cs 38)).alloc (.cells f.cs 48)) = w1 at *
      have z_m : w1.cell? ⟨w.heap.size, 0, none⟩ = some (.int .u8 a.m) := A1.out.cell 0
      rw [H_m.out] at z_m
      have z_b : w1.cell? ⟨w.heap.size + 1, 5, none⟩ = some (.bool x.b) := X1.out.cell 5
      rw [H_b.out] at z_b
      have z_ext : w1.cell? ⟨w.heap.size + 1 + 1, 0, none⟩ = some (.bool f.ext) := F1.out.cell 0
      rw [H_ext.out] at z_ext
      go_wp2_with fail
      go_ret
      exact ⟨ret_bool (by first | rfl | (simp [*]; done)), B1.out⟩

set_option maxHeartbeats 8000000 in
set_option maxRecDepth 100000 in
theorem well_4 (a : AI) (x : OI) (f : FI) (hm : a.m = 4)  (w : World) : Calls Try.prog 26 #[a.a, x.a, f.a] w fun e w' => e = .returned (.bool (!x.b || !f.ext)) ∧ Below w.heap.size w w' := by
  have H_m := hidB hm
  clear hm
  have A1 := hidB (show Bk (((w.alloc (.cells a.cs 35)).alloc (.cells x.cs 38)).alloc (.cells f.cs 48)) (w.heap.size) 35 a.cs from ((Bk.new w _ _).alloc _).alloc _)
  have X1 := hidB (show Bk (((w.alloc (.cells a.cs 35)).alloc (.cells x.cs 38)).alloc (.cells f.cs 48)) (w.heap.size + 1) 38 x.cs from (Bk.new2 w _ _ _).alloc _)
  have F1 := hidB (show Bk (((w.alloc (.cells a.cs 35)).alloc (.cells x.cs 38)).alloc (.cells f.cs 48)) (w.heap.size + 1 + 1) 48 f.cs from Bk.new3 w _ _ _ _)
  have B1 := hidB (show Below w.heap.size w (((w.alloc (.cells a.cs 35)).alloc (.cells x.cs 38)).alloc (.cells f.cs 48)) from ((box_one w _).alloc (by simp) _).alloc (by simp; omega) _)
  generalize h_b : x.b = l_b at *
  have H_b := hidB h_b
  clear h_b
  generalize h_ext : f.ext = l_ext at *
  have H_ext := hidB h_ext
  clear h_ext
  cases l_b
  · skip
    go_enter Try.func26, Try.ntmps26
    go_upto_region 1 with fail
    generalize (((w.alloc (.cells a.cs 35)).alloc (.cells x.cs 38)).alloc (.cells f.cs 48)) = w1 at *
    have z_m : w1.cell? ⟨w.heap.size, 0, none⟩ = some (.int .u8 a.m) := A1.out.cell 0
    rw [H_m.out] at z_m
    have z_b : w1.cell? ⟨w.heap.size + 1, 5, none⟩ = some (.bool x.b) := X1.out.cell 5
    rw [H_b.out] at z_b
    have z_ext : w1.cell? ⟨w.heap.size + 1 + 1, 0, none⟩ = some (.bool f.ext) := F1.out.cell 0
    rw [H_ext.out] at z_ext
    go_wp2_with fail
    go_ret
    exact ⟨ret_bool (by first | rfl | (simp [*]; done)), B1.out⟩
  · skip
    cases l_ext
    · skip
      go_enter Try.func26, Try.ntmps26
      go_upto_region 1 with fail
      generalize (((w.alloc (.cells a.cs 35)).alloc (.cells x.cs 38)).alloc (.cells f.cs 48)) = w1 at *
      have z_m : w1.cell? ⟨w.heap.size, 0, none⟩ = some (.int .u8 a.m) := A1.out.cell 0
      rw [H_m.out] at z_m
      have z_b : w1.cell? ⟨w.heap.size + 1, 5, none⟩ = some (.bool x.b) := X1.out.cell 5
      rw [H_b.out] at z_b
      have z_ext : w1.cell? ⟨w.heap.size + 1 + 1, 0, none⟩ = some (.bool f.ext) := F1.out.cell 0
      rw [H_ext.out] at z_ext
      go_wp2_with fail
      go_ret
      exact ⟨ret_bool (by first | rfl | (simp [*]; done)), B1.out⟩
    · skip
      go_enter Try.func26, Try.ntmps26
      go_upto_region 1 with fail
      generalize (((w.alloc (.cells a.cs 35)).alloc (.cells x.cs 38)).alloc (.cells f.cs 48)) = w1 at *
      have z_m : w1.cell? ⟨w.heap.size, 0, none⟩ = some (.int .u8 a.m) := A1.out.cell 0
      rw [H_m.out] at z_m
      have z_b : w1.cell? ⟨w.heap.size + 1, 5, none⟩ = some (.bool x.b) := X1.out.cell 5
      rw [H_b.out] at z_b
      have z_ext : w1.cell? ⟨w.heap.size + 1 + 1, 0, none⟩ = some (.bool f.ext) := F1.out.cell 0
      rw [H_ext.out] at z_ext
      go_wp2_with fail
      go_ret
      exact ⟨ret_bool (by first | rfl | (simp [*]; done)), B1.out⟩

set_option maxHeartbeats 8000000 in
set_option maxRecDepth 100000 in
theorem well_7 (a : AI) (x : OI) (f : FI) (hm : a.m = 7)  (w : World) : Calls Try.prog 26 #[a.a, x.a, f.a] w fun e w' => e = .returned (.bool (x.b || (!f.fo || (f.d.cf && f.ext)))) ∧ Below w.heap.size w w' := by
  have H_m := hidB hm
  clear hm
  have A1 := hidB (show Bk (((w.alloc (.cells a.cs 35)).alloc (.cells x.cs 38)).alloc (.cells f.cs 48)) (w.heap.size) 35 a.cs from ((Bk.new w _ _).alloc _).alloc _)
  have X1 := hidB (show Bk (((w.alloc (.cells a.cs 35)).alloc (.cells x.cs 38)).alloc (.cells f.cs 48)) (w.heap.size + 1) 38 x.cs from (Bk.new2 w _ _ _).alloc _)
  have F1 := hidB (show Bk (((w.alloc (.cells a.cs 35)).alloc (.cells x.cs 38)).alloc (.cells f.cs 48)) (w.heap.size + 1 + 1) 48 f.cs from Bk.new3 w _ _ _ _)
  have B1 := hidB (show Below w.heap.size w (((w.alloc (.cells a.cs 35)).alloc (.cells x.cs 38)).alloc (.cells f.cs 48)) from ((box_one w _).alloc (by simp) _).alloc (by simp; omega) _)
  generalize h_b : x.b = l_b at *
  have H_b := hidB h_b
  clear h_b
  generalize h_ff : f.fo = l_ff at *
  have H_ff := hidB h_ff
  clear h_ff
  generalize h_cf : f.d.cf = l_cf at *
  have H_cf := hidB h_cf
  clear h_cf
  generalize h_ext : f.ext = l_ext at *
  have H_ext := hidB h_ext
  clear h_ext
  cases l_b
  · skip
    cases l_ff
    · skip
      go_enter Try.func26, Try.ntmps26
      go_upto_region 1 with fail
      generalize (((w.alloc (.cells a.cs 35)).alloc (.cells x.cs 38)).alloc (.cells f.cs 48)) = w1 at *
      have z_m : w1.cell? ⟨w.heap.size, 0, none⟩ = some (.int .u8 a.m) := A1.out.cell 0
      rw [H_m.out] at z_m
      have z_b : w1.cell? ⟨w.heap.size + 1, 5, none⟩ = some (.bool x.b) := X1.out.cell 5
      rw [H_b.out] at z_b
      have z_ff : w1.cell? ⟨w.heap.size + 1 + 1, 5, none⟩ = some (.bool f.fo) := F1.out.cell 5
      rw [H_ff.out] at z_ff
      have z_cf : w1.cell? ⟨w.heap.size + 1 + 1, 21, none⟩ = some (.bool f.d.cf) := F1.out.cell 21
      rw [H_cf.out] at z_cf
      have z_ext : w1.cell? ⟨w.heap.size + 1 + 1, 0, none⟩ = some (.bool f.ext) := F1.out.cell 0
      rw [H_ext.out] at z_ext
      go_wp2_with fail
      go_ret
      exact ⟨ret_bool (by first | rfl | (simp [*]; done)), B1.out⟩
    · skip
      cases l_cf
      · skip
        go_enter Try.func26, Try.ntmps26
        go_upto_region 1 with fail
        generalize (((w.alloc (.cells a.cs 35)).alloc (.cells x.cs 38)).alloc (.cells f.cs 48)) = w1 at *
        have z_m : w1.cell? ⟨w.heap.size, 0, none⟩ = some (.int .u8 a.m) := A1.out.cell 0
        rw [H_m.out] at z_m
        have z_b : w1.cell? ⟨w.heap.size + 1, 5, none⟩ = some (.bool x.b) := X1.out.cell 5
        rw [H_b.out] at z_b
        have z_ff : w1.cell? ⟨w.heap.size + 1 + 1, 5, none⟩ = some (.bool f.fo) := F1.out.cell 5
        rw [H_ff.out] at z_ff
        have z_cf : w1.cell? ⟨w.heap.size + 1 + 1, 21, none⟩ = some (.bool f.d.cf) := F1.out.cell 21
        rw [H_cf.out] at z_cf
        have z_ext : w1.cell? ⟨w.heap.size + 1 + 1, 0, none⟩ = some (.bool f.ext) := F1.out.cell 0
        rw [H_ext.out] at z_ext
        go_wp2_with fail
        go_ret
        exact ⟨ret_bool (by first | rfl | (simp [*]; done)), B1.out⟩
      · skip
        cases l_ext
        · skip
          go_enter Try.func26, Try.ntmps26
          go_upto_region 1 with fail
          generalize (((w.alloc (.cells a.cs 35)).alloc (.cells x.cs 38)).alloc (.cells f.cs 48)) = w1 at *
          have z_m : w1.cell? ⟨w.heap.size, 0, none⟩ = some (.int .u8 a.m) := A1.out.cell 0
          rw [H_m.out] at z_m
          have z_b : w1.cell? ⟨w.heap.size + 1, 5, none⟩ = some (.bool x.b) := X1.out.cell 5
          rw [H_b.out] at z_b
          have z_ff : w1.cell? ⟨w.heap.size + 1 + 1, 5, none⟩ = some (.bool f.fo) := F1.out.cell 5
          rw [H_ff.out] at z_ff
          have z_cf : w1.cell? ⟨w.heap.size + 1 + 1, 21, none⟩ = some (.bool f.d.cf) := F1.out.cell 21
          rw [H_cf.out] at z_cf
          have z_ext : w1.cell? ⟨w.heap.size + 1 + 1, 0, none⟩ = some (.bool f.ext) := F1.out.cell 0
          rw [H_ext.out] at z_ext
          go_wp2_with fail
          go_ret
          exact ⟨ret_bool (by first | rfl | (simp [*]; done)), B1.out⟩
        · skip
          go_enter Try.func26, Try.ntmps26
          go_upto_region 1 with fail
          generalize (((w.alloc (.cells a.cs 35)).alloc (.cells x.cs 38)).alloc (.cells f.cs 48)) = w1 at *
          have z_m : w1.cell? ⟨w.heap.size, 0, none⟩ = some (.int .u8 a.m) := A1.out.cell 0
          rw [H_m.out] at z_m
          have z_b : w1.cell? ⟨w.heap.size + 1, 5, none⟩ = some (.bool x.b) := X1.out.cell 5
          rw [H_b.out] at z_b
          have z_ff : w1.cell? ⟨w.heap.size + 1 + 1, 5, none⟩ = some (.bool f.fo) := F1.out.cell 5
          rw [H_ff.out] at z_ff
          have z_cf : w1.cell? ⟨w.heap.size + 1 + 1, 21, none⟩ = some (.bool f.d.cf) := F1.out.cell 21
          rw [H_cf.out] at z_cf
          have z_ext : w1.cell? ⟨w.heap.size + 1 + 1, 0, none⟩ = some (.bool f.ext) := F1.out.cell 0
          rw [H_ext.out] at z_ext
          go_wp2_with fail
          go_ret
          exact ⟨ret_bool (by first | rfl | (simp [*]; done)), B1.out⟩
  · skip
    go_enter Try.func26, Try.ntmps26
    go_upto_region 1 with fail
    generalize (((w.alloc (.cells a.cs 35)).alloc (.cells x.cs 38)).alloc (.cells f.cs 48)) = w1 at *
    have z_m : w1.cell? ⟨w.heap.size, 0, none⟩ = some (.int .u8 a.m) := A1.out.cell 0
    rw [H_m.out] at z_m
    have z_b : w1.cell? ⟨w.heap.size + 1, 5, none⟩ = some (.bool x.b) := X1.out.cell 5
    rw [H_b.out] at z_b
    have z_ff : w1.cell? ⟨w.heap.size + 1 + 1, 5, none⟩ = some (.bool f.fo) := F1.out.cell 5
    rw [H_ff.out] at z_ff
    have z_cf : w1.cell? ⟨w.heap.size + 1 + 1, 21, none⟩ = some (.bool f.d.cf) := F1.out.cell 21
    rw [H_cf.out] at z_cf
    have z_ext : w1.cell? ⟨w.heap.size + 1 + 1, 0, none⟩ = some (.bool f.ext) := F1.out.cell 0
    rw [H_ext.out] at z_ext
    go_wp2_with fail
    go_ret
    exact ⟨ret_bool (by first | rfl | (simp [*]; done)), B1.out⟩

set_option maxHeartbeats 8000000 in
set_option maxRecDepth 100000 in
theorem well_10 (a : AI) (x : OI) (f : FI) (hm : a.m = 10)  (w : World) : Calls Try.prog 26 #[a.a, x.a, f.a] w fun e w' => e = .returned (.bool (!x.b || (!f.fo || (f.d.cf && f.ext)))) ∧ Below w.heap.size w w' := by
  have H_m := hidB hm
  clear hm
  have A1 := hidB (show Bk (((w.alloc (.cells a.cs 35)).alloc (.cells x.cs 38)).alloc (.cells f.cs 48)) (w.heap.size) 35 a.cs from ((Bk.new w _ _).alloc _).alloc _)
  have X1 := hidB (show Bk (((w.alloc (.cells a.cs 35)).alloc (.cells x.cs 38)).alloc (.cells f.cs 48)) (w.heap.size + 1) 38 x.cs from (Bk.new2 w _ _ _).alloc _)
  have F1 := hidB (show Bk (((w.alloc (.cells a.cs 35)).alloc (.cells x.cs 38)).alloc (.cells f.cs 48)) (w.heap.size + 1 + 1) 48 f.cs from Bk.new3 w _ _ _ _)
  have B1 := hidB (show Below w.heap.size w (((w.alloc (.cells a.cs 35)).alloc (.cells x.cs 38)).alloc (.cells f.cs 48)) from ((box_one w _).alloc (by simp) _).alloc (by simp; omega) _)
  generalize h_b : x.b = l_b at *
  have H_b := hidB h_b
  clear h_b
  generalize h_ff : f.fo = l_ff at *
  have H_ff := hidB h_ff
  clear h_ff
  generalize h_cf : f.d.cf = l_cf at *
  have H_cf := hidB h_cf
  clear h_cf
  generalize h_ext : f.ext = l_ext at *
  have H_ext := hidB h_ext
  clear h_ext
  cases l_b
  · skip
    go_enter Try.func26, Try.ntmps26
    go_upto_region 1 with fail
    generalize (((w.alloc (.cells a.cs 35)).alloc (.cells x.cs 38)).alloc (.cells f.cs 48)) = w1 at *
    have z_m : w1.cell? ⟨w.heap.size, 0, none⟩ = some (.int .u8 a.m) := A1.out.cell 0
    rw [H_m.out] at z_m
    have z_b : w1.cell? ⟨w.heap.size + 1, 5, none⟩ = some (.bool x.b) := X1.out.cell 5
    rw [H_b.out] at z_b
    have z_ff : w1.cell? ⟨w.heap.size + 1 + 1, 5, none⟩ = some (.bool f.fo) := F1.out.cell 5
    rw [H_ff.out] at z_ff
    have z_cf : w1.cell? ⟨w.heap.size + 1 + 1, 21, none⟩ = some (.bool f.d.cf) := F1.out.cell 21
    rw [H_cf.out] at z_cf
    have z_ext : w1.cell? ⟨w.heap.size + 1 + 1, 0, none⟩ = some (.bool f.ext) := F1.out.cell 0
    rw [H_ext.out] at z_ext
    go_wp2_with fail
    go_ret
    exact ⟨ret_bool (by first | rfl | (simp [*]; done)), B1.out⟩
  · skip
    cases l_ff
    · skip
      go_enter Try.func26, Try.ntmps26
      go_upto_region 1 with fail
      generalize (((w.alloc (.cells a.cs 35)).alloc (.cells x.cs 38)).alloc (.cells f.cs 48)) = w1 at *
      have z_m : w1.cell? ⟨w.heap.size, 0, none⟩ = some (.int .u8 a.m) := A1.out.cell 0
      rw [H_m.out] at z_m
      have z_b : w1.cell? ⟨w.heap.size + 1, 5, none⟩ = some (.bool x.b) := X1.out.cell 5
      rw [H_b.out] at z_b
      have z_ff : w1.cell? ⟨w.heap.size + 1 + 1, 5, none⟩ = some (.bool f.fo) := F1.out.cell 5
      rw [H_ff.out] at z_ff
      have z_cf : w1.cell? ⟨w.heap.size + 1 + 1, 21, none⟩ = some (.bool f.d.cf) := F1.out.cell 21
      rw [H_cf.out] at z_cf
      have z_ext : w1.cell? ⟨w.heap.size + 1 + 1, 0, none⟩ = some (.bool f.ext) := F1.out.cell 0
      rw [H_ext.out] at z_ext
      go_wp2_with fail
      go_ret
      exact ⟨ret_bool (by first | rfl | (simp [*]; done)), B1.out⟩
    · skip
      cases l_cf
      · skip
        go_enter Try.func26, Try.ntmps26
        go_upto_region 1 with fail
        generalize (((w.alloc (.cells a.cs 35)).alloc (.cells x.cs 38)).alloc (.cells f.cs 48)) = w1 at *
        have z_m : w1.cell? ⟨w.heap.size, 0, none⟩ = some (.int .u8 a.m) := A1.out.cell 0
        rw [H_m.out] at z_m
        have z_b : w1.cell? ⟨w.heap.size + 1, 5, none⟩ = some (.bool x.b) := X1.out.cell 5
        rw [H_b.out] at z_b
        have z_ff : w1.cell? ⟨w.heap.size + 1 + 1, 5, none⟩ = some (.bool f.fo) := F1.out.cell 5
        rw [H_ff.out] at z_ff
        have z_cf : w1.cell? ⟨w.heap.size + 1 + 1, 21, none⟩ = some (.bool f.d.cf) := F1.out.cell 21
        rw [H_cf.out] at z_cf
        have z_ext : w1.cell? ⟨w.heap.size + 1 + 1, 0, none⟩ = some (.bool f.ext) := F1.out.cell 0
        rw [H_ext.out] at z_ext
        go_wp2_with fail
        go_ret
        exact ⟨ret_bool (by first | rfl | (simp [*]; done)), B1.out⟩
      · skip
        cases l_ext
        · skip
          go_enter Try.func26, Try.ntmps26
          go_upto_region 1 with fail
          generalize (((w.alloc (.cells a.cs 35)).alloc (.cells x.cs 38)).alloc (.cells f.cs 48)) = w1 at *
          have z_m : w1.cell? ⟨w.heap.size, 0, none⟩ = some (.int .u8 a.m) := A1.out.cell 0
          rw [H_m.out] at z_m
          have z_b : w1.cell? ⟨w.heap.size + 1, 5, none⟩ = some (.bool x.b) := X1.out.cell 5
          rw [H_b.out] at z_b
          have z_ff : w1.cell? ⟨w.heap.size + 1 + 1, 5, none⟩ = some (.bool f.fo) := F1.out.cell 5
          rw [H_ff.out] at z_ff
          have z_cf : w1.cell? ⟨w.heap.size + 1 + 1, 21, none⟩ = some (.bool f.d.cf) := F1.out.cell 21
          rw [H_cf.out] at z_cf
          have z_ext : w1.cell? ⟨w.heap.size + 1 + 1, 0, none⟩ = some (.bool f.ext) := F1.out.cell 0
          rw [H_ext.out] at z_ext
          go_wp2_with fail
          go_ret
          exact ⟨ret_bool (by first | rfl | (simp [*]; done)), B1.out⟩
        · skip
          go_enter Try.func26, Try.ntmps26
          go_upto_region 1 with fail
          generalize (((w.alloc (.cells a.cs 35)).alloc (.cells x.cs 38)).alloc (.cells f.cs 48)) = w1 at *
          have z_m : w1.cell? ⟨w.heap.size, 0, none⟩ = some (.int .u8 a.m) := A1.out.cell 0
          rw [H_m.out] at z_m
          have z_b : w1.cell? ⟨w.heap.size + 1, 5, none⟩ = some (.bool x.b) := X1.out.cell 5
          rw [H_b.out] at z_b
          have z_ff : w1.cell? ⟨w.heap.size + 1 + 1, 5, none⟩ = some (.bool f.fo) := F1.out.cell 5
          rw [H_ff.out] at z_ff
          have z_cf : w1.cell? ⟨w.heap.size + 1 + 1, 21, none⟩ = some (.bool f.d.cf) := F1.out.cell 21
          rw [H_cf.out] at z_cf
          have z_ext : w1.cell? ⟨w.heap.size + 1 + 1, 0, none⟩ = some (.bool f.ext) := F1.out.cell 0
          rw [H_ext.out] at z_ext
          go_wp2_with fail
          go_ret
          exact ⟨ret_bool (by first | rfl | (simp [*]; done)), B1.out⟩

set_option maxHeartbeats 8000000 in
set_option maxRecDepth 100000 in
theorem well_6 (a : AI) (x : OI) (f : FI) (hm : a.m = 6) (hd : a.d.ok) (hf : f.d.ok) (w : World) : Calls Try.prog 26 #[a.a, x.a, f.a] w fun e w' => e = .returned (.bool (!x.b || defd a.d f)) ∧ Below w.heap.size w w' := by
  have DA := hidB (fun W => defined_any a.d f hd hf W)
  clear hd hf
  generalize defd a.d f = q at *
  have H_m := hidB hm
  clear hm
  have A1 := hidB (show Bk (((w.alloc (.cells a.cs 35)).alloc (.cells x.cs 38)).alloc (.cells f.cs 48)) (w.heap.size) 35 a.cs from ((Bk.new w _ _).alloc _).alloc _)
  have X1 := hidB (show Bk (((w.alloc (.cells a.cs 35)).alloc (.cells x.cs 38)).alloc (.cells f.cs 48)) (w.heap.size + 1) 38 x.cs from (Bk.new2 w _ _ _).alloc _)
  have F1 := hidB (show Bk (((w.alloc (.cells a.cs 35)).alloc (.cells x.cs 38)).alloc (.cells f.cs 48)) (w.heap.size + 1 + 1) 48 f.cs from Bk.new3 w _ _ _ _)
  have B1 := hidB (show Below w.heap.size w (((w.alloc (.cells a.cs 35)).alloc (.cells x.cs 38)).alloc (.cells f.cs 48)) from ((box_one w _).alloc (by simp) _).alloc (by simp; omega) _)
  generalize h_b : x.b = l_b at *
  have H_b := hidB h_b
  clear h_b
  cases l_b
  · skip
    go_enter Try.func26, Try.ntmps26
    go_upto_region 1 with fail
    generalize (((w.alloc (.cells a.cs 35)).alloc (.cells x.cs 38)).alloc (.cells f.cs 48)) = w1 at *
    have z_m : w1.cell? ⟨w.heap.size, 0, none⟩ = some (.int .u8 a.m) := A1.out.cell 0
    rw [H_m.out] at z_m
    have z_b : w1.cell? ⟨w.heap.size + 1, 5, none⟩ = some (.bool x.b) := X1.out.cell 5
    rw [H_b.out] at z_b
    go_wp2_with fail
    go_ret
    exact ⟨ret_bool (by first | rfl | (simp [*]; done)), B1.out⟩
  · skip
    go_enter Try.func26, Try.ntmps26
    go_upto_region 1 with fail
    generalize (((w.alloc (.cells a.cs 35)).alloc (.cells x.cs 38)).alloc (.cells f.cs 48)) = w1 at *
    have z_m : w1.cell? ⟨w.heap.size, 0, none⟩ = some (.int .u8 a.m) := A1.out.cell 0
    rw [H_m.out] at z_m
    have z_b : w1.cell? ⟨w.heap.size + 1, 5, none⟩ = some (.bool x.b) := X1.out.cell 5
    rw [H_b.out] at z_b
    go_wp2_with (first | ((with_reducible refine ldId 32 (.tmp 92) ?_); refine wpList_wload_mid 32 (.tmp 92) (by rfl) (by rfl) (w.heap.size) 4 (by rfl) (a.d.cs.toList) _ (by exact Bk.mid A1.out 4 _ rfl) Try.underlying32 (by rfl) (by kernel_rfl) ?_) | ((with_reducible refine ldId 48 (.tmp 5) ?_); refine wpList_wload_row 48 (.tmp 5) (by rfl) (by rfl) (w.heap.size + 1 + 1) (by rfl) 48 _ (0, 0) _ (by exact F1.out) Try.underlying48 (by rfl) (by kernel_rfl) ?_))
    refine (DA.out _).mono ?_; rintro e w2 ⟨rfl, hb⟩
    have A2 := hidB (A1.out.on hb)
    have X2 := hidB (X1.out.on hb)
    have F2 := hidB (F1.out.on hb)
    have B2 := hidB (B1.out.trans (hb.mono B1.out.size))
    clear hb A1 X1 F1 B1 z_m z_b
    have z_m : w2.cell? ⟨w.heap.size, 0, none⟩ = some (.int .u8 a.m) := A2.out.cell 0
    rw [H_m.out] at z_m
    have z_b : w2.cell? ⟨w.heap.size + 1, 5, none⟩ = some (.bool x.b) := X2.out.cell 5
    rw [H_b.out] at z_b
    go_wp2_with fail
    go_ret
    exact ⟨ret_bool (by first | rfl | (simp [*]; done)), B2.out⟩

set_option maxHeartbeats 8000000 in
set_option maxRecDepth 100000 in
theorem well_8 (a : AI) (x : OI) (f : FI) (hm : a.m = 8) (h0 : 0 ≤ x.v.k) (w : World) : Calls Try.prog 26 #[a.a, x.a, f.a] w fun e w' => e = .returned (.bool (gotB x.v f false)) ∧ Below w.heap.size w w' := by
  have GA := hidB (fun W => got_any x.v f false h0 W)
  clear h0
  generalize gotB x.v f false = q at *
  have H_m := hidB hm
  clear hm
  have A1 := hidB (show Bk (((w.alloc (.cells a.cs 35)).alloc (.cells x.cs 38)).alloc (.cells f.cs 48)) (w.heap.size) 35 a.cs from ((Bk.new w _ _).alloc _).alloc _)
  have X1 := hidB (show Bk (((w.alloc (.cells a.cs 35)).alloc (.cells x.cs 38)).alloc (.cells f.cs 48)) (w.heap.size + 1) 38 x.cs from (Bk.new2 w _ _ _).alloc _)
  have F1 := hidB (show Bk (((w.alloc (.cells a.cs 35)).alloc (.cells x.cs 38)).alloc (.cells f.cs 48)) (w.heap.size + 1 + 1) 48 f.cs from Bk.new3 w _ _ _ _)
  have B1 := hidB (show Below w.heap.size w (((w.alloc (.cells a.cs 35)).alloc (.cells x.cs 38)).alloc (.cells f.cs 48)) from ((box_one w _).alloc (by simp) _).alloc (by simp; omega) _)
  go_enter Try.func26, Try.ntmps26
  go_upto_region 1 with fail
  generalize (((w.alloc (.cells a.cs 35)).alloc (.cells x.cs 38)).alloc (.cells f.cs 48)) = w1 at *
  have z_m : w1.cell? ⟨w.heap.size, 0, none⟩ = some (.int .u8 a.m) := A1.out.cell 0
  rw [H_m.out] at z_m
  go_wp2_with (first | ((with_reducible refine ldId 30 (.tmp 136) ?_); refine wpList_load_mid (by rfl) 30 (.tmp 136) (by rfl) (w.heap.size + 1) 1 (by rfl) (x.v.cells) _ (by exact Bk.mid X1.out 1 _ rfl) Try.underlying30 (by rfl) (by kernel_rfl) ?_) | ((with_reducible refine ldId 48 (.tmp 5) ?_); refine wpList_load_row (by rfl) 48 (.tmp 5) (by rfl) (w.heap.size + 1 + 1) (by rfl) 48 _ (0, 0) _ (by exact F1.out) Try.underlying48 (by rfl) (by kernel_rfl) ?_))
  refine (GA.out _).mono ?_; rintro e w2 ⟨rfl, hb⟩
  have A2 := hidB (A1.out.on hb)
  have X2 := hidB (X1.out.on hb)
  have F2 := hidB (F1.out.on hb)
  have B2 := hidB (B1.out.trans (hb.mono B1.out.size))
  clear hb A1 X1 F1 B1 z_m
  have z_m : w2.cell? ⟨w.heap.size, 0, none⟩ = some (.int .u8 a.m) := A2.out.cell 0
  rw [H_m.out] at z_m
  go_wp2_with fail
  go_ret
  exact ⟨ret_bool (by first | rfl | (simp [*]; done)), B2.out⟩

set_option maxHeartbeats 8000000 in
set_option maxRecDepth 100000 in
theorem well_9 (a : AI) (x : OI) (f : FI) (hm : a.m = 9) (h0 : 0 ≤ a.v.k) (w : World) : Calls Try.prog 26 #[a.a, x.a, f.a] w fun e w' => e = .returned (.bool (!x.b || gotB a.v f true)) ∧ Below w.heap.size w w' := by
  have GA := hidB (fun W => got_any a.v f true h0 W)
  clear h0
  generalize gotB a.v f true = q at *
  have H_m := hidB hm
  clear hm
  have A1 := hidB (show Bk (((w.alloc (.cells a.cs 35)).alloc (.cells x.cs 38)).alloc (.cells f.cs 48)) (w.heap.size) 35 a.cs from ((Bk.new w _ _).alloc _).alloc _)
  have X1 := hidB (show Bk (((w.alloc (.cells a.cs 35)).alloc (.cells x.cs 38)).alloc (.cells f.cs 48)) (w.heap.size + 1) 38 x.cs from (Bk.new2 w _ _ _).alloc _)
  have F1 := hidB (show Bk (((w.alloc (.cells a.cs 35)).alloc (.cells x.cs 38)).alloc (.cells f.cs 48)) (w.heap.size + 1 + 1) 48 f.cs from Bk.new3 w _ _ _ _)
  have B1 := hidB (show Below w.heap.size w (((w.alloc (.cells a.cs 35)).alloc (.cells x.cs 38)).alloc (.cells f.cs 48)) from ((box_one w _).alloc (by simp) _).alloc (by simp; omega) _)
  generalize h_b : x.b = l_b at *
  have H_b := hidB h_b
  clear h_b
  cases l_b
  · skip
    go_enter Try.func26, Try.ntmps26
    go_upto_region 1 with fail
    generalize (((w.alloc (.cells a.cs 35)).alloc (.cells x.cs 38)).alloc (.cells f.cs 48)) = w1 at *
    have z_m : w1.cell? ⟨w.heap.size, 0, none⟩ = some (.int .u8 a.m) := A1.out.cell 0
    rw [H_m.out] at z_m
    have z_b : w1.cell? ⟨w.heap.size + 1, 5, none⟩ = some (.bool x.b) := X1.out.cell 5
    rw [H_b.out] at z_b
    go_wp2_with fail
    go_ret
    exact ⟨ret_bool (by first | rfl | (simp [*]; done)), B1.out⟩
  · skip
    go_enter Try.func26, Try.ntmps26
    go_upto_region 1 with fail
    generalize (((w.alloc (.cells a.cs 35)).alloc (.cells x.cs 38)).alloc (.cells f.cs 48)) = w1 at *
    have z_m : w1.cell? ⟨w.heap.size, 0, none⟩ = some (.int .u8 a.m) := A1.out.cell 0
    rw [H_m.out] at z_m
    have z_b : w1.cell? ⟨w.heap.size + 1, 5, none⟩ = some (.bool x.b) := X1.out.cell 5
    rw [H_b.out] at z_b
    go_wp2_with (first | ((with_reducible refine ldId 30 (.tmp 146) ?_); refine wpList_wload_mid 30 (.tmp 146) (by rfl) (by rfl) (w.heap.size) 20 (by rfl) (a.v.cells) _ (by exact Bk.mid A1.out 20 _ rfl) Try.underlying30 (by rfl) (by kernel_rfl) ?_) | ((with_reducible refine ldId 48 (.tmp 5) ?_); refine wpList_wload_row 48 (.tmp 5) (by rfl) (by rfl) (w.heap.size + 1 + 1) (by rfl) 48 _ (0, 0) _ (by exact F1.out) Try.underlying48 (by rfl) (by kernel_rfl) ?_))
    refine (GA.out _).mono ?_; rintro e w2 ⟨rfl, hb⟩
    have A2 := hidB (A1.out.on hb)
    have X2 := hidB (X1.out.on hb)
    have F2 := hidB (F1.out.on hb)
    have B2 := hidB (B1.out.trans (hb.mono B1.out.size))
    clear hb A1 X1 F1 B1 z_m z_b
    have z_m : w2.cell? ⟨w.heap.size, 0, none⟩ = some (.int .u8 a.m) := A2.out.cell 0
    rw [H_m.out] at z_m
    have z_b : w2.cell? ⟨w.heap.size + 1, 5, none⟩ = some (.bool x.b) := X2.out.cell 5
    rw [H_b.out] at z_b
    go_wp2_with fail
    go_ret
    exact ⟨ret_bool (by first | rfl | (simp [*]; done)), B2.out⟩

set_option maxHeartbeats 8000000 in
set_option maxRecDepth 100000 in
theorem well_12 (a : AI) (x : OI) (f : FI) (hm : a.m = 12)  (w : World) : Calls Try.prog 26 #[a.a, x.a, f.a] w fun e w' => e = .returned (.bool (true)) ∧ Below w.heap.size w w' := by
  have H_m := hidB hm
  clear hm
  have A1 := hidB (show Bk (((w.alloc (.cells a.cs 35)).alloc (.cells x.cs 38)).alloc (.cells f.cs 48)) (w.heap.size) 35 a.cs from ((Bk.new w _ _).alloc _).alloc _)
  have X1 := hidB (show Bk (((w.alloc (.cells a.cs 35)).alloc (.cells x.cs 38)).alloc (.cells f.cs 48)) (w.heap.size + 1) 38 x.cs from (Bk.new2 w _ _ _).alloc _)
  have F1 := hidB (show Bk (((w.alloc (.cells a.cs 35)).alloc (.cells x.cs 38)).alloc (.cells f.cs 48)) (w.heap.size + 1 + 1) 48 f.cs from Bk.new3 w _ _ _ _)
  have B1 := hidB (show Below w.heap.size w (((w.alloc (.cells a.cs 35)).alloc (.cells x.cs 38)).alloc (.cells f.cs 48)) from ((box_one w _).alloc (by simp) _).alloc (by simp; omega) _)
  go_enter Try.func26, Try.ntmps26
  go_upto_region 1 with fail
  generalize (((w.alloc (.cells a.cs 35)).alloc (.cells x.cs 38)).alloc (.cells f.cs 48)) = w1 at *
  have z_m : w1.cell? ⟨w.heap.size, 0, none⟩ = some (.int .u8 a.m) := A1.out.cell 0
  rw [H_m.out] at z_m
  go_wp2_with fail
  go_ret
  exact ⟨ret_bool (by first | rfl | (simp [*]; done)), B1.out⟩

set_option maxHeartbeats 8000000 in
set_option maxRecDepth 100000 in
theorem well_13 (a : AI) (x : OI) (f : FI) (hm : a.m = 13)  (w : World) : Calls Try.prog 26 #[a.a, x.a, f.a] w fun e w' => e = .returned (.bool (isObj x.v.k)) ∧ Below w.heap.size w w' := by
  have IA : Hid (∀ W, Calls Try.prog 40 #[x.v.a] W fun e w' => e = .returned (.bool (isObj x.v.k)) ∧ Below W.heap.size W w') := hidB (fun W => (isObj_any x.v.k x.v.x x.v.s x.v.r W).mono fun e w' h => ⟨h.1, by rw [← h.2]; exact box_one _ _⟩)
  generalize isObj x.v.k = q at *
  have H_m := hidB hm
  clear hm
  have A1 := hidB (show Bk (((w.alloc (.cells a.cs 35)).alloc (.cells x.cs 38)).alloc (.cells f.cs 48)) (w.heap.size) 35 a.cs from ((Bk.new w _ _).alloc _).alloc _)
  have X1 := hidB (show Bk (((w.alloc (.cells a.cs 35)).alloc (.cells x.cs 38)).alloc (.cells f.cs 48)) (w.heap.size + 1) 38 x.cs from (Bk.new2 w _ _ _).alloc _)
  have F1 := hidB (show Bk (((w.alloc (.cells a.cs 35)).alloc (.cells x.cs 38)).alloc (.cells f.cs 48)) (w.heap.size + 1 + 1) 48 f.cs from Bk.new3 w _ _ _ _)
  have B1 := hidB (show Below w.heap.size w (((w.alloc (.cells a.cs 35)).alloc (.cells x.cs 38)).alloc (.cells f.cs 48)) from ((box_one w _).alloc (by simp) _).alloc (by simp; omega) _)
  go_enter Try.func26, Try.ntmps26
  go_upto_region 1 with fail
  generalize (((w.alloc (.cells a.cs 35)).alloc (.cells x.cs 38)).alloc (.cells f.cs 48)) = w1 at *
  have z_m : w1.cell? ⟨w.heap.size, 0, none⟩ = some (.int .u8 a.m) := A1.out.cell 0
  rw [H_m.out] at z_m
  go_wp2_with (first | ((with_reducible refine ldId 30 (.tmp 159) ?_); refine wpList_load_mid (by rfl) 30 (.tmp 159) (by rfl) (w.heap.size + 1) 1 (by rfl) (x.v.cells) _ (by exact Bk.mid X1.out 1 _ rfl) Try.underlying30 (by rfl) (by kernel_rfl) ?_))
  refine (IA.out _).mono ?_; rintro e w2 ⟨rfl, hb⟩
  have A2 := hidB (A1.out.on hb)
  have X2 := hidB (X1.out.on hb)
  have F2 := hidB (F1.out.on hb)
  have B2 := hidB (B1.out.trans (hb.mono B1.out.size))
  clear hb A1 X1 F1 B1 z_m
  have z_m : w2.cell? ⟨w.heap.size, 0, none⟩ = some (.int .u8 a.m) := A2.out.cell 0
  rw [H_m.out] at z_m
  go_wp2_with fail
  go_ret
  exact ⟨ret_bool (by first | rfl | (simp [*]; done)), B2.out⟩

set_option maxHeartbeats 8000000 in
set_option maxRecDepth 100000 in
theorem well_11 (a : AI) (x : OI) (f : FI) (lk ks : List KI) (ds : List DI) (hm : a.m = 11) (hl : ds.length = ks.length) (w : World) (hk0 : RdK lk x.keys w) (hk : RdK ks f.keys w) (hd : RdD ds f.own w) : Calls Try.prog 26 #[a.a, x.a, f.a] w fun e w' => e = .returned (.bool (listedB lk f ks ds)) ∧ Below w.heap.size w w' := by
  have LA := hidB (fun W (h : Below w.heap.size w W) => listed_any lk x.keys f ks ds hl W (hk0.on h) (hk.on h) (hd.on h))
  clear hk0 hk hd hl
  generalize listedB lk f ks ds = q at *
  have H_m := hidB hm
  clear hm
  have A1 := hidB (show Bk (((w.alloc (.cells a.cs 35)).alloc (.cells x.cs 38)).alloc (.cells f.cs 48)) (w.heap.size) 35 a.cs from ((Bk.new w _ _).alloc _).alloc _)
  have X1 := hidB (show Bk (((w.alloc (.cells a.cs 35)).alloc (.cells x.cs 38)).alloc (.cells f.cs 48)) (w.heap.size + 1) 38 x.cs from (Bk.new2 w _ _ _).alloc _)
  have F1 := hidB (show Bk (((w.alloc (.cells a.cs 35)).alloc (.cells x.cs 38)).alloc (.cells f.cs 48)) (w.heap.size + 1 + 1) 48 f.cs from Bk.new3 w _ _ _ _)
  have B1 := hidB (show Below w.heap.size w (((w.alloc (.cells a.cs 35)).alloc (.cells x.cs 38)).alloc (.cells f.cs 48)) from ((box_one w _).alloc (by simp) _).alloc (by simp; omega) _)
  go_enter Try.func26, Try.ntmps26
  go_upto_region 1 with fail
  generalize (((w.alloc (.cells a.cs 35)).alloc (.cells x.cs 38)).alloc (.cells f.cs 48)) = w1 at *
  have z_m : w1.cell? ⟨w.heap.size, 0, none⟩ = some (.int .u8 a.m) := A1.out.cell 0
  rw [H_m.out] at z_m
  have z_k : w1.cell? ⟨w.heap.size + 1, 23, none⟩ = some x.keys := X1.out.cell 23
  go_wp2_with (first | ((with_reducible refine ldId 48 (.tmp 5) ?_); refine wpList_load_row (by rfl) 48 (.tmp 5) (by rfl) (w.heap.size + 1 + 1) (by rfl) 48 _ (0, 0) _ (by exact F1.out) Try.underlying48 (by rfl) (by kernel_rfl) ?_))
  refine (LA.out _ B1.out).mono ?_; rintro e w2 ⟨rfl, hb⟩
  have B2 := hidB (B1.out.trans (hb.mono B1.out.size))
  clear hb
  go_wp2_with fail
  go_ret
  exact ⟨rfl, B2.out⟩
  
theorem DI.com_ok {d : DI} (h : d.ok) : d.com.ok := by
  unfold DI.com DI.ok
  split
  · exact h
  · exact ⟨Int.le_refl 0, Int.le_refl 0, Int.le_refl 0⟩
set_option maxHeartbeats 8000000 in
set_option maxRecDepth 100000 in
theorem well_5 (a : AI) (x : OI) (f : FI) (hm : a.m = 5) (hd : x.d.ok) (hf : f.d.ok) (w : World) : Calls Try.prog 26 #[a.a, x.a, f.a] w fun e w' => e = .returned (.bool (if x.fo then told x.d.com f else !f.fo || (f.d.cf && f.ext))) ∧ Below w.heap.size w w' := by
  have CA := hidB (fun W => complete_any x.d hd W)
  have TA := hidB (fun W => told_any x.d.com f (DI.com_ok hd) hf W)
  clear hd hf
  generalize told x.d.com f = q at *
  generalize hc : x.d.com = c at *
  clear hc
  generalize x.d.err = er at *
  have H_m := hidB hm
  clear hm
  have A1 := hidB (show Bk (((w.alloc (.cells a.cs 35)).alloc (.cells x.cs 38)).alloc (.cells f.cs 48)) (w.heap.size) 35 a.cs from ((Bk.new w _ _).alloc _).alloc _)
  have X1 := hidB (show Bk (((w.alloc (.cells a.cs 35)).alloc (.cells x.cs 38)).alloc (.cells f.cs 48)) (w.heap.size + 1) 38 x.cs from (Bk.new2 w _ _ _).alloc _)
  have F1 := hidB (show Bk (((w.alloc (.cells a.cs 35)).alloc (.cells x.cs 38)).alloc (.cells f.cs 48)) (w.heap.size + 1 + 1) 48 f.cs from Bk.new3 w _ _ _ _)
  have B1 := hidB (show Below w.heap.size w (((w.alloc (.cells a.cs 35)).alloc (.cells x.cs 38)).alloc (.cells f.cs 48)) from ((box_one w _).alloc (by simp) _).alloc (by simp; omega) _)
  generalize h_fo : x.fo = l_fo at *
  have H_fo := hidB h_fo
  clear h_fo
  generalize h_ff : f.fo = l_ff at *
  have H_ff := hidB h_ff
  clear h_ff
  generalize h_cf : f.d.cf = l_cf at *
  have H_cf := hidB h_cf
  clear h_cf
  generalize h_ext : f.ext = l_ext at *
  have H_ext := hidB h_ext
  clear h_ext
  cases l_fo
  · cases l_ff
    · skip
      go_enter Try.func26, Try.ntmps26
      go_upto_region 1 with fail
      generalize (((w.alloc (.cells a.cs 35)).alloc (.cells x.cs 38)).alloc (.cells f.cs 48)) = w1 at *
      have z_m : w1.cell? ⟨w.heap.size, 0, none⟩ = some (.int .u8 a.m) := A1.out.cell 0
      rw [H_m.out] at z_m
      have z_fo : w1.cell? ⟨w.heap.size + 1, 6, none⟩ = some (.bool x.fo) := X1.out.cell 6
      rw [H_fo.out] at z_fo
      have z_ff : w1.cell? ⟨w.heap.size + 1 + 1, 5, none⟩ = some (.bool f.fo) := F1.out.cell 5
      rw [H_ff.out] at z_ff
      go_wp2_with fail
      go_ret
      exact ⟨rfl, B1.out⟩
    · cases l_cf
      · skip
        go_enter Try.func26, Try.ntmps26
        go_upto_region 1 with fail
        generalize (((w.alloc (.cells a.cs 35)).alloc (.cells x.cs 38)).alloc (.cells f.cs 48)) = w1 at *
        have z_m : w1.cell? ⟨w.heap.size, 0, none⟩ = some (.int .u8 a.m) := A1.out.cell 0
        rw [H_m.out] at z_m
        have z_fo : w1.cell? ⟨w.heap.size + 1, 6, none⟩ = some (.bool x.fo) := X1.out.cell 6
        rw [H_fo.out] at z_fo
        have z_ff : w1.cell? ⟨w.heap.size + 1 + 1, 5, none⟩ = some (.bool f.fo) := F1.out.cell 5
        rw [H_ff.out] at z_ff
        have z_cf : w1.cell? ⟨w.heap.size + 1 + 1, 21, none⟩ = some (.bool f.d.cf) := F1.out.cell 21
        rw [H_cf.out] at z_cf
        go_wp2_with fail
        go_ret
        exact ⟨rfl, B1.out⟩
      · skip
        go_enter Try.func26, Try.ntmps26
        go_upto_region 1 with fail
        generalize (((w.alloc (.cells a.cs 35)).alloc (.cells x.cs 38)).alloc (.cells f.cs 48)) = w1 at *
        have z_m : w1.cell? ⟨w.heap.size, 0, none⟩ = some (.int .u8 a.m) := A1.out.cell 0
        rw [H_m.out] at z_m
        have z_fo : w1.cell? ⟨w.heap.size + 1, 6, none⟩ = some (.bool x.fo) := X1.out.cell 6
        rw [H_fo.out] at z_fo
        have z_ff : w1.cell? ⟨w.heap.size + 1 + 1, 5, none⟩ = some (.bool f.fo) := F1.out.cell 5
        rw [H_ff.out] at z_ff
        have z_cf : w1.cell? ⟨w.heap.size + 1 + 1, 21, none⟩ = some (.bool f.d.cf) := F1.out.cell 21
        rw [H_cf.out] at z_cf
        have z_ext : w1.cell? ⟨w.heap.size + 1 + 1, 0, none⟩ = some (.bool f.ext) := F1.out.cell 0
        rw [H_ext.out] at z_ext
        go_wp2_with fail
        go_ret
        exact ⟨ret_bool (by first | rfl | (simp [*]; done)), B1.out⟩
  · skip
    go_enter Try.func26, Try.ntmps26
    go_upto_region 1 with fail
    generalize (((w.alloc (.cells a.cs 35)).alloc (.cells x.cs 38)).alloc (.cells f.cs 48)) = w1 at *
    have z_m : w1.cell? ⟨w.heap.size, 0, none⟩ = some (.int .u8 a.m) := A1.out.cell 0
    rw [H_m.out] at z_m
    have z_fo : w1.cell? ⟨w.heap.size + 1, 6, none⟩ = some (.bool x.fo) := X1.out.cell 6
    rw [H_fo.out] at z_fo
    go_wp2_with (first | ((with_reducible refine ldId 32 (.tmp 78) ?_); refine wpList_load_mid (by rfl) 32 (.tmp 78) (by rfl) (w.heap.size + 1) 7 (by rfl) (x.d.cs.toList) _ (by exact Bk.mid X1.out 7 _ rfl) Try.underlying32 (by rfl) (by kernel_rfl) ?_))
    refine (CA.out _).mono ?_; rintro e w2 ⟨rfl, hb⟩
    have A2 := hidB (A1.out.on hb)
    have X2 := hidB (X1.out.on hb)
    have F2 := hidB (F1.out.on hb)
    have B2 := hidB (B1.out.trans (hb.mono B1.out.size))
    clear hb A1 X1 F1 B1 z_m z_fo
    have F3 := hidB (show Bk (w2.alloc (.cells c.cs 32)) (w.heap.size + 1 + 1) 48 f.cs from F2.out.alloc _)
    have C3 := hidB (show Bk (w2.alloc (.cells c.cs 32)) w2.heap.size 32 c.cs from Bk.new w2 _ _)
    have B3 := hidB (show Below w.heap.size w (w2.alloc (.cells c.cs 32)) from B2.out.alloc B2.out.size _)
    go_upto_region 14 with (first | ((with_reducible refine wpId ?_); refine wpList_store_new (by rfl) 32 (.tmp 7) (.tmp 81) (by rfl) c.cs 32 _ (by rfl) (by rfl) (by exact size_desc) (by rfl) (by exact DI.one _) ?_))
    generalize (w2.alloc (.cells c.cs 32)) = w3 at *
    generalize w2.heap.size = g3 at *
    go_wp2_with (first | ((with_reducible refine ldId 32 (.tmp 7) ?_); refine wpList_load_row (by rfl) 32 (.tmp 7) (by rfl) g3 (by rfl) 32 _ (0, 0) _ (by exact C3.out) Try.underlying32 (by rfl) (by exact size_desc) ?_) | ((with_reducible refine ldId 48 (.tmp 5) ?_); refine wpList_load_row (by rfl) 48 (.tmp 5) (by rfl) (w.heap.size + 1 + 1) (by rfl) 48 _ (0, 0) _ (by exact F3.out) Try.underlying48 (by rfl) (by kernel_rfl) ?_))
    refine (TA.out _).mono ?_; rintro e w4 ⟨rfl, hb⟩
    have B4 := hidB (B3.out.trans (hb.mono B3.out.size))
    clear hb
    go_wp2_with fail
    go_ret
    exact ⟨rfl, B4.out⟩
  
/-- Is an answer well, its keys these? -/
def wellB (a : AI) (x : OI) (f : FI) (lk ks : List KI) (ds : List DI) : Bool :=
  if a.m = 1 then (x.v.proto && (f.ext || x.v.same f.pr))
  else if a.m = 2 then (!x.b || (f.ext || a.v.same f.pr))
  else if a.m = 3 then (x.b == f.ext)
  else if a.m = 4 then (!x.b || !f.ext)
  else if a.m = 5 then (if x.fo then told x.d.com f else !f.fo || (f.d.cf && f.ext))
  else if a.m = 6 then (!x.b || defd a.d f)
  else if a.m = 7 then (x.b || (!f.fo || (f.d.cf && f.ext)))
  else if a.m = 8 then (gotB x.v f false)
  else if a.m = 9 then (!x.b || gotB a.v f true)
  else if a.m = 10 then (!x.b || (!f.fo || (f.d.cf && f.ext)))
  else if a.m = 11 then (listedB lk f ks ds)
  else if a.m = 13 then (isObj x.v.k)
  else true
theorem AskOk.on {a : AI} {x : OI} {lk : List KI} {w w1 : World} (h : AskOk a x lk w) (hb : Below w.heap.size w w1) : AskOk a x lk w1 := ⟨h.ad, h.av, h.xv, h.xd, h.xk.on hb⟩
theorem well_any (a : AI) (x : OI) (f : FI) (lk ks : List KI) (ds : List DI) (hm : 1 ≤ a.m ∧ a.m ≤ 13) (hl : a.m = 11 → ds.length = ks.length) (w : World) (h : AskOk a x lk w) (hf : FactsOk f ks ds w) : Calls Try.prog 26 #[a.a, x.a, f.a] w fun e w' => e = .returned (.bool (wellB a x f lk ks ds)) ∧ Below w.heap.size w w' := by
  have hm : a.m = 1 ∨ a.m = 2 ∨ a.m = 3 ∨ a.m = 4 ∨ a.m = 5 ∨ a.m = 6 ∨ a.m = 7 ∨ a.m = 8 ∨ a.m = 9 ∨ a.m = 10 ∨ a.m = 11 ∨ a.m = 12 ∨ a.m = 13 := by omega
  unfold wellB
  rcases hm with hm | hm | hm | hm | hm | hm | hm | hm | hm | hm | hm | hm | hm
  · rw [if_pos hm]; exact well_1 a x f hm h.xv w
  · rw [if_neg (show ¬ a.m = 1 by omega), if_pos hm]; exact well_2 a x f hm h.av w
  · rw [if_neg (show ¬ a.m = 1 by omega), if_neg (show ¬ a.m = 2 by omega), if_pos hm]; exact well_3 a x f hm w
  · rw [if_neg (show ¬ a.m = 1 by omega), if_neg (show ¬ a.m = 2 by omega), if_neg (show ¬ a.m = 3 by omega), if_pos hm]; exact well_4 a x f hm w
  · rw [if_neg (show ¬ a.m = 1 by omega), if_neg (show ¬ a.m = 2 by omega), if_neg (show ¬ a.m = 3 by omega), if_neg (show ¬ a.m = 4 by omega), if_pos hm]; exact well_5 a x f hm h.xd hf.xd w
  · rw [if_neg (show ¬ a.m = 1 by omega), if_neg (show ¬ a.m = 2 by omega), if_neg (show ¬ a.m = 3 by omega), if_neg (show ¬ a.m = 4 by omega), if_neg (show ¬ a.m = 5 by omega), if_pos hm]; exact well_6 a x f hm h.ad hf.xd w
  · rw [if_neg (show ¬ a.m = 1 by omega), if_neg (show ¬ a.m = 2 by omega), if_neg (show ¬ a.m = 3 by omega), if_neg (show ¬ a.m = 4 by omega), if_neg (show ¬ a.m = 5 by omega), if_neg (show ¬ a.m = 6 by omega), if_pos hm]; exact well_7 a x f hm w
  · rw [if_neg (show ¬ a.m = 1 by omega), if_neg (show ¬ a.m = 2 by omega), if_neg (show ¬ a.m = 3 by omega), if_neg (show ¬ a.m = 4 by omega), if_neg (show ¬ a.m = 5 by omega), if_neg (show ¬ a.m = 6 by omega), if_neg (show ¬ a.m = 7 by omega), if_pos hm]; exact well_8 a x f hm h.xv w
  · rw [if_neg (show ¬ a.m = 1 by omega), if_neg (show ¬ a.m = 2 by omega), if_neg (show ¬ a.m = 3 by omega), if_neg (show ¬ a.m = 4 by omega), if_neg (show ¬ a.m = 5 by omega), if_neg (show ¬ a.m = 6 by omega), if_neg (show ¬ a.m = 7 by omega), if_neg (show ¬ a.m = 8 by omega), if_pos hm]; exact well_9 a x f hm h.av w
  · rw [if_neg (show ¬ a.m = 1 by omega), if_neg (show ¬ a.m = 2 by omega), if_neg (show ¬ a.m = 3 by omega), if_neg (show ¬ a.m = 4 by omega), if_neg (show ¬ a.m = 5 by omega), if_neg (show ¬ a.m = 6 by omega), if_neg (show ¬ a.m = 7 by omega), if_neg (show ¬ a.m = 8 by omega), if_neg (show ¬ a.m = 9 by omega), if_pos hm]; exact well_10 a x f hm w
  · rw [if_neg (show ¬ a.m = 1 by omega), if_neg (show ¬ a.m = 2 by omega), if_neg (show ¬ a.m = 3 by omega), if_neg (show ¬ a.m = 4 by omega), if_neg (show ¬ a.m = 5 by omega), if_neg (show ¬ a.m = 6 by omega), if_neg (show ¬ a.m = 7 by omega), if_neg (show ¬ a.m = 8 by omega), if_neg (show ¬ a.m = 9 by omega), if_neg (show ¬ a.m = 10 by omega), if_pos hm]; exact well_11 a x f lk ks ds hm (hl hm) w h.xk hf.rk hf.rd
  · rw [if_neg (show ¬ a.m = 1 by omega), if_neg (show ¬ a.m = 2 by omega), if_neg (show ¬ a.m = 3 by omega), if_neg (show ¬ a.m = 4 by omega), if_neg (show ¬ a.m = 5 by omega), if_neg (show ¬ a.m = 6 by omega), if_neg (show ¬ a.m = 7 by omega), if_neg (show ¬ a.m = 8 by omega), if_neg (show ¬ a.m = 9 by omega), if_neg (show ¬ a.m = 10 by omega), if_neg (show ¬ a.m = 11 by omega), if_neg (show ¬ a.m = 13 by omega)]; exact well_12 a x f hm w
  · rw [if_neg (show ¬ a.m = 1 by omega), if_neg (show ¬ a.m = 2 by omega), if_neg (show ¬ a.m = 3 by omega), if_neg (show ¬ a.m = 4 by omega), if_neg (show ¬ a.m = 5 by omega), if_neg (show ¬ a.m = 6 by omega), if_neg (show ¬ a.m = 7 by omega), if_neg (show ¬ a.m = 8 by omega), if_neg (show ¬ a.m = 9 by omega), if_neg (show ¬ a.m = 10 by omega), if_neg (show ¬ a.m = 11 by omega), if_pos hm]; exact well_13 a x f hm w
end Go.Proofs.Ytlpldhcoplbopaa
