/-
  desc.Data: the usual descriptor of a value.
-/
import Derived.Test.YtlpldhcoplbopaaDescCom
namespace Go.Proofs.Ytlpldhcoplbopaa
open Go.RowKit

def dataI (v : VI) : DI := ⟨51, v, VI.zero, VI.zero, true, true, true⟩
set_option maxHeartbeats 2000000 in
set_option maxRecDepth 100000 in
theorem descData_any (v : VI) (w : World) : Calls Try.prog 23 #[v.a] w fun e w' => e = .returned (dataI v).a ∧ Below w.heap.size w w' := by
  have U := hidB (show Bk ((w.alloc (.cells v.cells.toArray 30)).alloc (.cells #[.int .u8 0, .int .u8 0, .float .f64 0, .string ⟨#[]⟩, .int .i64 0, .int .u8 0, .float .f64 0, .string ⟨#[]⟩, .int .i64 0, .int .u8 0, .float .f64 0, .string ⟨#[]⟩, .int .i64 0, .bool false, .bool false, .bool false] 32)) w.heap.size 30 v.cells.toArray from (Bk.new w _ _).alloc _)
  have R := hidB (show Bk ((w.alloc (.cells v.cells.toArray 30)).alloc (.cells #[.int .u8 0, .int .u8 0, .float .f64 0, .string ⟨#[]⟩, .int .i64 0, .int .u8 0, .float .f64 0, .string ⟨#[]⟩, .int .i64 0, .int .u8 0, .float .f64 0, .string ⟨#[]⟩, .int .i64 0, .bool false, .bool false, .bool false] 32)) (w.heap.size + 1) 32 DI.zero.cs from Bk.new2 w _ _ _)
  have Bt := hidB (show Below w.heap.size w ((w.alloc (.cells v.cells.toArray 30)).alloc (.cells #[.int .u8 0, .int .u8 0, .float .f64 0, .string ⟨#[]⟩, .int .i64 0, .int .u8 0, .float .f64 0, .string ⟨#[]⟩, .int .i64 0, .int .u8 0, .float .f64 0, .string ⟨#[]⟩, .int .i64 0, .bool false, .bool false, .bool false] 32)) from (box_one w _).alloc (by simp) _)
  go_enter Try.func23, Try.ntmps23
  go_upto_region 1 with fail
  generalize ((w.alloc (.cells v.cells.toArray 30)).alloc (.cells #[.int .u8 0, .int .u8 0, .float .f64 0, .string ⟨#[]⟩, .int .i64 0, .int .u8 0, .float .f64 0, .string ⟨#[]⟩, .int .i64 0, .int .u8 0, .float .f64 0, .string ⟨#[]⟩, .int .i64 0, .bool false, .bool false, .bool false] 32)) = w1 at *
  go_wp2_with (first | ((with_reducible refine ldId 30 (.tmp 1) ?_); refine wpList_load_mid (by rfl) 30 (.tmp 1) (by rfl) w.heap.size 0 (by rfl) v.cells _ (by exact Bk.mid U.out 0 _ rfl) Try.underlying30 (by rfl) (by kernel_rfl) ?_) | ((with_reducible refine wpId ?_); refine wpList_build_to (by rfl) 32 _ (by rfl) (dataI v).cs (by kernel_rfl) ?_) | ((with_reducible refine wpId ?_); refine wpList_store_row (by rfl) 32 (.tmp 2) (.tmp 4) (by rfl) (w.heap.size + 1) (dataI v).cs (by rfl) (by rfl) 32 DI.zero.cs (by exact R.out) (by exact size_desc) (by rfl) (by exact DI.one _) ?_))
  exact bodyPost_ret (v := (dataI v).a) (results_cell_row Try.results23 _ _ (w.heap.size + 1) 32 (dataI v).cs (0, 0) _ rfl (R.out.setRow _) Try.underlying32 rfl size_desc) rfl ⟨rfl, below_setRow Bt.out (by omega) _⟩

end Go.Proofs.Ytlpldhcoplbopaa
