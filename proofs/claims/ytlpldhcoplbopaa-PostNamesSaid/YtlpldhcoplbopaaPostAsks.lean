/-
  The statements' own ask and yes.
-/
import Derived.Test.YtlpldhcoplbopaaPostAsked
namespace Go.Proofs.Ytlpldhcoplbopaa
open Go.RowKit

def askI (m : Int) : AI := ⟨m, 0, ⟨⟨#[]⟩, 0⟩, DI.zero, VI.zero, VI.zero, .slice none 0 0⟩
def yesI (b : Bool) : OI := ⟨1, VI.zero, b, false, DI.zero, .slice none 0 0, 0, ⟨#[]⟩⟩
set_option maxHeartbeats 2000000 in
set_option maxRecDepth 100000 in
theorem ask_any (m : Int) (w : World) : Calls Try.prog 17 #[.int .u8 m] w fun e w' => e = .returned (askI m).a ∧ Below w.heap.size w w' := by
  go_enter Try.func17, Try.ntmps17
  go_wp2_with (first | ((with_reducible refine wpId ?_); refine wpList_build_to (by rfl) 35 _ (by rfl) (askI m).cs (by kernel_rfl) ?_) | ((with_reducible refine wpId ?_); refine wpList_store_new (by rfl) 35 (.tmp 2) (.tmp 4) (by rfl) (askI m).cs 35 _ (by rfl) (by rfl) (by kernel_rfl) (by rfl) (by kernel_rfl) ?_))
  exact bodyPost_ret (v := (askI m).a) (results_cell_row Try.results17 _ _ w.heap.size 35 (askI m).cs (0, 0) _ rfl (alloc_at w _) Try.underlying35 rfl (by kernel_rfl)) rfl ⟨rfl, box_one _ _⟩
set_option maxHeartbeats 2000000 in
set_option maxRecDepth 100000 in
theorem yes_any (b : Bool) (w : World) : Calls Try.prog 18 #[.bool b] w fun e w' => e = .returned (yesI b).a ∧ Below w.heap.size w w' := by
  go_enter Try.func18, Try.ntmps18
  go_wp2_with (first | ((with_reducible refine wpId ?_); refine wpList_build_to (by rfl) 38 _ (by rfl) (yesI b).cs (by kernel_rfl) ?_) | ((with_reducible refine wpId ?_); refine wpList_store_new (by rfl) 38 (.tmp 2) (.tmp 4) (by rfl) (yesI b).cs 38 _ (by rfl) (by rfl) (by kernel_rfl) (by rfl) (by kernel_rfl) ?_))
  exact bodyPost_ret (v := (yesI b).a) (results_cell_row Try.results18 _ _ w.heap.size 38 (yesI b).cs (0, 0) _ rfl (alloc_at w _) Try.underlying38 rfl (by kernel_rfl)) rfl ⟨rfl, box_one _ _⟩

end Go.Proofs.Ytlpldhcoplbopaa
