/-
  The reference's word on keys.
-/
import Derived.Test.YtbkjbpefbdoenaaPostKeys
import Derived.Test.YtbkjbpefbdoenaaRefVal
import Derived.Deep.LoopGhost
namespace Go.Proofs.Ytbkjbpefbdoenaa
open Go.RowKit

set_option maxHeartbeats 8000000 in
set_option maxRecDepth 100000 in
theorem rkey_any (k : KI) (hs : k.s.size ≤ maxLen) (w : World) : Calls Try.prog 63 #[k.a] w fun e w' => e = .returned (.int .i64 k.err) ∧ Below w.heap.size w w' := by
  unfold maxLen at hs
  obtain ⟨er, he⟩ : ∃ er : Int, k.err = er := ⟨_, rfl⟩
  rw [he]
  unfold KI.err KI.ok at he
  have hE : k.s.toList.isEmpty = decide (k.s.size = 0) := by rw [Bool.eq_iff_iff, empty_size, decide_eq_true_eq]
  rw [hE] at he
  clear hE
  have X := hidB (show Bk (w.alloc (.cells (k.cells.toArray) 38)) (w.heap.size) 38 (k.cells.toArray) from Bk.new w _ _)
  have B := hidB (show Below w.heap.size w (w.alloc (.cells (k.cells.toArray) 38)) from box_one w _)
  go_enter Try.func63, Try.ntmps63
  go_upto_region 1 with fail
  generalize hW : (w.alloc (.cells (k.cells.toArray) 38)) = w1 at *
  clear hW
  have x0 : w1.cell? ⟨w.heap.size, 0, none⟩ = some (.string k.s) := X.out.cell 0
  have x1 : w1.cell? ⟨w.heap.size, 1, none⟩ = some (.int .i64 k.n) := X.out.cell 1
  by_cases h1 : k.n < 0 <;> by_cases h2 : 4096 < k.s.size <;> by_cases h3 : 0 < k.n <;> by_cases h4 : k.s.size = 0
  all_goals try exact absurd h3 (by omega)
  all_goals try exact absurd h4 (by omega)
  all_goals
    first | (have h2i : (4096 : Int) < (k.s.size : Int) := by omega) | (have h2i : ¬ (4096 : Int) < (k.s.size : Int) := by omega)
    first | (have h4i : (0 : Int) < (k.s.size : Int) := by omega) | (have h4i : ¬ (0 : Int) < (k.s.size : Int) := by omega)
    simp [h1, h2, h3, h4] at he
    subst he
    clear h2 h4
    go_wp2_with fail
    go_ret
    exact ⟨rfl, B.out⟩

end Go.Proofs.Ytbkjbpefbdoenaa
