/-
  The walk of the statements' own 'token'.
-/
import Derived.Test.YtkomjmgmancinaaDoorTokPlain
import Derived.Test.YtkomjmgmancinaaDoorTokWalk
namespace Go.Proofs.YtkomjmgmancinaaDoor
open Go.RowKit

set_option maxRecDepth 100000 in
theorem lawToken_any (k : Int) (s : ByteArray) (p : Int) (w : World) : Calls Tryd.prog 41 #[.int .u8 k, .string s, .int .i64 p] w fun e w' => e = .returned (.agg #[.int .u8 k, .int .i64 p, .string s, .float .f64 0]) ∧ Below w.heap.size w w' := by
  go_enter Tryd.func41, Tryd.ntmps41
  go_wp2_with fail
  refine bodyPost_ret (v := .agg #[.int .u8 k, .int .i64 p, .string s, .float .f64 0]) (by simp [results, Tryd.results41, go_sem]) rfl ?_
  exact ⟨rfl, box_one _ _⟩

end Go.Proofs.YtkomjmgmancinaaDoor
