/-
  The walk of 'wrong': a text that is refused at a place.
-/
import Derived.Test.YtkomjmgmancinaaDoorTokMem
namespace Go.Proofs.YtkomjmgmancinaaDoor
open Go.RowKit

set_option maxHeartbeats 2000000 in
set_option maxRecDepth 100000 in
theorem wrong_any (s : ByteArray) (hs : s.size ≤ 70000) (p : Nat) (hl : lexR s.data.toList = ([], p, 5)) (w : World) (hm : Mx w) : Calls Tryd.prog 21 #[.string s, .int .i64 p] w fun e w' => e = .returned (.bool true) ∧ Below w.heap.size w w' := by
  have TA := hidB (fun W h => tokens_any s hs W h)
  unfold TokensQ at TA
  rw [hl] at TA
  simp only at TA
  have M := hidB hm
  clear hm hl
  go_enter Tryd.func21, Tryd.ntmps21
  go_wp2_with fail
  refine (TA.out _ M.out).mono ?_; rintro e w1 ⟨v1, c1, rfl, hr1, hm1, hb1⟩
  have B1 := hidB hb1
  obtain ⟨pa, xa, rfl, hpa⟩ := rowT_form hr1
  have hlen := mts_length hm1
  simp only [List.length_nil] at hlen
  rw [← hlen]
  clear hb1 hr1 hm1 hpa hlen
  go_wp2_with fail
  go_ret
  exact ⟨rfl, B1.out⟩

end Go.Proofs.YtkomjmgmancinaaDoor
