/-
  The walk of 'only': a text that is one token and the end.
-/
import Derived.Test.YtkomjmgmancinaaDoorTokMem
namespace Go.Proofs.YtkomjmgmancinaaDoor
open Go.RowKit

set_option maxHeartbeats 2000000 in
set_option maxRecDepth 100000 in
theorem only_any (s text : ByteArray) (hs : s.size ≤ 70000) (k : Int) (tk tz : Tk) (hl : lexR s.data.toList = ([tk, tz], 0, 0)) (hk : tk.k = k) (ht : text.data.toList = tk.text) (w : World) (hm : Mx w) : Calls Tryd.prog 20 #[.string s, .int .u8 k, .string text] w fun e w' => e = .returned (.bool true) ∧ Below w.heap.size w w' := by
  have TA := hidB (fun W h => tokens_any s hs W h)
  unfold TokensQ at TA
  rw [hl] at TA
  simp only at TA
  have M := hidB hm
  have HK := hidB hk
  have HT := hidB ht
  clear hm hl hk ht
  go_enter Tryd.func20, Tryd.ntmps20
  go_wp2_with fail
  refine (TA.out _ M.out).mono ?_; rintro e w1 ⟨v1, c1, rfl, hr1, hm1, hb1⟩
  have B1 := hidB hb1
  obtain ⟨pa, xa, rfl, hpa⟩ := rowT_form hr1
  have hlen := mts_length hm1
  simp only [List.length_cons, List.length_nil] at hlen
  obtain ⟨g, rfl⟩ := hpa (by omega)
  have h0 : 0 < c1.length := by omega
  obtain ⟨l0, l1, l2, l3⟩ := tok_loads hr1 0 h0
  obtain ⟨a1, a2, a3, a4⟩ := mts_get hm1 0 (by simp) h0
  simp only [List.getElem_cons_zero] at a1 a2 a3 a4
  have e1 : c1[0].k = k := a1.trans HK.out
  have e3 : c1[0].text = text := text_eq HT.out a3
  rw [e1] at l0
  rw [e3] at l2
  simp only [Nat.zero_mul, Nat.zero_add] at l0 l1 l2 l3
  rw [← hlen]
  clear hb1 hr1 hm1 hpa a1 a2 a3 a4 e1 e3 h0 hlen l1 l3
  go_wp2_with fail
  go_ret
  exact ⟨rfl, B1.out⟩

end Go.Proofs.YtkomjmgmancinaaDoor
