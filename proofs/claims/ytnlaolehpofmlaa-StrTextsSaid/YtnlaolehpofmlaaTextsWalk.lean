/-
  The walk of the law StrTexts.
-/
import Derived.Test.YtnlaolehpofmlaaRefPlainWalk
import Derived.Test.YtnlaolehpofmlaaQuoteWalk
import Derived.Test.YtnlaolehpofmlaaRefQuoteWalk
import Derived.Test.YtnlaolehpofmlaaLaw
namespace Go.Proofs.Ytnlaolehpofmlaa
open Go.RowKit

set_option maxHeartbeats 1000000 in
set_option maxRecDepth 100000 in
theorem law_texts (s : ByteArray) (hs : s.size ≤ maxLen) (w : World) : Calls Try.prog 3 #[.string s] w fun e w' => e = .returned (.bool true) ∧ Below w.heap.size w w' := by
  have hm : s.size ≤ 9223372036854775807 := by unfold maxLen at hs; omega
  clear hs
  have P := hidB (fun W => plain_any s W hm)
  have R := hidB (fun W => refPlain_any s W hm)
  by_cases h1 : s.size ≤ 9000
  · have Q := hidB (fun W => quote_any s W h1)
    have T := hidB (fun W => refQuote_any s W h1)
    go_enter Try.func3, Try.ntmps3
    go_wp2_with fail
    refine (P.out _).mono ?_; rintro e w1 ⟨rfl, b1⟩
    have B1 := hidB b1; clear b1
    go_wp2_with fail
    refine (R.out _).mono ?_; rintro e w2 ⟨rfl, b2⟩
    have B2 := hidB b2; clear b2
    go_wp2_with fail
    refine (Q.out _).mono ?_; rintro e w3 ⟨rfl, b3⟩
    have B3 := hidB b3; clear b3
    go_wp2_with fail
    refine (T.out _).mono ?_; rintro e w4 ⟨rfl, rfl⟩
    go_wp2_with fail
    go_ret
    exact ⟨rfl, grow B1.out (grow B2.out B3.out)⟩
  · by_cases h2 : s.size ≤ 65536
    · go_enter Try.func3, Try.ntmps3
      go_wp2_with fail
      go_ret
      exact ⟨rfl, Below.refl _ _⟩
    · by_cases h3 : 70000 < s.size
      · go_enter Try.func3, Try.ntmps3
        go_wp2_with fail
        go_ret
        exact ⟨rfl, Below.refl _ _⟩
      · go_enter Try.func3, Try.ntmps3
        go_wp2_with fail
        refine (P.out _).mono ?_; rintro e w1 ⟨rfl, b1⟩
        have B1 := hidB b1; clear b1
        go_wp2_with fail
        refine (R.out _).mono ?_; rintro e w2 ⟨rfl, b2⟩
        have B2 := hidB b2; clear b2
        go_wp2_with fail
        go_ret
        exact ⟨rfl, grow B1.out B2.out⟩

end Go.Proofs.Ytnlaolehpofmlaa
