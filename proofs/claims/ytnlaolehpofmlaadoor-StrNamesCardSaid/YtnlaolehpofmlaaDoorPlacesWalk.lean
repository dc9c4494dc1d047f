/-
  The walk of the law StrPlaces.
-/
import Derived.Test.YtnlaolehpofmlaaDoorFindWalk
import Derived.Test.YtnlaolehpofmlaaDoorLaw
namespace Go.Proofs.YtnlaolehpofmlaaDoor
open Go.RowKit

theorem ba_eq {r q : ByteArray} (h : r.data.toList = q.data.toList) : r = q := by
  cases r; cases q
  have e := Array.toList_inj.1 h
  exact congrArg ByteArray.mk e

set_option maxHeartbeats 1000000 in
set_option maxRecDepth 100000 in
theorem law_places (s : ByteArray) (hs : s.size ≤ maxLen) (t : ByteArray) (ht : t.size ≤ maxLen) (i : Int) (_si : (Lit.int .i64 i).wf = true) (x y : Nat) (w : World) (hm : Mx w) : Calls Tryd.prog 3 #[.string s, .string t, .int .i64 i, .float .f64 x, .float .f64 y] w fun e w' => e = .returned (.bool true) ∧ Below w.heap.size w w' := by
  unfold maxLen at hs ht
  have M := hidB hm
  clear hm
  by_cases h1 : s.size ≤ 9000
  · by_cases h2 : t.size ≤ 9000
    · have A1 := hidB (fun W => at_any s i h1 W)
      have A2 := hidB (fun W => refAt_any s i h1 W)
      have P1 := hidB (fun W => part_any s x y h1 W)
      have P2 := hidB (fun W => refPart_any s x y h1 W)
      have F1 := hidB (fun W => find_any s t i h1 W)
      have F2 := hidB (fun W => refFind_any s t i h1 h2 W)
      have L1 := hidB (fun W => less_any s t W)
      have L2 := hidB (fun W => refLess_any s t h1 h2 W)
      have T1 := hidB (fun W => trimP_any s W h1)
      have T2 := hidB (fun W => refTrim_any s W h1)
      go_enter Tryd.func3, Tryd.ntmps3
      go_wp2_with fail
      refine (A1.out _).mono ?_; rintro e w1 ⟨rfl, b1⟩
      have B := hidB b1; clear b1
      go_wp2_with fail
      refine (A2.out _).mono ?_; rintro e w2 ⟨rfl, b2⟩
      replace B := hidB (grow B.out b2); clear b2
      go_wp2_with fail
      refine (P1.out _).mono ?_; rintro e w3 ⟨rfl, rfl⟩
      go_wp2_with fail
      refine (P2.out _).mono ?_; rintro e w3 ⟨rfl, rfl⟩
      go_wp2_with fail
      refine (F1.out _ (mx_below M.out B.out)).mono ?_; rintro e w3 ⟨rfl, rfl⟩
      go_wp2_with fail
      refine (F2.out _).mono ?_; rintro e w3 ⟨rfl, b3⟩
      replace B := hidB (grow B.out b3); clear b3
      go_wp2_with fail
      refine (L1.out _).mono ?_; rintro e w4 ⟨rfl, rfl⟩
      go_wp2_with fail
      refine (L2.out _).mono ?_; rintro e w4 ⟨rfl, b4⟩
      replace B := hidB (grow B.out b4); clear b4
      go_wp2_with fail
      refine (T1.out _).mono ?_; rintro e w5 ⟨⟨r, rfl, hr⟩, b5⟩
      replace B := hidB (grow B.out b5); clear b5
      have HR := hidB hr; clear hr
      go_wp2_with fail
      refine (T2.out _).mono ?_; rintro e w6 ⟨⟨q, rfl, hq⟩, b6⟩
      replace B := hidB (grow B.out b6); clear b6
      obtain rfl : r = q := ba_eq (HR.out.trans hq.symm)
      clear hq
      go_wp2_with fail
      go_ret
      exact ⟨rfl, B.out⟩
    · go_enter Tryd.func3, Tryd.ntmps3
      go_wp2_with fail
      go_ret
      exact ⟨rfl, Below.refl _ _⟩
  · go_enter Tryd.func3, Tryd.ntmps3
    go_wp2_with fail
    go_ret
    exact ⟨rfl, Below.refl _ _⟩

end Go.Proofs.YtnlaolehpofmlaaDoor
