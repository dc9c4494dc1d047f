/-
  ValueSame: values that may be, and the others.
-/
import Derived.Test.YtecadaoncpminaaDoorSameLaw
namespace Go.Proofs.YtecadaoncpminaaDoor
open Go.RowKit

theorem law_same (k1 : Int) (x1 : Nat) (s1 : ByteArray) (r1 : Int) (k2 : Int) (x2 : Nat) (s2 : ByteArray) (r2 : Int) (k3 : Int) (x3 : Nat) (s3 : ByteArray) (r3 : Int) (h0 : 0 ≤ k1) (g0 : 0 ≤ k2) (i0 : 0 ≤ k3) (l1 : -9223372036854775808 ≤ r1) (u1 : r1 ≤ 9223372036854775807) (l2 : -9223372036854775808 ≤ r2) (u2 : r2 ≤ 9223372036854775807) (_ : -9223372036854775808 ≤ r3) (_ : r3 ≤ 9223372036854775807) (w : World) (ht : Tab w) :
    Calls Tryd.prog 4 #[val k1 x1 s1 r1, val k2 x2 s2 r2, val k3 x3 s3 r3] w fun e w' => e = .returned (.bool true) ∧ Below w.heap.size w w' := by
  cases hm : (mayV k1 x1 s1 r1 && (mayV k2 x2 s2 r2 && mayV k3 x3 s3 r3))
  · exact same_no k1 x1 s1 r1 k2 x2 s2 r2 k3 x3 s3 r3 h0 g0 i0 hm w
  · simp only [Bool.and_eq_true] at hm
    exact same_yes k1 x1 s1 r1 k2 x2 s2 r2 k3 x3 s3 r3 h0 g0 i0 l1 u1 l2 u2 hm.1 hm.2.1 hm.2.2 w ht

end Go.Proofs.YtecadaoncpminaaDoor
