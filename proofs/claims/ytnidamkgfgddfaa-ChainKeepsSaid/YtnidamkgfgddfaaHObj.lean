/-
  May the object with a number be in a heap: heap.object, whole.
-/
import Derived.Test.YtnidamkgfgddfaaHObject
import Derived.Test.YtnidamkgfgddfaaHArray
import Derived.Test.YtnidamkgfgddfaaHProxy
namespace Go.Proofs.Ytnidamkgfgddfaa
open Go.RowKit

/-- The keys of a heap's properties can be read. -/
def HKeys (h : HI) : Prop := ∀ e ∈ h, ∀ q ∈ e.2, q.k.s.size ≤ maxLen
/-- May an object be in a heap? -/
def objB (h : HI) (n : Nat) (e : OJ × List PI) : Bool := if e.1.kd = 6 then prxB h n e.1 e.2 else plainB arrB boxB h n e.1 e.2
theorem obj_any (h : HI) (hok : HOk h) (hk : HKeys h) (hv : Value) (n : Nat) (hn : n < h.length) (w : World) (hr : RdH h hv w) : Calls Try.prog 24 #[.agg #[hv], .int .i64 n] w fun e w' => e = .returned (.bool (objB h n (h[n]'hn))) ∧ Below w.heap.size w w' :=
  have hm := List.getElem_mem hn
  object_any arrB boxB (prxB h n (h[n]'hn).1 (h[n]'hn).2) h hok hv n hn w hr
    (fun _ W hb => array_any _ (hk _ hm) _ W ((hr.props _ hm).on hb))
    (fun _ W hb => boxed_any _ (hk _ hm) _ _ W ((hr.props _ hm).on hb))
    (fun _ W hb => proxy_any h hok hv n _ _ (hok _ hm).1 W (hr.on hb) ((hr.props _ hm).on hb) (Nat.le_of_lt hn))

end Go.Proofs.Ytnidamkgfgddfaa
