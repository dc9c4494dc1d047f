/-
  A value that came in, opened.
-/
import Derived.Test.YtecadaoncpminaaDoorVal
import Derived.Lib.SmallJoins
import Derived.ProofKit
import Derived.OpenShut
namespace Go.Proofs.YtecadaoncpminaaDoor
open Go.ChangeShapes Go.WideShapes Go.ChangeAt Go.RowKit

theorem trod_float {H : Type} {enc : TypeId × Value → H} {P : Program} {w : World} {base : Nat} {spare : Nat → Bool} {held : Bool} {fuel : Nat} {t : TypeId} {cs : List Value} {x : DataW H × List MemPlace} {k : FloatKind}
    (ht : P.underlying t = some (.float k)) (h : DataW.trod enc P w base spare held fuel t cs = some x) : ∃ n, cs = [Value.float k n] := by
  cases fuel with
  | zero => simp [DataW.trod] at h
  | succ n =>
    unfold DataW.trod at h
    rw [ht] at h
    split at h <;> simp_all

theorem cells_val : Tryd.prog.cellsOf 24 = 4 := by kernel_rfl

theorem open_val {H : Type} {enc : TypeId × Value → H} {w : World} {r : Reach} {b0 base : Nat} {spare : Nat → Bool} {held : Bool} {v : Value} {d : DataW H} {p : List MemPlace}
    (hv : Value.okWide Tryd.prog w r b0 24 v) (h : DataW.Trod enc Tryd.prog w base spare held 24 v d p) :
    ∃ k x s n, v = val k x s n ∧ 0 ≤ k ∧ k ≤ 255 ∧ s.size ≤ maxLen ∧ -9223372036854775808 ≤ n ∧ n ≤ 9223372036854775807 := by
  obtain ⟨c0, c1, c2, c3, y0, y1, y2, y3, m, rfl, _, _, g0, g1, g2, g3⟩ := Joins.open_agg4 Tryd.underlying24 (by kernel_rfl) cells_val hv h
  obtain ⟨k, e0, _, wk⟩ := DataW.trod_int Tryd.underlying5 g0
  obtain ⟨x, e1⟩ := trod_float Tryd.underlying22 g1
  obtain ⟨s, e2, _, hs⟩ := DataW.trod_string Tryd.underlying9 g2
  obtain ⟨n, e3, _, wn⟩ := DataW.trod_int Tryd.underlying3 g3
  simp only [List.cons.injEq, and_true] at e0 e1 e2 e3
  subst e0 e1 e2 e3
  exact ⟨k, x, s, n, rfl, (bounds_u8 wk).1, (bounds_u8 wk).2, hs, (bounds_i64 wn).1, (bounds_i64 wn).2⟩

end Go.Proofs.YtecadaoncpminaaDoor
