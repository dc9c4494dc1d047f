/-
  Structs compared by '==', field by field.
-/
import Derived.Test.YtbkjbpefbdoenaaRows
import Derived.WalkKit
import Derived.Laws.StructEq
namespace Go.Proofs.Ytbkjbpefbdoenaa
open Go.RowKit

section
variable {P : Program}
theorem eqS_float (d : Nat) (t : TypeId) (a b : Nat) (k' : FloatKind) (h : P.underlying t = some (.float k')) (w : World) : (Op.equalIn (d + 1) t (.float .f64 a) (.float .f64 b)).run P w = .ok (FloatKind.f64.format.order a b == some .eq) w := by
  simp [Op.equalIn, run_underlying h, Op.floatEq]

/-- Is a type one cell wide, and no struct or array? -/
def plainT (P : Program) (t : TypeId) : Bool := match P.underlying t with | some (.struct _) => false | some (.array _ _) => false | none => false | _ => true
theorem part_plain {t : TypeId} (h : plainT P t = true) {cs : Array Value} {o : Nat} {v : Value} (hv : cs[o]? = some v) (w : World) : (part t cs o).run P w = .ok v w := by
  unfold plainT at h
  cases hu : P.underlying t with
  | none => rw [hu] at h; cases h
  | some d =>
    have hA : (isAgg t).run P w = .ok false w := by
      rw [hu] at h
      simp only [isAgg, Sem.run_bind, run_underlying hu, Result.andThen_ok]
      cases d <;> first | rfl | cases h
    simp only [part, Sem.run_bind, hA, Result.andThen_ok, hv]
    rfl
theorem eqF_plain {d : Nat} {xs ys : Array Value} {f : Field} {fs : List Field} {a b : Value} {r : Bool} (hn : f.name ≠ "_") (hp : plainT P f.type = true) (hx : xs[f.offset]? = some a) (hy : ys[f.offset]? = some b) (he : ∀ w, (Op.equalIn d f.type a b).run P w = .ok r w) (w : World) :
    (Op.eqFields d xs ys (f :: fs)).run P w = if r then (Op.eqFields d xs ys fs).run P w else .ok false w := by
  simp only [Op.eqFields, if_pos hn, Sem.run_bind, part_plain hp hx, part_plain hp hy, Result.andThen_ok, he, Sem.run_ite]
  cases r <;> rfl
theorem eqF_nil {d : Nat} {xs ys : Array Value} (w : World) : (Op.eqFields d xs ys []).run P w = .ok true w := rfl
end

end Go.Proofs.Ytbkjbpefbdoenaa
