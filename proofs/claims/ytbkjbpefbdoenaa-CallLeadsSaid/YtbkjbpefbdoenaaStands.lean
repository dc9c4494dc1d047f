/-
  What a word of an answer stands for.
-/
import Derived.Test.YtbkjbpefbdoenaaMayWalk
namespace Go.Proofs.Ytbkjbpefbdoenaa
open Go.RowKit

/-- What a word of an answer stands for: no number, or a whole number. -/
def Stands (v : Nat) : Option Int → Prop
  | none => Fl.isNaN v = true
  | some n => Fl.Is v n

theorem stands_same {v u : Nat} {c : Option Int} (h : Stands v c) (k : Stands u c) : Fl.same v u = true := by
  cases c with
  | none => exact Fl.same_of_nan h k
  | some n => exact Fl.same_of_is h k

def finN (n : Int) : Int × Option Int := if n.natAbs ≤ 9007199254740991 then (0, some n) else (10, some 0)
def Tells (r : Int × Option Int) (w : World) (e : Ending) (w' : World) : Prop :=
  (∃ v, e = .returned (.tuple #[.float .f64 v, .int .i64 r.1]) ∧ Stands v r.2) ∧ Below w.heap.size w w'

theorem may_cases {x : Nat} (h : Fl.may x = true) : Fl.isNaN x = true ∨ (Fl.isNaN x = false ∧ Fl.Is x (Fl.toW x) ∧ (Fl.toW x).natAbs ≤ 9007199254740991) := by
  cases hn : Fl.isNaN x
  · right
    have hw : Fl.isW x = true := by unfold Fl.may at h; rw [hn] at h; simpa using h
    obtain ⟨h1, h2, h3⟩ := (Fl.isW_iff x).1 hw
    unfold Fl.safe at h2 h3
    exact ⟨rfl, h1, by omega⟩
  · exact Or.inl rfl

end Go.Proofs.Ytbkjbpefbdoenaa
