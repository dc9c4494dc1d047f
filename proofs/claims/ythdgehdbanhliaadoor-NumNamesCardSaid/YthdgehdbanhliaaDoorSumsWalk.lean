/-
  The walks of Add, Sub, Mul, Div, Rem, Neg.
-/
import Derived.Test.YthdgehdbanhliaaDoorModCall
namespace Go.Proofs.YthdgehdbanhliaaDoor
open Go.RowKit

/-- What a word of an answer stands for: no number, or a whole number. -/
def Stands (v : Nat) : Option Int → Prop
  | none => Fl.isNaN v = true
  | some n => Fl.Is v n

theorem stands_same {v u : Nat} {c : Option Int} (h : Stands v c) (k : Stands u c) : Fl.same v u = true := by
  cases c with
  | none => exact Fl.same_of_nan h k
  | some n => exact Fl.same_of_is h k

def finN (n : Int) : Int × Option Int := if n.natAbs ≤ 9007199254740991 then (0, some n) else (10, some 0)
def opR (f : Int → Int → Int × Option Int) (x y : Nat) : Int × Option Int :=
  if Fl.may x = false ∨ Fl.may y = false then (2, some 0) else if Fl.isNaN x = true ∨ Fl.isNaN y = true then (0, none) else f (Fl.toW x) (Fl.toW y)
def addF (a b : Int) : Int × Option Int := finN (a + b)
def subF (a b : Int) : Int × Option Int := finN (a - b)
def mulF (a b : Int) : Int × Option Int := if a = 0 ∨ b = 0 then if a < 0 ∨ b < 0 then (10, some 0) else (0, some 0) else finN (a * b)
def divF (a b : Int) : Int × Option Int := if a = 0 ∧ b = 0 then (0, none) else if b = 0 ∨ (a = 0 ∧ b < 0) ∨ a.tmod b ≠ 0 then (10, some 0) else finN (a.tdiv b)
def remF (a b : Int) : Int × Option Int := if b = 0 then (0, none) else if a < 0 ∧ a.tmod b = 0 then (10, some 0) else finN (a.tmod b)
def negR (x : Nat) : Int × Option Int := if Fl.may x = false then (2, some 0) else if Fl.isNaN x = true then (0, none) else if Fl.toW x = 0 then (10, some 0) else finN (-Fl.toW x)

def Tells (r : Int × Option Int) (w : World) (e : Ending) (w' : World) : Prop :=
  (∃ v, e = .returned (.tuple #[.float .f64 v, .int .i64 r.1]) ∧ Stands v r.2) ∧ Below w.heap.size w w'

theorem done_any (v : Nat) (w : World) : Calls Tryd.prog 32 #[.float .f64 v] w fun e w' => e = .returned (.tuple #[.float .f64 (if Fl.may v then v else 0), .int .i64 (if Fl.may v then 0 else 10)]) ∧ w = w' := by
  have M := hid (fun W => may_any v W)
  cases h : Fl.may v
  · go_enter Tryd.func32, Tryd.ntmps32
    go_wp2_with (go_at_call 12; refine (M.out _).mono ?_; rintro e w' ⟨rfl, rfl⟩)
    go_ret2
    exact ⟨rfl, rfl⟩
  · go_enter Tryd.func32, Tryd.ntmps32
    go_wp2_with (go_at_call 12; refine (M.out _).mono ?_; rintro e w' ⟨rfl, rfl⟩)
    go_ret2
    exact ⟨rfl, rfl⟩

theorem may_cases {x : Nat} (h : Fl.may x = true) : Fl.isNaN x = true ∨ (Fl.isNaN x = false ∧ Fl.Is x (Fl.toW x) ∧ (Fl.toW x).natAbs ≤ 9007199254740991) := by
  cases hn : Fl.isNaN x
  · right
    have hw : Fl.isW x = true := by unfold Fl.may at h; rw [hn] at h; simpa using h
    obtain ⟨h1, h2, h3⟩ := (Fl.isW_iff x).1 hw
    unfold Fl.safe at h2 h3
    exact ⟨rfl, h1, by omega⟩
  · exact Or.inl rfl

theorem near_stands {z : Nat} {n : Int} (h : Fl.Near z n) : Stands (if Fl.may z then z else 0) (finN n).2 ∧ (if Fl.may z then (0 : Int) else 10) = (finN n).1 := by
  unfold finN
  by_cases hn : n.natAbs ≤ 9007199254740991
  · have hi := h.2.1 hn
    have hw : Fl.isW z = true := Fl.isW_of_is hi (by unfold Fl.safe; omega) (by unfold Fl.safe; omega)
    have hm : Fl.may z = true := by unfold Fl.may; rw [hw]; simp
    rw [if_pos hn, hm]
    exact ⟨hi, rfl⟩
  · have hw := h.2.2 (by omega)
    have hm : Fl.may z = false := by unfold Fl.may; rw [hw, Fl.fin_not_nan h.1]; rfl
    rw [if_neg hn, hm]
    exact ⟨Fl.is_0, rfl⟩

end Go.Proofs.YthdgehdbanhliaaDoor
