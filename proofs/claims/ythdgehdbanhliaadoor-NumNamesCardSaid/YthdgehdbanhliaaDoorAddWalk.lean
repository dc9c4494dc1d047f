/-
  The walks of num.Add, Sub, Mul and Neg.
-/
import Derived.Test.YthdgehdbanhliaaDoorSumsWalk
namespace Go.Proofs.YthdgehdbanhliaaDoor
open Go.RowKit

theorem nan_none {x y : Nat} (h : Fl.isNaN x = true ∨ Fl.isNaN y = true) : floatBits .add .f64 x y = none ∧ floatBits .sub .f64 x y = none ∧ floatBits .mul .f64 x y = none ∧ floatBits .quo .f64 x y = none := by
  show ((Ieee.double.read x).sum (Ieee.double.read y)).map Ieee.double.write = none ∧ ((Ieee.double.read x).sum (Ieee.double.read y).opposite).map Ieee.double.write = none ∧
    ((Ieee.double.read x).product (Ieee.double.read y)).map Ieee.double.write = none ∧ ((Ieee.double.read x).quotient 54 (Ieee.double.read y)).map Ieee.double.write = none
  rcases h with h | h
  · obtain ⟨s, t, e⟩ := Fl.read_nan h
    rw [e]; exact ⟨rfl, rfl, rfl, rfl⟩
  · obtain ⟨s, t, e⟩ := Fl.read_nan h
    rw [e]
    cases Ieee.double.read x <;> exact ⟨rfl, rfl, rfl, rfl⟩

/-- What done makes of a word: which answer that is. -/
def Makes (z : Nat) (r : Int × Option Int) : Prop := Stands (if Fl.may z then z else 0) r.2 ∧ (if Fl.may z then (0 : Int) else 10) = r.1

theorem makes_nan {z : Nat} (h : Fl.isNaN z = true) : Makes z (0, none) := by
  have hm : Fl.may z = true := by unfold Fl.may; rw [h]; rfl
  unfold Makes; rw [hm]; exact ⟨h, rfl⟩
theorem makes_no {z : Nat} (h : Fl.isNaN z = false) (hw : Fl.isW z = false) : Makes z (10, some 0) := by
  have hm : Fl.may z = false := by unfold Fl.may; rw [h, hw]; rfl
  unfold Makes; rw [hm]; exact ⟨Fl.is_0, rfl⟩
theorem makes_is {z : Nat} {n : Int} (h : Fl.Is z n) (hb : n.natAbs ≤ 9007199254740991) : Makes z (0, some n) := by
  have hw : Fl.isW z = true := Fl.isW_of_is h (by unfold Fl.safe; omega) (by unfold Fl.safe; omega)
  have hm : Fl.may z = true := by unfold Fl.may; rw [hw]; simp
  unfold Makes; rw [hm]; exact ⟨h, rfl⟩
theorem makes_near {z : Nat} {n : Int} (h : Fl.Near z n) : Makes z (finN n) := near_stands h

theorem done_tells (v : Nat) (r : Int × Option Int) (h : Makes v r) (w : World) : Calls Tryd.prog 32 #[.float .f64 v] w fun e w' => (∃ u, e = .returned (.tuple #[.float .f64 u, .int .i64 r.1]) ∧ Stands u r.2) ∧ w = w' := by
  refine (done_any v w).mono ?_
  rintro e w' ⟨rfl, rfl⟩
  exact ⟨⟨_, congrArg (fun q => Ending.returned (.tuple #[.float .f64 _, .int .i64 q])) h.2, h.1⟩, rfl⟩

theorem add_makes {x y : Nat} {a b : Int} (hx : Fl.Is x a) (hy : Fl.Is y b) (ha : a.natAbs < 2 ^ 53) (hb : b.natAbs < 2 ^ 53) : ∃ z, floatBits .add .f64 x y = some z ∧ Makes z (addF a b) := by
  obtain ⟨z, h, k⟩ := Fl.add_near hx hy ha hb
  exact ⟨z, h, makes_near k⟩
theorem sub_makes {x y : Nat} {a b : Int} (hx : Fl.Is x a) (hy : Fl.Is y b) (ha : a.natAbs < 2 ^ 53) (hb : b.natAbs < 2 ^ 53) : ∃ z, floatBits .sub .f64 x y = some z ∧ Makes z (subF a b) := by
  obtain ⟨z, h, k⟩ := Fl.sub_near hx hy ha hb
  exact ⟨z, h, makes_near k⟩
theorem mul_makes {x y : Nat} {a b : Int} (hx : Fl.Is x a) (hy : Fl.Is y b) (ha : a.natAbs < 2 ^ 53) (hb : b.natAbs < 2 ^ 53) : ∃ z, floatBits .mul .f64 x y = some z ∧ Makes z (mulF a b) := by
  obtain ⟨z, h, hf, k1, k2⟩ := Fl.mul_near hx hy ha hb
  refine ⟨z, h, ?_⟩
  unfold mulF
  by_cases h0 : a = 0 ∨ b = 0
  · obtain ⟨k3, k4⟩ := k2 h0
    rw [if_pos h0]
    by_cases h1 : a < 0 ∨ b < 0
    · rw [if_pos h1]
      refine makes_no (Fl.fin_not_nan hf) (k4 ?_)
      rcases h0 with rfl | rfl <;> rcases h1 with h1 | h1 <;> simp at h1 ⊢ <;> omega
    · rw [if_neg h1]
      refine makes_is (k3 ?_) (by decide)
      rw [decide_eq_false (by omega), decide_eq_false (by omega)]; rfl
  · rw [if_neg h0]
    exact makes_near (k1 (by omega))

theorem add_any (x y : Nat) (w : World) : Calls Tryd.prog 16 #[.float .f64 x, .float .f64 y] w (Tells (opR addF x y) w) := by
  cases h1 : Fl.may x
  · have e : opR addF x y = (2, some 0) := if_pos (Or.inl h1)
    rw [e]
    clear e
    go_enter Tryd.func16, Tryd.ntmps16
    go_wp2_with (go_at_call 12; refine (may_any _ _).mono ?_; rintro e w' ⟨rfl, rfl⟩)
    go_ret2
    exact ⟨⟨0, rfl, Fl.is_0⟩, Below.refl _ _⟩
  cases h2 : Fl.may y
  · have e : opR addF x y = (2, some 0) := if_pos (Or.inr h2)
    rw [e]
    clear e
    go_enter Tryd.func16, Tryd.ntmps16
    go_wp2_with (go_at_call 12; refine (may_any _ _).mono ?_; rintro e w' ⟨rfl, rfl⟩)
    go_ret2
    exact ⟨⟨0, rfl, Fl.is_0⟩, Below.refl _ _⟩
  by_cases hn : Fl.isNaN x = true ∨ Fl.isNaN y = true
  · have e : opR addF x y = (0, none) := by unfold opR; rw [if_neg (by simp [h1, h2]), if_pos hn]
    rw [e]
    obtain ⟨r, hr, hrun⟩ := run_float_nan (P := Tryd.prog) .add 22 x y (by simp) (nan_none hn).1 w
    have D := hid (fun W => done_tells r _ (makes_nan hr) W)
    clear hr hn e
    go_enter Tryd.func16, Tryd.ntmps16
    go_wp2_with (first | (go_at_call 12; refine (may_any _ _).mono ?_; rintro e w' ⟨rfl, rfl⟩) | (go_at_call 32; refine (D.out _).mono ?_; rintro e w' ⟨⟨u, rfl, hu⟩, rfl⟩; have Hu := hid hu; clear hu))
    go_ret2
    exact ⟨⟨u, rfl, Hu.out⟩, (Below.refl _ _).drew⟩
  · have hnx : Fl.isNaN x = false := by cases h : Fl.isNaN x <;> simp_all
    have hny : Fl.isNaN y = false := by cases h : Fl.isNaN y <;> simp_all
    rcases may_cases h1 with h | ⟨_, hx, hxb⟩
    · rw [h] at hnx; cases hnx
    rcases may_cases h2 with h | ⟨_, hy, hyb⟩
    · rw [h] at hny; cases hny
    have e : opR addF x y = addF (Fl.toW x) (Fl.toW y) := by unfold opR; rw [if_neg (by simp [h1, h2]), if_neg hn]
    rw [e]
    obtain ⟨z, hz, hm⟩ := add_makes hx hy (by omega) (by omega)
    have hrun := fun W t => run_float_arith (P := Tryd.prog) W .add t .f64 x y z hz
    generalize addF (Fl.toW x) (Fl.toW y) = r at *
    have D := hid (fun W => done_tells z r hm W)
    clear hn hx hy hxb hyb hz hm e hnx hny
    go_enter Tryd.func16, Tryd.ntmps16
    go_wp2_with (first | (go_at_call 12; refine (may_any _ _).mono ?_; rintro e w' ⟨rfl, rfl⟩) | (go_at_call 32; refine (D.out _).mono ?_; rintro e w' ⟨⟨u, rfl, hu⟩, rfl⟩; have Hu := hid hu; clear hu))
    go_ret2
    exact ⟨⟨u, rfl, Hu.out⟩, Below.refl _ _⟩


theorem mul_any (x y : Nat) (w : World) : Calls Tryd.prog 17 #[.float .f64 x, .float .f64 y] w (Tells (opR mulF x y) w) := by
  cases h1 : Fl.may x
  · have e : opR mulF x y = (2, some 0) := if_pos (Or.inl h1)
    rw [e]
    clear e
    go_enter Tryd.func17, Tryd.ntmps17
    go_wp2_with (go_at_call 12; refine (may_any _ _).mono ?_; rintro e w' ⟨rfl, rfl⟩)
    go_ret2
    exact ⟨⟨0, rfl, Fl.is_0⟩, Below.refl _ _⟩
  cases h2 : Fl.may y
  · have e : opR mulF x y = (2, some 0) := if_pos (Or.inr h2)
    rw [e]
    clear e
    go_enter Tryd.func17, Tryd.ntmps17
    go_wp2_with (go_at_call 12; refine (may_any _ _).mono ?_; rintro e w' ⟨rfl, rfl⟩)
    go_ret2
    exact ⟨⟨0, rfl, Fl.is_0⟩, Below.refl _ _⟩
  by_cases hn : Fl.isNaN x = true ∨ Fl.isNaN y = true
  · have e : opR mulF x y = (0, none) := by unfold opR; rw [if_neg (by simp [h1, h2]), if_pos hn]
    rw [e]
    obtain ⟨r, hr, hrun⟩ := run_float_nan (P := Tryd.prog) .mul 22 x y (by simp) (nan_none hn).2.2.1 w
    have D := hid (fun W => done_tells r _ (makes_nan hr) W)
    clear hr hn e
    go_enter Tryd.func17, Tryd.ntmps17
    go_wp2_with (first | (go_at_call 12; refine (may_any _ _).mono ?_; rintro e w' ⟨rfl, rfl⟩) | (go_at_call 32; refine (D.out _).mono ?_; rintro e w' ⟨⟨u, rfl, hu⟩, rfl⟩; have Hu := hid hu; clear hu))
    go_ret2
    exact ⟨⟨u, rfl, Hu.out⟩, (Below.refl _ _).drew⟩
  · have hnx : Fl.isNaN x = false := by cases h : Fl.isNaN x <;> simp_all
    have hny : Fl.isNaN y = false := by cases h : Fl.isNaN y <;> simp_all
    rcases may_cases h1 with h | ⟨_, hx, hxb⟩
    · rw [h] at hnx; cases hnx
    rcases may_cases h2 with h | ⟨_, hy, hyb⟩
    · rw [h] at hny; cases hny
    have e : opR mulF x y = mulF (Fl.toW x) (Fl.toW y) := by unfold opR; rw [if_neg (by simp [h1, h2]), if_neg hn]
    rw [e]
    obtain ⟨z, hz, hm⟩ := mul_makes hx hy (by omega) (by omega)
    have hrun := fun W t => run_float_arith (P := Tryd.prog) W .mul t .f64 x y z hz
    generalize mulF (Fl.toW x) (Fl.toW y) = r at *
    have D := hid (fun W => done_tells z r hm W)
    clear hn hx hy hxb hyb hz hm e hnx hny
    go_enter Tryd.func17, Tryd.ntmps17
    go_wp2_with (first | (go_at_call 12; refine (may_any _ _).mono ?_; rintro e w' ⟨rfl, rfl⟩) | (go_at_call 32; refine (D.out _).mono ?_; rintro e w' ⟨⟨u, rfl, hu⟩, rfl⟩; have Hu := hid hu; clear hu))
    go_ret2
    exact ⟨⟨u, rfl, Hu.out⟩, Below.refl _ _⟩

theorem neg_makes {x : Nat} (h : Fl.may x = true) : Makes (Fl.negW x) (negR x) := by
  unfold negR
  rw [if_neg (by simp [h])]
  rcases may_cases h with hn | ⟨hn, hx, hb⟩
  · rw [if_pos hn]
    exact makes_nan (by rw [Fl.isNaN_neg]; exact hn)
  · rw [if_neg (by simp [hn])]
    by_cases h0 : Fl.toW x = 0
    · rw [if_pos h0]
      rw [h0] at hx
      exact makes_no (by rw [Fl.isNaN_neg]; exact hn) (Fl.not_isW_neg0 hx)
    · rw [if_neg h0]
      have e : finN (-Fl.toW x) = (0, some (-Fl.toW x)) := by unfold finN; rw [if_pos (by omega)]
      rw [e]
      exact makes_is (Fl.is_neg hx h0) (by omega)

theorem neg_any (x : Nat) (w : World) : Calls Tryd.prog 18 #[.float .f64 x] w (Tells (negR x) w) := by
  cases h1 : Fl.may x
  · have e : negR x = (2, some 0) := if_pos h1
    rw [e]
    clear e
    go_enter Tryd.func18, Tryd.ntmps18
    go_wp2_with (go_at_call 12; refine (may_any _ _).mono ?_; rintro e w' ⟨rfl, rfl⟩)
    go_ret2
    exact ⟨⟨0, rfl, Fl.is_0⟩, Below.refl _ _⟩
  · have D := hid (fun W => done_tells _ _ (neg_makes h1) W)
    have hrun := fun W => Fl.run_neg_f64 Tryd.prog x W
    generalize negR x = r at *
    go_enter Tryd.func18, Tryd.ntmps18
    go_wp2_with (first | (go_at_call 12; refine (may_any _ _).mono ?_; rintro e w' ⟨rfl, rfl⟩) | (go_at_call 32; refine (D.out _).mono ?_; rintro e w' ⟨⟨u, rfl, hu⟩, rfl⟩; have Hu := hid hu; clear hu))
    go_ret2
    exact ⟨⟨u, rfl, Hu.out⟩, Below.refl _ _⟩

end Go.Proofs.YthdgehdbanhliaaDoor
