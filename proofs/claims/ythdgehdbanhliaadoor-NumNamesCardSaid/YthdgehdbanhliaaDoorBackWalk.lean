/-
  The walk of NumBack: what was reckoned is reckoned back.
-/
import Derived.Test.YthdgehdbanhliaaDoorDivWalk
import Derived.Test.YthdgehdbanhliaaDoorLaw
import Derived.Deep.DeepCutAuto
import Derived.Outline
namespace Go.Proofs.YthdgehdbanhliaaDoor
open Go.RowKit

theorem noneLaw_any (x : Nat) (w : World) : Calls Tryd.prog 13 #[.float .f64 x] w fun e w' => e = .returned (.bool (Fl.isNaN x)) ∧ w = w' := by
  cases h : Fl.isNaN x
  · have ha := ordE h
    clear h
    go_enter Tryd.func13, Tryd.ntmps13
    go_wp2
    go_ret
    exact ⟨rfl, rfl⟩
  · have ha := ordN h
    clear h
    go_enter Tryd.func13, Tryd.ntmps13
    go_wp2
    go_ret
    exact ⟨rfl, rfl⟩

theorem lt0_is {x : Nat} {n : Int} (h : Fl.Is x n) : (FloatKind.f64.format.order x 0 == some .lt) = decide (n < 0) := by
  rw [Fl.order_is h Fl.is_0]; exact Fl.compare_lt_iff n 0
theorem gt0_is {x : Nat} {n : Int} (h : Fl.Is x n) : (FloatKind.f64.format.order x 0 == some .gt) = decide (0 < n) := by
  rw [Fl.order_is h Fl.is_0]; exact Fl.compare_gt_iff n 0
theorem eq_is {x y : Nat} {m n : Int} (h : Fl.Is x m) (k : Fl.Is y n) : (FloatKind.f64.format.order x y == some .eq) = decide (m = n) := by
  rw [Fl.order_is h k]; exact Fl.compare_eq_iff m n
theorem ne_is {x y : Nat} {m n : Int} (h : Fl.Is x m) (k : Fl.Is y n) : (FloatKind.f64.format.order x y != some .eq) = !decide (m = n) := by
  rw [bne, eq_is h k]
theorem lt_is {x y : Nat} {m n : Int} (h : Fl.Is x m) (k : Fl.Is y n) : (FloatKind.f64.format.order x y == some .lt) = decide (m < n) := by
  rw [Fl.order_is h k]; exact Fl.compare_lt_iff m n
theorem gt_is {x y : Nat} {m n : Int} (h : Fl.Is x m) (k : Fl.Is y n) : (FloatKind.f64.format.order x y == some .gt) = decide (n < m) := by
  rw [Fl.order_is h k]; exact Fl.compare_gt_iff m n


theorem may_is {x : Nat} {n : Int} (h : Fl.Is x n) (hb : n.natAbs ≤ 9007199254740991) : Fl.may x = true := by
  have hw : Fl.isW x = true := Fl.isW_of_is h (by unfold Fl.safe; omega) (by unfold Fl.safe; omega)
  unfold Fl.may; rw [hw]; simp

theorem opR_is (f : Int → Int → Int × Option Int) {x y : Nat} {a b : Int} (hx : Fl.Is x a) (hy : Fl.Is y b) (ha : a.natAbs ≤ 9007199254740991) (hb : b.natAbs ≤ 9007199254740991) : opR f x y = f a b := by
  unfold opR
  rw [if_neg (by simp [may_is hx ha, may_is hy hb]), if_neg (by simp [is_nan hx, is_nan hy]), Fl.toW_of_is hx, Fl.toW_of_is hy]

section
variable {x y : Nat} {a b : Int} (hx : Fl.Is x a) (hy : Fl.Is y b) (ha : a.natAbs ≤ 9007199254740991) (hb : b.natAbs ≤ 9007199254740991) (w : World)
include hx hy ha hb
theorem add_is : Calls Tryd.prog 16 #[.float .f64 x, .float .f64 y] w (Tells (addF a b) w) := by
  rw [← opR_is addF hx hy ha hb]; exact add_any x y w
theorem mul_is : Calls Tryd.prog 17 #[.float .f64 x, .float .f64 y] w (Tells (mulF a b) w) := by
  rw [← opR_is mulF hx hy ha hb]; exact mul_any x y w
theorem div_is : Calls Tryd.prog 19 #[.float .f64 x, .float .f64 y] w (Tells (divF a b) w) := by
  rw [← opR_is divF hx hy ha hb]; exact div_any x y w
theorem rem_is : Calls Tryd.prog 20 #[.float .f64 x, .float .f64 y] w (Tells (remF a b) w) := by
  rw [← opR_is remF hx hy ha hb]; exact rem_any x y w
end

theorem is_2 : Fl.Is 4611686018427387904 2 := by
  have h : FloatKind.f64.nearest 2 = 4611686018427387904 := by decide +kernel
  rw [← h]; exact Fl.is_nearest 2 (by decide) (by decide)
theorem is_3 : Fl.Is 4613937818241073152 3 := by
  have h : FloatKind.f64.nearest 3 = 4613937818241073152 := by decide +kernel
  rw [← h]; exact Fl.is_nearest 3 (by decide) (by decide)
theorem is_5 : Fl.Is 4617315517961601024 5 := by
  have h : FloatKind.f64.nearest 5 = 4617315517961601024 := by decide +kernel
  rw [← h]; exact Fl.is_nearest 5 (by decide) (by decide)

theorem aliveLaw_any (w : World) : Calls Tryd.prog 11 #[] w fun e w' => e = .returned (.bool true) ∧ Below w.heap.size w w' := by
  have P1 : Hid (∀ W, Calls Tryd.prog 16 #[.float .f64 4611686018427387904, .float .f64 4613937818241073152] W (Tells (0, some 5) W)) := hid fun W => add_is is_2 is_3 (by decide) (by decide) W
  have P2 : Hid (∀ W, Calls Tryd.prog 16 #[.float .f64 4845873199050653695, .float .f64 4607182418800017408] W (Tells (10, some 0) W)) := hid fun W => add_is Fl.is_safe Fl.is_1 (by decide) (by decide) W
  go_enter Tryd.func11, Tryd.ntmps11
  go_wp2_with fail
  refine (P1.out _).mono ?_; rintro e w1 ⟨⟨u, rfl, h⟩, B1⟩
  have h5 : (FloatKind.f64.format.order u 4617315517961601024 == some .eq) = true := by rw [eq_is h is_5]; rfl
  have C1 := hid B1
  clear h B1
  go_wp2_with fail
  refine (P2.out _).mono ?_; rintro e w2 ⟨⟨v, rfl, h⟩, B2⟩
  have C2 := hid B2
  clear h B2
  go_wp2_with fail
  go_ret
  exact ⟨rfl, grow C1.out C2.out⟩

theorem finN_ok {n : Int} (h : n.natAbs ≤ 9007199254740991) : finN n = (0, some n) := by unfold finN; rw [if_pos h]
theorem finN_no {n : Int} (h : ¬ n.natAbs ≤ 9007199254740991) : finN n = (10, some 0) := by unfold finN; rw [if_neg h]

end Go.Proofs.YthdgehdbanhliaaDoor
