/-
  The closed sentence 'alive': a part at given places, and a quoted text.
-/
import Derived.Test.YtnlaolehpofmlaaDoorQuoteWalk
import Derived.Test.YtnlaolehpofmlaaDoorLaw
import Derived.IntWalk
namespace Go.Proofs.YtnlaolehpofmlaaDoor
open Go.RowKit

theorem arch1 (w : World) : (callFunc 48 #[.float .f64 4607182418800017408]).run Tryd.prog w = .ok (.value (.float .f64 4607182418800017408)) w := by kernel_rfl
theorem arch3 (w : World) : (callFunc 48 #[.float .f64 4613937818241073152]).run Tryd.prog w = .ok (.value (.float .f64 4613937818241073152)) w := by kernel_rfl

theorem trunc1 (w : World) : Calls Tryd.prog 33 #[.float .f64 4607182418800017408] w fun e w' => e = .returned (.float .f64 4607182418800017408) ∧ w = w' := by
  have h1 := arch1
  go_enter Tryd.func33, Tryd.ntmps33
  go_wp2_with fail
  go_ret
  exact ⟨rfl, rfl⟩
theorem trunc3 (w : World) : Calls Tryd.prog 33 #[.float .f64 4613937818241073152] w fun e w' => e = .returned (.float .f64 4613937818241073152) ∧ w = w' := by
  have h1 := arch3
  go_enter Tryd.func33, Tryd.ntmps33
  go_wp2_with fail
  go_ret
  exact ⟨rfl, rfl⟩

theorem five : floatOfInt .f64 5 = 4617315517961601024 := by decide +kernel

theorem min1 (w : World) (ts : Array TypeId) (t : TypeId) : (Builtin.min_ ts t #[.float .f64 4617315517961601024, .float .f64 4607182418800017408]).run Tryd.prog w = .ok (.float .f64 4607182418800017408) w := by kernel_rfl
theorem min3 (w : World) (ts : Array TypeId) (t : TypeId) : (Builtin.min_ ts t #[.float .f64 4617315517961601024, .float .f64 4613937818241073152]).run Tryd.prog w = .ok (.float .f64 4613937818241073152) w := by kernel_rfl

theorem conv1 (w : World) : (convert 22 3 (.float .f64 4607182418800017408)).run Tryd.prog w = .ok (.int .i64 1) w := by kernel_rfl
theorem conv3 (w : World) : (convert 22 3 (.float .f64 4613937818241073152)).run Tryd.prog w = .ok (.int .i64 3) w := by kernel_rfl

theorem place1 (w : World) (s : ByteArray) (hs : s.size = 5) : Calls Tryd.prog 21 #[.string s, .float .f64 4607182418800017408] w fun e w' => e = .returned (.int .i64 1) ∧ w = w' := by
  have h5 := five
  have h6 := min1
  have h7 := conv1
  go_enter Tryd.func21, Tryd.ntmps21
  go_wp2_with fail
  refine (trunc1 _).mono ?_; rintro e w1 ⟨rfl, rfl⟩
  go_wp2_with fail
  go_ret
  exact ⟨rfl, rfl⟩
theorem place3 (w : World) (s : ByteArray) (hs : s.size = 5) : Calls Tryd.prog 21 #[.string s, .float .f64 4613937818241073152] w fun e w' => e = .returned (.int .i64 3) ∧ w = w' := by
  have h5 := five
  have h6 := min3
  have h7 := conv3
  go_enter Tryd.func21, Tryd.ntmps21
  go_wp2_with fail
  refine (trunc3 _).mono ?_; rintro e w1 ⟨rfl, rfl⟩
  go_wp2_with fail
  go_ret
  exact ⟨rfl, rfl⟩


theorem ext_abc : (⟨#[97, 98, 99, 100, 101]⟩ : ByteArray).extract 1 3 = ⟨#[98, 99]⟩ := by decide +kernel
theorem size_abc : (⟨#[97, 98, 99, 100, 101]⟩ : ByteArray).size = 5 := rfl

set_option maxRecDepth 100000 in
theorem part_abc (w : World) : Calls Tryd.prog 8 #[.string ⟨#[97, 98, 99, 100, 101]⟩, .float .f64 4607182418800017408, .float .f64 4613937818241073152] w fun e w' => e = .returned (.string ⟨#[98, 99]⟩) ∧ w = w' := by
  have h1 := ext_abc
  have h2 := size_abc
  have P1 := hidB (fun W => place1 W _ size_abc)
  have P3 := hidB (fun W => place3 W _ size_abc)
  go_enter Tryd.func8, Tryd.ntmps8
  go_wp2_with fail
  refine (P1.out _).mono ?_; rintro e w1 ⟨rfl, rfl⟩
  go_wp2_with fail
  refine (P3.out _).mono ?_; rintro e w1 ⟨rfl, rfl⟩
  go_wp2_with fail
  go_ret
  exact ⟨rfl, rfl⟩

set_option maxRecDepth 100000 in
theorem alive_any (w : World) : Calls Tryd.prog 16 #[] w fun e w' => e = .returned (.bool true) ∧ Below w.heap.size w w' := by
  have P := hidB part_abc
  have Q : Hid (∀ W, Calls Tryd.prog 19 #[.string ⟨#[97]⟩] W fun e w' => e = .returned (.string ⟨#[34, 97, 34]⟩) ∧ Below W.heap.size W w') := hidB (fun W => quote_any ⟨#[97]⟩ W (by decide))
  go_enter Tryd.func16, Tryd.ntmps16
  go_wp2_with fail
  refine (P.out _).mono ?_; rintro e w1 ⟨rfl, rfl⟩
  go_wp2_with fail
  refine (Q.out _).mono ?_; rintro e w1 ⟨rfl, b1⟩
  have B1 := hidB b1; clear b1
  go_wp2_with fail
  go_ret
  exact ⟨rfl, B1.out⟩

end Go.Proofs.YtnlaolehpofmlaaDoor
