/-
  The walk of the reference's May.
-/
import Derived.Test.YtkomjmgmancinaaDoorMayWalk
namespace Go.Proofs.YtkomjmgmancinaaDoor
open Go.RowKit

theorem refMay_any (a : Nat) (w : World) :
    Calls Tryd.prog 63 #[.float .f64 a] w fun e w' => e = .returned (.bool (Fl.may a)) ∧ w = w' := by
  have h : ∀ i n : Bool, Fl.isW a = i → Fl.isNaN a = n → Calls Tryd.prog 63 #[.float .f64 a] w fun e w' => e = .returned (.bool (n || i)) ∧ w = w' := by
    intro i n hi hn
    have ha : (FloatKind.f64.format.order a a != some .eq) = n := by
      cases n
      · rw [ordE hn]; rfl
      · rw [ordN hn]; rfl
    clear hn
    have Hi := hid hi
    clear hi
    cases i <;> cases n
    all_goals
      go_enter Tryd.func63, Tryd.ntmps63
      go_wp2_with fail
      refine (whole_any a _).mono ?_; rintro e w' ⟨rfl, rfl⟩
      rw [Hi.out]
      go_wp2_with fail
      go_ret
      exact ⟨rfl, rfl⟩
  exact h _ _ rfl rfl

end Go.Proofs.YtkomjmgmancinaaDoor
