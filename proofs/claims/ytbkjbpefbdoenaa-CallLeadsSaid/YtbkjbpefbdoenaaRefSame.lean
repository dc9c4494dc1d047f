import Derived.Test.YtbkjbpefbdoenaaKit
namespace Go.Proofs.Ytbkjbpefbdoenaa
open Go.RowKit

theorem rsame_any (a b : Nat) (w : World) :
    Calls Try.prog 103 #[.float .f64 a, .float .f64 b] w fun e w' => e = .returned (.bool (Fl.same a b)) ∧ w = w' := by
  by_cases h1 : Fl.isNaN a = true
  · have ha := ordN h1
    by_cases h2 : Fl.isNaN b = true
    · have hb := ordN h2
      have hr : Fl.same a b = true := by simp [Fl.same, h1, h2]
      rw [hr]
      clear h1 h2
      go_enter Try.func103, Try.ntmps103
      go_wp2
      go_ret
      exact ⟨rfl, rfl⟩
    · rw [Bool.not_eq_true] at h2
      have hb := ordE h2
      have hr : Fl.same a b = false := by simp [Fl.same, h1, h2]
      rw [hr]
      clear h1 h2
      go_enter Try.func103, Try.ntmps103
      go_wp2
      go_ret
      exact ⟨rfl, rfl⟩
  · rw [Bool.not_eq_true] at h1
    have ha := ordE h1
    by_cases h2 : Fl.isNaN b = true
    · have hb := ordN h2
      have hr : Fl.same a b = false := by simp [Fl.same, h1, h2]
      rw [hr]
      clear h1 h2
      go_enter Try.func103, Try.ntmps103
      go_wp2
      go_ret
      exact ⟨rfl, rfl⟩
    · rw [Bool.not_eq_true] at h2
      have hb := ordE h2
      have h0 : (FloatKind.f64.format.order a 0 == some .eq) = Fl.isZ a := Fl.order_0 a h1
      by_cases h3 : FloatKind.f64.format.order a b = some .eq
      · by_cases h4 : Fl.isZ a = true
        · have h5 : FloatKind.f64.format.order a 0 = some .eq := by rw [h4] at h0; simpa using h0
          have h6 : Fl.isZ b = true := by
            have := Fl.zero_of_eq (a := a) (b := b) h3 h4
            exact this
          have d1 := run_div_1_0 (P := Try.prog) a h4 22
          have d2 := run_div_1_0 (P := Try.prog) b h6 22
          have d3 : (FloatKind.f64.format.order (Ieee.double.word (Fl.sg a) Fl.top) (Ieee.double.word (Fl.sg b) Fl.top) == some .eq) = (Fl.sg a == Fl.sg b) := Fl.order_inf _ _
          have hr : Fl.same a b = (Fl.sg a == Fl.sg b) := by
            have h3' : Ieee.double.order a b = some .eq := h3
            simp [Fl.same, h1, h2, h3', h4]
          rw [hr]
          clear h1 h2 h4 h6 h0 hr
          go_enter Try.func103, Try.ntmps103
          go_wp2
          go_ret
          exact ⟨rfl, rfl⟩
        · rw [Bool.not_eq_true] at h4
          have h5 : (FloatKind.f64.format.order a 0 == some .eq) = false := by rw [h0]; exact h4
          have h6 : (FloatKind.f64.format.order a 0 != some .eq) = true := by
            rw [bne, h5]; rfl
          have hr : Fl.same a b = true := by
            have h3' : Ieee.double.order a b = some .eq := h3
            simp [Fl.same, h1, h2, h3', h4]
          rw [hr]
          clear h1 h2 h4 h0 hr h5
          go_enter Try.func103, Try.ntmps103
          go_wp2
          go_ret
          exact ⟨rfl, rfl⟩
      · have h5 : (FloatKind.f64.format.order a b == some .eq) = false := by simpa using h3
        have hr : Fl.same a b = false := by
          have h5' : (Ieee.double.order a b == some .eq) = false := h5
          simp [Fl.same, h1, h2, h5']
        rw [hr]
        clear h1 h2 h0 hr h3
        go_enter Try.func103, Try.ntmps103
        go_wp2
        go_ret
        exact ⟨rfl, rfl⟩


end Go.Proofs.Ytbkjbpefbdoenaa
