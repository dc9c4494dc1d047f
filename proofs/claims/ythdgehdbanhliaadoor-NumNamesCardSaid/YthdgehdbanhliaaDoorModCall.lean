/-
  math.Mod, called.
-/
import Derived.Test.YthdgehdbanhliaaDoorModLoop
namespace Go.Proofs.YthdgehdbanhliaaDoor
open Go.RowKit

theorem mod_is (x y : Nat) (a b : Int) (hx : Fl.Is x a) (hy : Fl.Is y b) (ha : a.natAbs < 2 ^ 53) (hb : b.natAbs < 2 ^ 53) (h0 : b ≠ 0) (w : World) :
    Calls Tryd.prog 33 #[.float .f64 x, .float .f64 y] w fun e w' => (∃ z, e = .returned (.float .f64 z) ∧ ModOk z a b) ∧ w = w' := by
  have hM := hid (fun W => modLow_is x y a b hx hy ha hb h0 W)
  clear hx hy ha hb h0
  go_enter Tryd.func33, Tryd.ntmps33
  go_wp2_with fail
  refine (hM.out _).mono ?_; rintro e w' ⟨⟨z, rfl, hz⟩, rfl⟩
  have Hz := hid hz
  clear hz
  go_wp2_with fail
  go_ret
  exact ⟨⟨z, rfl, Hz.out⟩, rfl⟩

theorem mnan_any (w : World) : Calls Tryd.prog 22 #[] w fun e w' => e = .returned (.float .f64 9221120237041090561) ∧ w = w' := by
  have b2 := fun z => run_frombits z
  go_enter Tryd.func22, Tryd.ntmps22
  go_wp2_with fail
  go_ret
  exact ⟨rfl, rfl⟩

set_option maxRecDepth 100000 in
theorem modLow_nan (x y : Nat) (z0 : (FloatKind.f64.format.order y 0 == some .eq) = false) (hi : (FloatKind.f64.format.order (Fl.rg x) 9218868437227405311 == some .gt) = false) (h : Fl.isNaN x = true ∨ (Fl.isNaN x = false ∧ Fl.isNaN y = true)) (w : World) :
    Calls Tryd.prog 48 #[.float .f64 x, .float .f64 y] w fun e w' => e = .returned (.float .f64 9221120237041090561) ∧ w = w' := by
  have hI := hid (fun W => isInf_of x hi W)
  have hN := hid (fun W => isNaN_any x W)
  have hN2 := hid (fun W => isNaN_any y W)
  clear hi
  rcases h with h | ⟨h, h'⟩
  · go_enter Tryd.func48, Tryd.ntmps48
    go_wp2_with (first | (go_at_call 58; refine (hI.out _).mono ?_; rintro e w' ⟨rfl, rfl⟩) | (go_at_call 59; first | (refine (hN.out _).mono ?_; rintro e w' ⟨rfl, rfl⟩) | (refine (hN2.out _).mono ?_; rintro e w' ⟨rfl, rfl⟩)) | (go_at_call 22; refine (mnan_any _).mono ?_; rintro e w' ⟨rfl, rfl⟩))
    go_ret
    exact ⟨rfl, rfl⟩
  · go_enter Tryd.func48, Tryd.ntmps48
    go_wp2_with (first | (go_at_call 58; refine (hI.out _).mono ?_; rintro e w' ⟨rfl, rfl⟩) | (go_at_call 59; first | (refine (hN.out _).mono ?_; rintro e w' ⟨rfl, rfl⟩) | (refine (hN2.out _).mono ?_; rintro e w' ⟨rfl, rfl⟩)) | (go_at_call 22; refine (mnan_any _).mono ?_; rintro e w' ⟨rfl, rfl⟩))
    go_ret
    exact ⟨rfl, rfl⟩

theorem mod_nan (x y : Nat) (z0 : (FloatKind.f64.format.order y 0 == some .eq) = false) (hi : (FloatKind.f64.format.order (Fl.rg x) 9218868437227405311 == some .gt) = false) (h : Fl.isNaN x = true ∨ (Fl.isNaN x = false ∧ Fl.isNaN y = true)) (w : World) :
    Calls Tryd.prog 33 #[.float .f64 x, .float .f64 y] w fun e w' => e = .returned (.float .f64 9221120237041090561) ∧ w = w' := by
  have hM := hid (fun W => modLow_nan x y z0 hi h W)
  clear z0 hi h
  go_enter Tryd.func33, Tryd.ntmps33
  go_wp2_with fail
  refine (hM.out _).mono ?_; rintro e w' ⟨rfl, rfl⟩
  go_wp2_with fail
  go_ret
  exact ⟨rfl, rfl⟩

end Go.Proofs.YthdgehdbanhliaaDoor
