/-
  The walks of the places in a text: At, place and Part, the program's and the reference's.
-/
import Derived.Test.YtnlaolehpofmlaaDoorPlaceF
import Derived.Test.YtnlaolehpofmlaaDoorBuilder
import Derived.Deep.Draws
import Derived.Deep.QuietTactic
import Derived.BigQuiet
import Derived.IntWalk
namespace Go.Proofs.YtnlaolehpofmlaaDoor
open Go.RowKit

theorem below_drewP {B : Nat} {a w : World} (h : Below B a w) (q : Nat) : Below B a (w.drewN q) := ⟨h.os, h.tape, h.output, h.size, h.block⟩

theorem conv_float (m : Nat) (n : Int) (h : floatToIntVal .f64 m .i64 = some n) (w : World) : (convert 22 3 (.float .f64 m)).run Tryd.prog w = .ok (.int .i64 n) w :=
  run_convert_float_int w _ _ _ _ _ _ (by rw [Tryd.underlying22]; rfl) Tryd.underlying3 h

set_option maxRecDepth 100000 in
theorem place_any (s : ByteArray) (x : Nat) (hs : s.size ≤ 9000) (w : World) : Calls Tryd.prog 21 #[.string s, .float .f64 x] w fun e w' => e = .returned (.int .i64 (Fl.plc s.size x)) ∧ w = w' := by
  by_cases hn : Fl.isNaN x = true
  · have h1 := ordN hn x
    have hp : Fl.plc s.size x = 0 := by unfold Fl.plc; rw [if_pos hn]
    rw [hp]
    clear hp hn
    go_enter Tryd.func21, Tryd.ntmps21
    go_wp2_with fail
    go_ret
    exact ⟨rfl, rfl⟩
  · have hn' : Fl.isNaN x = false := by simpa using hn
    have hx := ordE hn'
    have T := hidB (fun W => trunc_any x hn' W)
    have h0 := Fl.order_x0 hn'
    cases hc : (if Fl.fin x then decide (Fl.sc x < 0) else Fl.sg x)
    · obtain ⟨m, hmin, hcv⟩ := Fl.place_pos (P := Tryd.prog) s.size x hs hn' hc
      have hC := conv_float m _ hcv
      rw [hc] at h0
      generalize Fl.plc s.size x = q at *
      clear hc hcv hn hn'
      go_enter Tryd.func21, Tryd.ntmps21
      go_wp2_with fail
      refine (T.out _).mono ?_; rintro e w1 ⟨rfl, rfl⟩
      go_wp2_with fail
      go_ret
      exact ⟨rfl, rfl⟩
    · obtain ⟨z, m, hz, hmax, hcv⟩ := Fl.place_neg (P := Tryd.prog) s.size x hs hn' hc
      have hC := conv_float m _ hcv
      have hrun := fun W t => run_float_arith (P := Tryd.prog) W .add t .f64 _ _ z hz
      rw [hc] at h0
      generalize Fl.plc s.size x = q at *
      clear hc hcv hn hn' hz
      go_enter Tryd.func21, Tryd.ntmps21
      go_wp2_with fail
      refine (T.out _).mono ?_; rintro e w1 ⟨rfl, rfl⟩
      go_wp2_with fail
      go_ret
      exact ⟨rfl, rfl⟩

theorem run_negFloat (P : Program) (w : World) (b : Nat) : (Op.unary .neg (.float .f64 b)).run P w = .ok (.float .f64 (Op.negFloat .f64 b)) w := rfl

set_option maxRecDepth 100000 in
theorem refPlace_any (s : ByteArray) (x : Nat) (hs : s.size ≤ 9000) (w : World) : Calls Tryd.prog 22 #[.string s, .float .f64 x] w fun e w' => e = .returned (.int .i64 (Fl.plc s.size x)) ∧ w = w' := by
  by_cases hn : Fl.isNaN x = true
  · have h1 := ordN hn x
    have hp : Fl.plc s.size x = 0 := by unfold Fl.plc; rw [if_pos hn]
    rw [hp]
    clear hp hn
    go_enter Tryd.func22, Tryd.ntmps22
    go_wp2_with fail
    go_ret
    exact ⟨rfl, rfl⟩
  · have hn' : Fl.isNaN x = false := by simpa using hn
    have hx := ordE hn'
    have h0 := Fl.order_x0 hn'
    cases hc : (if Fl.fin x then decide (Fl.sc x < 0) else Fl.sg x)
    · rw [hc] at h0
      rcases Fl.ref_pos s.size x hs hn' hc with ⟨h1, h2⟩ | ⟨h1, h2⟩
      · rw [h2]
        clear hc h2 hn hn'
        go_enter Tryd.func22, Tryd.ntmps22
        go_wp2_with fail
        go_ret
        exact ⟨rfl, rfl⟩
      · have hC := conv_float _ _ h2
        generalize Fl.plc s.size x = q at *
        clear hc h2 hn hn'
        go_enter Tryd.func22, Tryd.ntmps22
        go_wp2_with fail
        go_ret
        exact ⟨rfl, rfl⟩
    · rw [hc] at h0
      have hneg := run_negFloat Tryd.prog
      have eN : Op.negFloat .f64 (floatOfInt .f64 (s.size : Int)) = Fl.negL s.size := rfl
      rcases Fl.ref_neg s.size x hs hn' hc with ⟨h1, h2⟩ | ⟨h1, q, hq, h2, h3⟩
      · rw [h2]
        clear hc h2 hn hn'
        go_enter Tryd.func22, Tryd.ntmps22
        go_wp2_with fail
        go_ret
        exact ⟨rfl, rfl⟩
      · have hC := conv_float _ _ h2
        have H3 := hidB h3
        clear hc h2 h3 hn hn'
        go_enter Tryd.func22, Tryd.ntmps22
        go_wp2_with fail
        go_ret
        refine ⟨?_, rfl⟩
        rw [H3.out]
        exact congrArg (fun k => Ending.returned (.int .i64 k)) (by omega : (s.size : Int) + -(q : Int) = ((s.size - q : Nat) : Int))

/-- A part of a text. -/
def partR (s : ByteArray) (x y : Nat) : ByteArray := if Fl.plc s.size y ≤ Fl.plc s.size x then ⟨#[]⟩ else s.extract (Fl.plc s.size x) (Fl.plc s.size y)

set_option maxRecDepth 100000 in
theorem part_any (s : ByteArray) (x y : Nat) (hs : s.size ≤ 9000) (w : World) : Calls Tryd.prog 8 #[.string s, .float .f64 x, .float .f64 y] w fun e w' => e = .returned (.string (partR s x y)) ∧ w = w' := by
  have PX := hidB (fun W => place_any s x hs W)
  have PY := hidB (fun W => place_any s y hs W)
  have hx := Fl.plc_le s.size x
  have hy := Fl.plc_le s.size y
  unfold partR
  generalize Fl.plc s.size x = a at *
  generalize Fl.plc s.size y = b at *
  by_cases h : b ≤ a
  · rw [if_pos h]
    go_enter Tryd.func8, Tryd.ntmps8
    go_wp2_with fail
    refine (PX.out _).mono ?_; rintro e w1 ⟨rfl, rfl⟩
    go_wp2_with fail
    refine (PY.out _).mono ?_; rintro e w1 ⟨rfl, rfl⟩
    go_wp2_with fail
    go_ret
    exact ⟨rfl, rfl⟩
  · rw [if_neg h]
    go_enter Tryd.func8, Tryd.ntmps8
    go_wp2_with fail
    refine (PX.out _).mono ?_; rintro e w1 ⟨rfl, rfl⟩
    go_wp2_with fail
    refine (PY.out _).mono ?_; rintro e w1 ⟨rfl, rfl⟩
    go_wp2_with fail
    go_ret
    exact ⟨rfl, rfl⟩

set_option maxRecDepth 100000 in
theorem refPart_any (s : ByteArray) (x y : Nat) (hs : s.size ≤ 9000) (w : World) : Calls Tryd.prog 9 #[.string s, .float .f64 x, .float .f64 y] w fun e w' => e = .returned (.string (partR s x y)) ∧ w = w' := by
  have PX := hidB (fun W => refPlace_any s x hs W)
  have PY := hidB (fun W => refPlace_any s y hs W)
  have hx := Fl.plc_le s.size x
  have hy := Fl.plc_le s.size y
  unfold partR
  generalize Fl.plc s.size x = a at *
  generalize Fl.plc s.size y = b at *
  by_cases h : b ≤ a
  · rw [if_pos h]
    go_enter Tryd.func9, Tryd.ntmps9
    go_wp2_with fail
    refine (PX.out _).mono ?_; rintro e w1 ⟨rfl, rfl⟩
    go_wp2_with fail
    refine (PY.out _).mono ?_; rintro e w1 ⟨rfl, rfl⟩
    go_wp2_with fail
    go_ret
    exact ⟨rfl, rfl⟩
  · rw [if_neg h]
    go_enter Tryd.func9, Tryd.ntmps9
    go_wp2_with fail
    refine (PX.out _).mono ?_; rintro e w1 ⟨rfl, rfl⟩
    go_wp2_with fail
    refine (PY.out _).mono ?_; rintro e w1 ⟨rfl, rfl⟩
    go_wp2_with fail
    go_ret
    exact ⟨rfl, rfl⟩

/-- A byte as a text. -/
def atR (s : ByteArray) (i : Int) : ByteArray × Bool := if i < 0 ∨ (s.size : Int) ≤ i then (⟨#[]⟩, false) else (s.extract i.toNat (i.toNat + 1), true)

set_option maxRecDepth 100000 in
theorem at_any (s : ByteArray) (i : Int) (hs : s.size ≤ 9000) (w : World) : Calls Tryd.prog 6 #[.string s, .int .i64 i] w fun e w' => e = .returned (.tuple #[.string (atR s i).1, .bool (atR s i).2]) ∧ Below w.heap.size w w' := by
  by_cases h1 : i < 0
  · rw [show atR s i = (⟨#[]⟩, false) from if_pos (Or.inl h1)]
    go_enter Tryd.func6, Tryd.ntmps6
    go_wp2_with fail
    go_ret2
    exact ⟨rfl, Below.refl _ _⟩
  · by_cases h2 : (s.size : Int) ≤ i
    · rw [show atR s i = (⟨#[]⟩, false) from if_pos (Or.inr h2)]
      go_enter Tryd.func6, Tryd.ntmps6
      go_wp2_with fail
      go_ret2
      exact ⟨rfl, Below.refl _ _⟩
    · rw [show atR s i = (s.extract i.toNat (i.toNat + 1), true) from if_neg (by omega)]
      obtain ⟨k, rfl⟩ := Int.eq_ofNat_of_zero_le (by omega : 0 ≤ i)
      have hk : k < s.size := by omega
      have hw1 : IntKind.i64.wrap ((k : Int) + 1) = (k : Int) + 1 := IntWalk.i64_in _ (by omega)
      have hw2 : (0 : Int) ≤ (k : Int) + 1 := by omega
      have hw3 : ((k : Int) + 1).toNat = k + 1 := by omega
      have hw5 : (k : Int) + 1 ≤ (s.size : Int) := by omega
      go_enter Tryd.func6, Tryd.ntmps6
      go_wp2_with fail
      first
        | (go_ret2; exact ⟨rfl, Below.refl _ _⟩)
        | (go_quiet (fail); go_wp2_with fail; go_ret2; exact ⟨rfl, below_drewP (Below.refl _ _) _⟩)

set_option maxRecDepth 100000 in
theorem refAt_any (s : ByteArray) (i : Int) (hs : s.size ≤ 9000) (w : World) : Calls Tryd.prog 7 #[.string s, .int .i64 i] w fun e w' => e = .returned (.tuple #[.string (atR s i).1, .bool (atR s i).2]) ∧ Below w.heap.size w w' := by
  by_cases h1 : i < 0
  · rw [show atR s i = (⟨#[]⟩, false) from if_pos (Or.inl h1)]
    go_enter Tryd.func7, Tryd.ntmps7
    go_wp2_with fail
    go_ret2
    exact ⟨rfl, Below.refl _ _⟩
  · by_cases h2 : (s.size : Int) ≤ i
    · rw [show atR s i = (⟨#[]⟩, false) from if_pos (Or.inr h2)]
      go_enter Tryd.func7, Tryd.ntmps7
      go_wp2_with fail
      go_ret2
      exact ⟨rfl, Below.refl _ _⟩
    · rw [show atR s i = (s.extract i.toNat (i.toNat + 1), true) from if_neg (by omega)]
      obtain ⟨k, rfl⟩ := Int.eq_ofNat_of_zero_le (by omega : 0 ≤ i)
      have hk : k < s.size := by omega
      have hw1 : IntKind.i64.wrap ((k : Int) + 1) = (k : Int) + 1 := IntWalk.i64_in _ (by omega)
      have hw2 : (0 : Int) ≤ (k : Int) + 1 := by omega
      have hw3 : ((k : Int) + 1).toNat = k + 1 := by omega
      have hw5 : (k : Int) + 1 ≤ (s.size : Int) := by omega
      go_enter Tryd.func7, Tryd.ntmps7
      go_wp2_with fail
      first
        | (go_ret2; exact ⟨rfl, Below.refl _ _⟩)
        | (go_quiet (fail); go_wp2_with fail; go_ret2; exact ⟨rfl, below_drewP (Below.refl _ _) _⟩)

end Go.Proofs.YtnlaolehpofmlaaDoor
