/-
  The walk of math.mod at whole words.
-/
import Derived.Test.YthdgehdbanhliaaDoorModPlain
import Derived.Test.YthdgehdbanhliaaDoorNegPlain
namespace Go.Proofs.YthdgehdbanhliaaDoor
open Go.RowKit

/-- What math.Mod answers at whole words. -/
def ModOk (z : Nat) (a b : Int) : Prop := ∃ r, Fl.Is r ((a.natAbs % b.natAbs : Nat) : Int) ∧ z = if a < 0 then Fl.negW r else r

theorem sub_step {r z m B k : Nat} (hr : Fl.Is r m) (hm : m < 2 ^ 53) (hB : 0 < B) (hz : Fl.Is z ((B : Int) * 2 ^ k)) (hst : (B : Int) * 2 ^ k ≤ m) :
    ∃ R m', floatBits .sub .f64 r z = some R ∧ Fl.Is R ((m' : Nat) : Int) ∧ m' ≤ m ∧ m' < m ∧ m' % B = m % B := by
  obtain ⟨T, hT⟩ : ∃ T : Nat, T = B * 2 ^ k := ⟨_, rfl⟩
  have hT' : (B : Int) * 2 ^ k = (T : Int) := by rw [hT, Int.natCast_mul, Int.natCast_pow]; rfl
  rw [hT'] at hz hst
  have hp : 0 < T := by rw [hT]; exact Nat.mul_pos hB (Nat.pow_pos (by decide))
  obtain ⟨R, hR, -, hN1, -⟩ := Fl.sub_near hr hz (by omega) (by omega)
  have hIs := hN1 (by omega)
  obtain ⟨m', hm'⟩ : ∃ m' : Nat, m = m' + T := ⟨m - T, by omega⟩
  refine ⟨R, m', hR, by rwa [show (m : Int) - T = ((m' : Nat) : Int) by omega] at hIs, by omega, by omega, ?_⟩
  rw [hm', hT, Nat.add_mul_mod_self_left]

set_option maxHeartbeats 1000000 in
set_option maxRecDepth 100000 in
theorem modLow_is (x y : Nat) (a b : Int) (hx : Fl.Is x a) (hy : Fl.Is y b) (ha : a.natAbs < 2 ^ 53) (hb : b.natAbs < 2 ^ 53) (h0 : b ≠ 0) (w : World) :
    Calls Tryd.prog 48 #[.float .f64 x, .float .f64 y] w fun e w' => (∃ z, e = .returned (.float .f64 z) ∧ ModOk z a b) ∧ w = w' := by
  have z0 : (FloatKind.f64.format.order y 0 == some .eq) = false := by
    rw [Fl.eq_fin hy.1 Fl.fin_0, decide_eq_false_iff_not, hy.2.1, Fl.sc_0]
    intro hc
    rcases Int.mul_eq_zero.1 hc with hc | hc
    · omega
    · have := Fl.K_pos; omega
  have hI := hid (fun W => isInf_of x (not_inf hx ha) W)
  have hN : Hid (∀ W, Calls Tryd.prog 59 #[.float .f64 x] W fun e w' => e = .returned (.bool false) ∧ W = w') := hid (fun W => by have := isNaN_any x W; rw [Fl.fin_not_nan hx.1] at this; exact this)
  have hN2 : Hid (∀ W, Calls Tryd.prog 59 #[.float .f64 y] W fun e w' => e = .returned (.bool false) ∧ W = w') := hid (fun W => by have := isNaN_any y W; rw [Fl.fin_not_nan hy.1] at this; exact this)
  have hY := is_rg hy
  have hA := hid (fun W => abs_any y W)
  have hYY := rg_rg y
  obtain ⟨Y, hYe⟩ : ∃ Y, Y = Fl.rg y := ⟨_, rfl⟩
  rw [← hYe] at hY hYY hA
  obtain ⟨B, hBe⟩ : ∃ B, B = b.natAbs := ⟨_, rfl⟩
  rw [← hBe] at hY hb
  have hB0 : 0 < B := by omega
  have hF := hid (fun W => frexp_is Y B hY (by omega) (by omega) W)
  have HY := hid hY
  have HYY := hid hYY
  have neg1 := fun (v : Nat) (W : World) => Fl.run_neg_f64 Tryd.prog v W
  by_cases hneg : a < 0
  · have tx : (FloatKind.f64.format.order x 0 == some .lt) = true := by
      rw [Fl.lt_fin hx.1 Fl.fin_0, decide_eq_true_eq, hx.2.1, Fl.sc_0]
      have := (Fl.mulK_lt a 0).2 hneg
      omega
    have HX := hid hx
    clear hx hy hY hYY hYe
    go_enter Tryd.func48, Tryd.ntmps48
    go_wp2_with (first | (go_at_call 58; refine (hI.out _).mono ?_; rintro e w' ⟨rfl, rfl⟩) | (go_at_call 59; first | (refine (hN.out _).mono ?_; rintro e w' ⟨rfl, rfl⟩) | (refine (hN2.out _).mono ?_; rintro e w' ⟨rfl, rfl⟩)) | (go_at_call 30; refine (hA.out _).mono ?_; rintro e w' ⟨rfl, rfl⟩) | (go_at_call 60; refine (hF.out _).mono ?_; rintro e w' ⟨rfl, rfl⟩))
    go_loop [7] (fun v => ∃ (r m : Nat), v = .float .f64 r ∧ Fl.Is r m ∧ m < 2 ^ 53 ∧ m % B = a.natAbs % B) (fun v => match v with | .float _ r => (Fl.toW r).toNat | _ => 0)
    case atStart => exact ⟨Fl.negW x, a.natAbs, rfl, by have := Fl.is_neg HX.out (by omega); rwa [show -a = ((a.natAbs : Nat) : Int) by omega] at this, ha, rfl⟩
    case round =>
      obtain ⟨r, m, rfl, hr, hm, hmod⟩ := hrel
      have Hr := hid hr
      rcases Nat.lt_or_ge m B with hlt | hge
      · have o : FloatKind.f64.format.order r Y = some .lt := by
          rw [Fl.order_is hr HY.out]; exact congrArg some (Int.compare_eq_lt.2 (by omega))
        clear hr
        go_wp2_with fail
        go_ret
        exact ⟨⟨_, rfl, r, by have := Hr.out; rwa [show m = a.natAbs % b.natAbs by rw [← hBe, ← hmod, Nat.mod_eq_of_lt hlt]] at this, (if_pos hneg).symm⟩, rfl⟩
      · have F := hid (fun W => frexp_is r m hr (by omega) (by omega) W)
        have o : FloatKind.f64.format.order r Y = some .gt ∨ FloatKind.f64.format.order r Y = some .eq := by
          rw [Fl.order_is hr HY.out]
          rcases Nat.lt_or_ge B m with h | h
          · exact Or.inl (congrArg some (Int.compare_eq_gt.2 (by omega)))
          · exact Or.inr (congrArg some (Int.compare_eq_eq.2 (by omega)))
        clear hr
        have HrP := Fl.is_pos Hr.out (by omega) (by omega)
        have HYP := Fl.is_pos HY.out (by omega) (by omega)
        have r3 := HrP.2.2.1
        have r4 := HrP.2.2.2.1
        have y3 := HYP.2.2.1
        have y4 := HYP.2.2.2.1
        clear HrP HYP
        have hnn := Fl.step_nonneg Hr.out HY.out (by omega) (by omega) (by omega)
        obtain ⟨k, hk⟩ := Int.eq_ofNat_of_zero_le hnn
        have hst := Fl.step_is Hr.out HY.out (by omega) (by omega) (by omega) k hk.symm
        have HL := hid (fun W => ldexp_is Y B k HY.out (by omega) (by omega) (by omega) HYY.out W)
        have q := Fl.half_lt (Fl.rg r % 4503599627370496) (Fl.rg Y % 4503599627370496) (Nat.mod_lt _ (by decide)) (Nat.mod_lt _ (by decide))
        have Hst := hid hst
        clear hst hnn
        by_cases hf : Fl.rg r % 4503599627370496 < Fl.rg Y % 4503599627370496
        · rw [decide_eq_true hf] at q
          rw [if_pos hf] at hk
          have g1 : wrap64 (wrap64 ((Fl.rg r : Int) / 4503599627370496 - 1022 - 1) - ((Fl.rg Y : Int) / 4503599627370496 - 1022)) = (k : Int) := by unfold wrap64; omega
          clear r3 r4 y3 y4 hk hf
          rcases o with o | o
          · go_wp2_with fail
            refine (F.out _).mono ?_; rintro e w' ⟨rfl, rfl⟩
            go_wp2_with fail
            refine (HL.out _).mono ?_; rintro e w' ⟨⟨z, rfl, hz⟩, rfl⟩
            obtain ⟨R, m', hR, hIs, hm', hlt', hmod'⟩ := sub_step Hr.out hm hB0 hz Hst.out
            have hsub := fun W t => run_float_arith (P := Tryd.prog) W .sub t .f64 r z R hR
            have HIs := hid hIs
            clear hz hR hIs
            go_wp2_with fail
            exact ⟨⟨R, m', rfl, HIs.out, by omega, hmod'.trans hmod⟩, by show (Fl.toW R).toNat < (Fl.toW r).toNat; rw [Fl.toW_of_is HIs.out, Fl.toW_of_is Hr.out]; omega⟩
          · go_wp2_with fail
            refine (F.out _).mono ?_; rintro e w' ⟨rfl, rfl⟩
            go_wp2_with fail
            refine (HL.out _).mono ?_; rintro e w' ⟨⟨z, rfl, hz⟩, rfl⟩
            obtain ⟨R, m', hR, hIs, hm', hlt', hmod'⟩ := sub_step Hr.out hm hB0 hz Hst.out
            have hsub := fun W t => run_float_arith (P := Tryd.prog) W .sub t .f64 r z R hR
            have HIs := hid hIs
            clear hz hR hIs
            go_wp2_with fail
            exact ⟨⟨R, m', rfl, HIs.out, by omega, hmod'.trans hmod⟩, by show (Fl.toW R).toNat < (Fl.toW r).toNat; rw [Fl.toW_of_is HIs.out, Fl.toW_of_is Hr.out]; omega⟩
        · rw [decide_eq_false hf] at q
          rw [if_neg hf] at hk
          have g1 : wrap64 ((Fl.rg r : Int) / 4503599627370496 - 1022 - ((Fl.rg Y : Int) / 4503599627370496 - 1022)) = (k : Int) := by unfold wrap64; omega
          clear r3 r4 y3 y4 hk hf
          rcases o with o | o
          · go_wp2_with fail
            refine (F.out _).mono ?_; rintro e w' ⟨rfl, rfl⟩
            go_wp2_with fail
            refine (HL.out _).mono ?_; rintro e w' ⟨⟨z, rfl, hz⟩, rfl⟩
            obtain ⟨R, m', hR, hIs, hm', hlt', hmod'⟩ := sub_step Hr.out hm hB0 hz Hst.out
            have hsub := fun W t => run_float_arith (P := Tryd.prog) W .sub t .f64 r z R hR
            have HIs := hid hIs
            clear hz hR hIs
            go_wp2_with fail
            exact ⟨⟨R, m', rfl, HIs.out, by omega, hmod'.trans hmod⟩, by show (Fl.toW R).toNat < (Fl.toW r).toNat; rw [Fl.toW_of_is HIs.out, Fl.toW_of_is Hr.out]; omega⟩
          · go_wp2_with fail
            refine (F.out _).mono ?_; rintro e w' ⟨rfl, rfl⟩
            go_wp2_with fail
            refine (HL.out _).mono ?_; rintro e w' ⟨⟨z, rfl, hz⟩, rfl⟩
            obtain ⟨R, m', hR, hIs, hm', hlt', hmod'⟩ := sub_step Hr.out hm hB0 hz Hst.out
            have hsub := fun W t => run_float_arith (P := Tryd.prog) W .sub t .f64 r z R hR
            have HIs := hid hIs
            clear hz hR hIs
            go_wp2_with fail
            exact ⟨⟨R, m', rfl, HIs.out, by omega, hmod'.trans hmod⟩, by show (Fl.toW R).toNat < (Fl.toW r).toNat; rw [Fl.toW_of_is HIs.out, Fl.toW_of_is Hr.out]; omega⟩
  · have tx : (FloatKind.f64.format.order x 0 == some .lt) = false := by
      rw [Fl.lt_fin hx.1 Fl.fin_0, decide_eq_false_iff_not, hx.2.1, Fl.sc_0]
      have := Int.mul_nonneg (show 0 ≤ a by omega) (show (0 : Int) ≤ Fl.K by omega)
      omega
    have HX := hid hx
    clear hx hy hY hYY hYe
    go_enter Tryd.func48, Tryd.ntmps48
    go_wp2_with (first | (go_at_call 58; refine (hI.out _).mono ?_; rintro e w' ⟨rfl, rfl⟩) | (go_at_call 59; first | (refine (hN.out _).mono ?_; rintro e w' ⟨rfl, rfl⟩) | (refine (hN2.out _).mono ?_; rintro e w' ⟨rfl, rfl⟩)) | (go_at_call 30; refine (hA.out _).mono ?_; rintro e w' ⟨rfl, rfl⟩) | (go_at_call 60; refine (hF.out _).mono ?_; rintro e w' ⟨rfl, rfl⟩))
    go_loop [7] (fun v => ∃ (r m : Nat), v = .float .f64 r ∧ Fl.Is r m ∧ m < 2 ^ 53 ∧ m % B = a.natAbs % B) (fun v => match v with | .float _ r => (Fl.toW r).toNat | _ => 0)
    case atStart => exact ⟨x, a.natAbs, rfl, by have := HX.out; rwa [show a = ((a.natAbs : Nat) : Int) by omega] at this, ha, rfl⟩
    case round =>
      obtain ⟨r, m, rfl, hr, hm, hmod⟩ := hrel
      have Hr := hid hr
      rcases Nat.lt_or_ge m B with hlt | hge
      · have o : FloatKind.f64.format.order r Y = some .lt := by
          rw [Fl.order_is hr HY.out]; exact congrArg some (Int.compare_eq_lt.2 (by omega))
        clear hr
        go_wp2_with fail
        go_ret
        exact ⟨⟨_, rfl, r, by have := Hr.out; rwa [show m = a.natAbs % b.natAbs by rw [← hBe, ← hmod, Nat.mod_eq_of_lt hlt]] at this, (if_neg (by omega)).symm⟩, rfl⟩
      · have F := hid (fun W => frexp_is r m hr (by omega) (by omega) W)
        have o : FloatKind.f64.format.order r Y = some .gt ∨ FloatKind.f64.format.order r Y = some .eq := by
          rw [Fl.order_is hr HY.out]
          rcases Nat.lt_or_ge B m with h | h
          · exact Or.inl (congrArg some (Int.compare_eq_gt.2 (by omega)))
          · exact Or.inr (congrArg some (Int.compare_eq_eq.2 (by omega)))
        clear hr
        have HrP := Fl.is_pos Hr.out (by omega) (by omega)
        have HYP := Fl.is_pos HY.out (by omega) (by omega)
        have r3 := HrP.2.2.1
        have r4 := HrP.2.2.2.1
        have y3 := HYP.2.2.1
        have y4 := HYP.2.2.2.1
        clear HrP HYP
        have hnn := Fl.step_nonneg Hr.out HY.out (by omega) (by omega) (by omega)
        obtain ⟨k, hk⟩ := Int.eq_ofNat_of_zero_le hnn
        have hst := Fl.step_is Hr.out HY.out (by omega) (by omega) (by omega) k hk.symm
        have HL := hid (fun W => ldexp_is Y B k HY.out (by omega) (by omega) (by omega) HYY.out W)
        have q := Fl.half_lt (Fl.rg r % 4503599627370496) (Fl.rg Y % 4503599627370496) (Nat.mod_lt _ (by decide)) (Nat.mod_lt _ (by decide))
        have Hst := hid hst
        clear hst hnn
        by_cases hf : Fl.rg r % 4503599627370496 < Fl.rg Y % 4503599627370496
        · rw [decide_eq_true hf] at q
          rw [if_pos hf] at hk
          have g1 : wrap64 (wrap64 ((Fl.rg r : Int) / 4503599627370496 - 1022 - 1) - ((Fl.rg Y : Int) / 4503599627370496 - 1022)) = (k : Int) := by unfold wrap64; omega
          clear r3 r4 y3 y4 hk hf
          rcases o with o | o
          · go_wp2_with fail
            refine (F.out _).mono ?_; rintro e w' ⟨rfl, rfl⟩
            go_wp2_with fail
            refine (HL.out _).mono ?_; rintro e w' ⟨⟨z, rfl, hz⟩, rfl⟩
            obtain ⟨R, m', hR, hIs, hm', hlt', hmod'⟩ := sub_step Hr.out hm hB0 hz Hst.out
            have hsub := fun W t => run_float_arith (P := Tryd.prog) W .sub t .f64 r z R hR
            have HIs := hid hIs
            clear hz hR hIs
            go_wp2_with fail
            exact ⟨⟨R, m', rfl, HIs.out, by omega, hmod'.trans hmod⟩, by show (Fl.toW R).toNat < (Fl.toW r).toNat; rw [Fl.toW_of_is HIs.out, Fl.toW_of_is Hr.out]; omega⟩
          · go_wp2_with fail
            refine (F.out _).mono ?_; rintro e w' ⟨rfl, rfl⟩
            go_wp2_with fail
            refine (HL.out _).mono ?_; rintro e w' ⟨⟨z, rfl, hz⟩, rfl⟩
            obtain ⟨R, m', hR, hIs, hm', hlt', hmod'⟩ := sub_step Hr.out hm hB0 hz Hst.out
            have hsub := fun W t => run_float_arith (P := Tryd.prog) W .sub t .f64 r z R hR
            have HIs := hid hIs
            clear hz hR hIs
            go_wp2_with fail
            exact ⟨⟨R, m', rfl, HIs.out, by omega, hmod'.trans hmod⟩, by show (Fl.toW R).toNat < (Fl.toW r).toNat; rw [Fl.toW_of_is HIs.out, Fl.toW_of_is Hr.out]; omega⟩
        · rw [decide_eq_false hf] at q
          rw [if_neg hf] at hk
          have g1 : wrap64 ((Fl.rg r : Int) / 4503599627370496 - 1022 - ((Fl.rg Y : Int) / 4503599627370496 - 1022)) = (k : Int) := by unfold wrap64; omega
          clear r3 r4 y3 y4 hk hf
          rcases o with o | o
          · go_wp2_with fail
            refine (F.out _).mono ?_; rintro e w' ⟨rfl, rfl⟩
            go_wp2_with fail
            refine (HL.out _).mono ?_; rintro e w' ⟨⟨z, rfl, hz⟩, rfl⟩
            obtain ⟨R, m', hR, hIs, hm', hlt', hmod'⟩ := sub_step Hr.out hm hB0 hz Hst.out
            have hsub := fun W t => run_float_arith (P := Tryd.prog) W .sub t .f64 r z R hR
            have HIs := hid hIs
            clear hz hR hIs
            go_wp2_with fail
            exact ⟨⟨R, m', rfl, HIs.out, by omega, hmod'.trans hmod⟩, by show (Fl.toW R).toNat < (Fl.toW r).toNat; rw [Fl.toW_of_is HIs.out, Fl.toW_of_is Hr.out]; omega⟩
          · go_wp2_with fail
            refine (F.out _).mono ?_; rintro e w' ⟨rfl, rfl⟩
            go_wp2_with fail
            refine (HL.out _).mono ?_; rintro e w' ⟨⟨z, rfl, hz⟩, rfl⟩
            obtain ⟨R, m', hR, hIs, hm', hlt', hmod'⟩ := sub_step Hr.out hm hB0 hz Hst.out
            have hsub := fun W t => run_float_arith (P := Tryd.prog) W .sub t .f64 r z R hR
            have HIs := hid hIs
            clear hz hR hIs
            go_wp2_with fail
            exact ⟨⟨R, m', rfl, HIs.out, by omega, hmod'.trans hmod⟩, by show (Fl.toW R).toNat < (Fl.toW r).toNat; rw [Fl.toW_of_is HIs.out, Fl.toW_of_is Hr.out]; omega⟩

end Go.Proofs.YthdgehdbanhliaaDoor
