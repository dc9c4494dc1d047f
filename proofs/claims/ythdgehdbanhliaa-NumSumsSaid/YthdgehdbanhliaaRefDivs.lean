/-
  The walks of the reference's Div, Rem, Neg, and of NumSums.
-/
import Derived.Test.YthdgehdbanhliaaRefSums
import Derived.Test.YthdgehdbanhliaaLaw
namespace Go.Proofs.Ythdgehdbanhliaa
open Go.RowKit

theorem refDiv_not (x y : Nat) (w : World) (h : Fl.may x = false ∨ (Fl.may x = true ∧ Fl.may y = false)) : Calls Try.prog 29 #[.float .f64 x, .float .f64 y] w (Tells (2, some 0) w) := by
  have T := hid (fun W => two_not x y W h)
  clear h
  go_enter Try.func29, Try.ntmps29
  go_wp2_with (go_at_call 41; refine (T.out _).mono ?_; rintro e w' ⟨rfl, rfl⟩)
  go_ret2
  exact ⟨⟨0, rfl, Fl.is_0⟩, Below.refl _ _⟩

theorem refDiv_nan (x y : Nat) (w : World) (h1 : Fl.may x = true) (h2 : Fl.may y = true) (hn : Fl.isNaN x = true ∨ Fl.isNaN y = true) : Calls Try.prog 29 #[.float .f64 x, .float .f64 y] w (Tells (0, none) w) := by
  have T := hid (fun W => two_nan h1 h2 hn W)
  clear h1 h2 hn
  go_enter Try.func29, Try.ntmps29
  go_wp2_with (first | (go_at_call 41; refine (T.out _).mono ?_; rintro e w' ⟨⟨a, b, rfl⟩, rfl⟩) | (go_at_call 42; refine (refNaN_any _).mono ?_; rintro e w' ⟨⟨r, rfl, hr⟩, rfl⟩; have Hr := hid hr; clear hr))
  go_ret2
  exact ⟨⟨r, rfl, Hr.out⟩, (Below.refl _ _).drew⟩

theorem refDiv_is (x y : Nat) (a b : Int) (w : World) (a1 : -9007199254740991 ≤ a) (a2 : a ≤ 9007199254740991) (b1 : -9007199254740991 ≤ b) (b2 : b ≤ 9007199254740991) (T : Hid (∀ W, Calls Try.prog 41 #[.float .f64 x, .float .f64 y] W fun e w' => e = .returned (.tuple #[.int .i64 a, .int .i64 b, .bool false, .int .i64 0]) ∧ W = w')) : Calls Try.prog 29 #[.float .f64 x, .float .f64 y] w (Tells (divF a b) w) := by
  by_cases ha : a = 0 ∧ b = 0
  · have e : divF a b = (0, none) := by unfold divF; rw [if_pos ha]
    rw [e]
    obtain ⟨rfl, rfl⟩ := ha
    clear e
    go_enter Try.func29, Try.ntmps29
    go_wp2_with (first | (go_at_call 41; refine (T.out _).mono ?_; rintro e w' ⟨rfl, rfl⟩) | (go_at_call 42; refine (refNaN_any _).mono ?_; rintro e w' ⟨⟨r, rfl, hr⟩, rfl⟩; have Hr := hid hr; clear hr))
    go_ret2
    exact ⟨⟨r, rfl, Hr.out⟩, (Below.refl _ _).drew⟩
  by_cases hb : b = 0
  · have e : divF a b = (10, some 0) := by unfold divF; rw [if_neg ha, if_pos (Or.inl hb)]
    rw [e]
    subst hb
    have ha' : (a == 0) = false := by rw [beq_eq_false_iff_ne]; omega
    clear e ha
    go_enter Try.func29, Try.ntmps29
    go_wp2_with (go_at_call 41; refine (T.out _).mono ?_; rintro e w' ⟨rfl, rfl⟩)
    go_ret2
    exact ⟨⟨0, rfl, Fl.is_0⟩, Below.refl _ _⟩
  have hb' : (b == 0) = false := by rw [beq_eq_false_iff_ne]; omega
  by_cases ha0 : a = 0
  · subst ha0
    by_cases hn : b < 0
    · have e : divF 0 b = (10, some 0) := by unfold divF; rw [if_neg ha, if_pos (Or.inr (Or.inl ⟨rfl, hn⟩))]
      rw [e]
      clear e ha
      go_enter Try.func29, Try.ntmps29
      go_wp2_with (go_at_call 41; refine (T.out _).mono ?_; rintro e w' ⟨rfl, rfl⟩)
      go_ret2
      exact ⟨⟨0, rfl, Fl.is_0⟩, Below.refl _ _⟩
    · have e : divF 0 b = finN 0 := by unfold divF; rw [if_neg ha, if_neg (by simp; omega), Int.zero_tdiv]
      rw [e]
      have hz : Int.tmod 0 b = 0 := Int.zero_tmod b
      have hz2 : Int.tdiv 0 b = 0 := Int.zero_tdiv b
      clear e ha
      go_enter Try.func29, Try.ntmps29
      go_wp2_with (first | (go_at_call 41; refine (T.out _).mono ?_; rintro e w' ⟨rfl, rfl⟩) | (go_at_call 43; refine (refTold_any _ _).mono ?_; rintro e w' ⟨⟨u, rfl, hu⟩, rfl⟩; have Hu := hid hu; clear hu))
      go_ret2
      exact ⟨⟨u, rfl, Hu.out⟩, Below.refl _ _⟩
  have ha' : (a == 0) = false := by rw [beq_eq_false_iff_ne]; omega
  by_cases hm : a.tmod b = 0
  · have e : divF a b = finN (a.tdiv b) := by unfold divF; rw [if_neg ha, if_neg (by omega)]
    rw [e]
    have q1 : -9007199254740991 ≤ a.tdiv b ∧ a.tdiv b ≤ 9007199254740991 := by
      have := Int.natAbs_tdiv_le_natAbs a b
      omega
    obtain ⟨q1, q2⟩ := q1
    have hm' : (a.tmod b == 0) = true := by rw [hm]; rfl
    clear e ha ha0
    go_enter Try.func29, Try.ntmps29
    go_wp2_with (first | (go_at_call 41; refine (T.out _).mono ?_; rintro e w' ⟨rfl, rfl⟩) | (go_at_call 43; refine (refTold_any _ _).mono ?_; rintro e w' ⟨⟨u, rfl, hu⟩, rfl⟩; have Hu := hid hu; clear hu))
    go_ret2
    exact ⟨⟨u, rfl, Hu.out⟩, Below.refl _ _⟩
  · have e : divF a b = (10, some 0) := by unfold divF; rw [if_neg ha, if_pos (Or.inr (Or.inr hm))]
    rw [e]
    have hm' : (a.tmod b == 0) = false := by simpa using hm
    clear e ha ha0 hm
    go_enter Try.func29, Try.ntmps29
    go_wp2_with (go_at_call 41; refine (T.out _).mono ?_; rintro e w' ⟨rfl, rfl⟩)
    go_ret2
    exact ⟨⟨0, rfl, Fl.is_0⟩, Below.refl _ _⟩

theorem refDiv_any (x y : Nat) (w : World) : Calls Try.prog 29 #[.float .f64 x, .float .f64 y] w (Tells (opR divF x y) w) := by
  cases h1 : Fl.may x
  · have e : opR divF x y = (2, some 0) := if_pos (Or.inl h1)
    rw [e]; exact refDiv_not x y w (Or.inl h1)
  cases h2 : Fl.may y
  · have e : opR divF x y = (2, some 0) := if_pos (Or.inr h2)
    rw [e]; exact refDiv_not x y w (Or.inr ⟨h1, h2⟩)
  by_cases hn : Fl.isNaN x = true ∨ Fl.isNaN y = true
  · have e : opR divF x y = (0, none) := by unfold opR; rw [if_neg (by simp [h1, h2]), if_pos hn]
    rw [e]; exact refDiv_nan x y w h1 h2 hn
  · have e : opR divF x y = divF (Fl.toW x) (Fl.toW y) := by unfold opR; rw [if_neg (by simp [h1, h2]), if_neg hn]
    rw [e]
    have ba := toW_bd h1 (by cases h : Fl.isNaN x <;> simp_all)
    have bb := toW_bd h2 (by cases h : Fl.isNaN y <;> simp_all)
    have T := hid (fun W => two_is h1 h2 hn W)
    generalize Fl.toW x = a at *
    generalize Fl.toW y = b at *
    exact refDiv_is x y a b w ba.1 ba.2 bb.1 bb.2 T

theorem refRem_not (x y : Nat) (w : World) (h : Fl.may x = false ∨ (Fl.may x = true ∧ Fl.may y = false)) : Calls Try.prog 30 #[.float .f64 x, .float .f64 y] w (Tells (2, some 0) w) := by
  have T := hid (fun W => two_not x y W h)
  clear h
  go_enter Try.func30, Try.ntmps30
  go_wp2_with (go_at_call 41; refine (T.out _).mono ?_; rintro e w' ⟨rfl, rfl⟩)
  go_ret2
  exact ⟨⟨0, rfl, Fl.is_0⟩, Below.refl _ _⟩

theorem refRem_nan (x y : Nat) (w : World) (h1 : Fl.may x = true) (h2 : Fl.may y = true) (hn : Fl.isNaN x = true ∨ Fl.isNaN y = true) : Calls Try.prog 30 #[.float .f64 x, .float .f64 y] w (Tells (0, none) w) := by
  have T := hid (fun W => two_nan h1 h2 hn W)
  clear h1 h2 hn
  go_enter Try.func30, Try.ntmps30
  go_wp2_with (first | (go_at_call 41; refine (T.out _).mono ?_; rintro e w' ⟨⟨a, b, rfl⟩, rfl⟩) | (go_at_call 42; refine (refNaN_any _).mono ?_; rintro e w' ⟨⟨r, rfl, hr⟩, rfl⟩; have Hr := hid hr; clear hr))
  go_ret2
  exact ⟨⟨r, rfl, Hr.out⟩, (Below.refl _ _).drew⟩

theorem refRem_is (x y : Nat) (a b : Int) (w : World) (a1 : -9007199254740991 ≤ a) (a2 : a ≤ 9007199254740991) (b1 : -9007199254740991 ≤ b) (b2 : b ≤ 9007199254740991) (T : Hid (∀ W, Calls Try.prog 41 #[.float .f64 x, .float .f64 y] W fun e w' => e = .returned (.tuple #[.int .i64 a, .int .i64 b, .bool false, .int .i64 0]) ∧ W = w')) : Calls Try.prog 30 #[.float .f64 x, .float .f64 y] w (Tells (remF a b) w) := by
  by_cases hb : b = 0
  · have e : remF a b = (0, none) := by unfold remF; rw [if_pos hb]
    rw [e]
    subst hb
    clear e
    go_enter Try.func30, Try.ntmps30
    go_wp2_with (first | (go_at_call 41; refine (T.out _).mono ?_; rintro e w' ⟨rfl, rfl⟩) | (go_at_call 42; refine (refNaN_any _).mono ?_; rintro e w' ⟨⟨r, rfl, hr⟩, rfl⟩; have Hr := hid hr; clear hr))
    go_ret2
    exact ⟨⟨r, rfl, Hr.out⟩, (Below.refl _ _).drew⟩
  have hb' : (b == 0) = false := by rw [beq_eq_false_iff_ne]; omega
  have q : -9007199254740991 ≤ a.tmod b ∧ a.tmod b ≤ 9007199254740991 := by
    have h1 := tmod_abs a b
    have h2 : a.natAbs % b.natAbs < b.natAbs := Nat.mod_lt _ (by omega)
    split at h1 <;> omega
  obtain ⟨q1, q2⟩ := q
  by_cases hn : a < 0
  · by_cases hm : a.tmod b = 0
    · have e : remF a b = (10, some 0) := by unfold remF; rw [if_neg hb, if_pos ⟨hn, hm⟩]
      rw [e]
      have hm' : (a.tmod b == 0) = true := by rw [hm]; rfl
      clear e hm
      go_enter Try.func30, Try.ntmps30
      go_wp2_with (go_at_call 41; refine (T.out _).mono ?_; rintro e w' ⟨rfl, rfl⟩)
      go_ret2
      exact ⟨⟨0, rfl, Fl.is_0⟩, Below.refl _ _⟩
    · have e : remF a b = finN (a.tmod b) := by unfold remF; rw [if_neg hb, if_neg (by omega)]
      rw [e]
      have hm' : (a.tmod b == 0) = false := by simpa using hm
      clear e hm
      go_enter Try.func30, Try.ntmps30
      go_wp2_with (first | (go_at_call 41; refine (T.out _).mono ?_; rintro e w' ⟨rfl, rfl⟩) | (go_at_call 43; refine (refTold_any _ _).mono ?_; rintro e w' ⟨⟨u, rfl, hu⟩, rfl⟩; have Hu := hid hu; clear hu))
      go_ret2
      exact ⟨⟨u, rfl, Hu.out⟩, Below.refl _ _⟩
  · have e : remF a b = finN (a.tmod b) := by unfold remF; rw [if_neg hb, if_neg (by omega)]
    rw [e, Int.tmod_eq_emod_of_nonneg (by omega)]
    rw [Int.tmod_eq_emod_of_nonneg (by omega)] at q1 q2
    clear e
    go_enter Try.func30, Try.ntmps30
    go_wp2_with (first | (go_at_call 41; refine (T.out _).mono ?_; rintro e w' ⟨rfl, rfl⟩) | (go_at_call 43; refine (refTold_any _ _).mono ?_; rintro e w' ⟨⟨u, rfl, hu⟩, rfl⟩; have Hu := hid hu; clear hu))
    go_ret2
    exact ⟨⟨u, rfl, Hu.out⟩, Below.refl _ _⟩

theorem refRem_any (x y : Nat) (w : World) : Calls Try.prog 30 #[.float .f64 x, .float .f64 y] w (Tells (opR remF x y) w) := by
  cases h1 : Fl.may x
  · have e : opR remF x y = (2, some 0) := if_pos (Or.inl h1)
    rw [e]; exact refRem_not x y w (Or.inl h1)
  cases h2 : Fl.may y
  · have e : opR remF x y = (2, some 0) := if_pos (Or.inr h2)
    rw [e]; exact refRem_not x y w (Or.inr ⟨h1, h2⟩)
  by_cases hn : Fl.isNaN x = true ∨ Fl.isNaN y = true
  · have e : opR remF x y = (0, none) := by unfold opR; rw [if_neg (by simp [h1, h2]), if_pos hn]
    rw [e]; exact refRem_nan x y w h1 h2 hn
  · have e : opR remF x y = remF (Fl.toW x) (Fl.toW y) := by unfold opR; rw [if_neg (by simp [h1, h2]), if_neg hn]
    rw [e]
    have ba := toW_bd h1 (by cases h : Fl.isNaN x <;> simp_all)
    have bb := toW_bd h2 (by cases h : Fl.isNaN y <;> simp_all)
    have T := hid (fun W => two_is h1 h2 hn W)
    generalize Fl.toW x = a at *
    generalize Fl.toW y = b at *
    exact refRem_is x y a b w ba.1 ba.2 bb.1 bb.2 T

theorem refNeg_any (x : Nat) (w : World) : Calls Try.prog 31 #[.float .f64 x] w (Tells (negR x) w) := by
  cases h1 : Fl.may x
  · have e : negR x = (2, some 0) := if_pos h1
    rw [e]
    clear e
    go_enter Try.func31, Try.ntmps31
    go_wp2_with (go_at_call 32; refine (refMay_any _ _).mono ?_; rintro e w' ⟨rfl, rfl⟩)
    go_ret2
    exact ⟨⟨0, rfl, Fl.is_0⟩, Below.refl _ _⟩
  cases hn : Fl.isNaN x
  · have hw := isW_of h1 hn
    have e1 : Fl.wv x = Fl.toW x := by unfold Fl.wv; rw [hw]; rfl
    obtain ⟨a1, a2⟩ := toW_bd h1 hn
    have W : Hid (∀ W, Calls Try.prog 33 #[.float .f64 x] W fun e w' => e = .returned (.tuple #[.int .i64 (Fl.toW x), .bool true]) ∧ W = w') := by
      refine hid fun W => ?_
      have := whole_any x W
      rw [e1, hw] at this
      exact this
    have e2 : negR x = if Fl.toW x = 0 then (10, some 0) else finN (-Fl.toW x) := by unfold negR; rw [if_neg (by simp [h1]), if_neg (by simp [hn])]
    rw [e2]
    clear hn hw e1 e2
    generalize Fl.toW x = a at *
    by_cases h0 : a = 0
    · rw [if_pos h0]
      subst h0
      go_enter Try.func31, Try.ntmps31
      go_wp2_with (first | (go_at_call 32; refine (refMay_any _ _).mono ?_; rintro e w' ⟨rfl, rfl⟩) | (go_at_call 33; refine (W.out _).mono ?_; rintro e w' ⟨rfl, rfl⟩))
      go_ret2
      exact ⟨⟨0, rfl, Fl.is_0⟩, Below.refl _ _⟩
    · rw [if_neg h0]
      have h0' : (a == 0) = false := by rw [beq_eq_false_iff_ne]; omega
      clear h0
      go_enter Try.func31, Try.ntmps31
      go_wp2_with (first | (go_at_call 32; refine (refMay_any _ _).mono ?_; rintro e w' ⟨rfl, rfl⟩) | (go_at_call 33; refine (W.out _).mono ?_; rintro e w' ⟨rfl, rfl⟩) | (go_at_call 43; refine (refTold_any _ _).mono ?_; rintro e w' ⟨⟨u, rfl, hu⟩, rfl⟩; have Hu := hid hu; clear hu))
      go_ret2
      exact ⟨⟨u, rfl, Hu.out⟩, Below.refl _ _⟩
  · have hw := Fl.not_isW_inf (nan_fin hn)
    have W : Hid (∀ W, Calls Try.prog 33 #[.float .f64 x] W fun e w' => (∃ n, e = .returned (.tuple #[.int .i64 n, .bool false])) ∧ W = w') := by
      refine hid fun W => (whole_any x W).mono ?_
      rintro e w' ⟨rfl, rfl⟩
      rw [hw]
      exact ⟨⟨_, rfl⟩, rfl⟩
    have e2 : negR x = (0, none) := by unfold negR; rw [if_neg (by simp [h1]), if_pos hn]
    rw [e2]
    clear hn hw e2
    go_enter Try.func31, Try.ntmps31
    go_wp2_with (first | (go_at_call 32; refine (refMay_any _ _).mono ?_; rintro e w' ⟨rfl, rfl⟩) | (go_at_call 33; refine (W.out _).mono ?_; rintro e w' ⟨⟨n, rfl⟩, rfl⟩) | (go_at_call 42; refine (refNaN_any _).mono ?_; rintro e w' ⟨⟨r, rfl, hr⟩, rfl⟩; have Hr := hid hr; clear hr))
    go_ret2
    exact ⟨⟨r, rfl, Hr.out⟩, (Below.refl _ _).drew⟩

theorem told_tells {r : Int × Option Int} {v u : Nat} (h : Stands v r.2) (k : Stands u r.2) (w : World) :
    Calls Try.prog 13 #[.float .f64 v, .int .i64 r.1, .float .f64 u, .int .i64 r.1] w fun r w' => r = .returned (.bool true) ∧ w = w' :=
  told_same v r.1 u (stands_same h k) w

theorem law_sums (x y : Nat) (w : World) :
    Calls Try.prog 6 #[.float .f64 x, .float .f64 y] w fun e w' => e = .returned (.bool true) ∧ Below w.heap.size w w' := by
  generalize hR1 : opR addF x y = R1
  generalize hR2 : opR subF x y = R2
  generalize hR3 : opR mulF x y = R3
  generalize hR4 : opR divF x y = R4
  generalize hR5 : opR remF x y = R5
  generalize hR6 : negR x = R6
  have P1 : Hid (∀ W, Calls Try.prog 19 #[.float .f64 x, .float .f64 y] W (Tells R1 W)) := hid fun W => by have := add_any x y W; rw [hR1] at this; exact this
  have Q1 : Hid (∀ W, Calls Try.prog 26 #[.float .f64 x, .float .f64 y] W (Tells R1 W)) := hid fun W => by have := refAdd_any x y W; rw [hR1] at this; exact this
  have P2 : Hid (∀ W, Calls Try.prog 20 #[.float .f64 x, .float .f64 y] W (Tells R2 W)) := hid fun W => by have := sub_any x y W; rw [hR2] at this; exact this
  have Q2 : Hid (∀ W, Calls Try.prog 27 #[.float .f64 x, .float .f64 y] W (Tells R2 W)) := hid fun W => by have := refSub_any x y W; rw [hR2] at this; exact this
  have P3 : Hid (∀ W, Calls Try.prog 21 #[.float .f64 x, .float .f64 y] W (Tells R3 W)) := hid fun W => by have := mul_any x y W; rw [hR3] at this; exact this
  have Q3 : Hid (∀ W, Calls Try.prog 28 #[.float .f64 x, .float .f64 y] W (Tells R3 W)) := hid fun W => by have := refMul_any x y W; rw [hR3] at this; exact this
  have P4 : Hid (∀ W, Calls Try.prog 22 #[.float .f64 x, .float .f64 y] W (Tells R4 W)) := hid fun W => by have := div_any x y W; rw [hR4] at this; exact this
  have Q4 : Hid (∀ W, Calls Try.prog 29 #[.float .f64 x, .float .f64 y] W (Tells R4 W)) := hid fun W => by have := refDiv_any x y W; rw [hR4] at this; exact this
  have P5 : Hid (∀ W, Calls Try.prog 23 #[.float .f64 x, .float .f64 y] W (Tells R5 W)) := hid fun W => by have := rem_any x y W; rw [hR5] at this; exact this
  have Q5 : Hid (∀ W, Calls Try.prog 30 #[.float .f64 x, .float .f64 y] W (Tells R5 W)) := hid fun W => by have := refRem_any x y W; rw [hR5] at this; exact this
  have P6 : Hid (∀ W, Calls Try.prog 25 #[.float .f64 x] W (Tells R6 W)) := hid fun W => by have := neg_any x W; rw [hR6] at this; exact this
  have Q6 : Hid (∀ W, Calls Try.prog 31 #[.float .f64 x] W (Tells R6 W)) := hid fun W => by have := refNeg_any x W; rw [hR6] at this; exact this
  clear hR1 hR2 hR3 hR4 hR5 hR6
  go_enter Try.func6, Try.ntmps6
  go_wp2_with fail
  refine (P1.out _).mono ?_; rintro e w1 ⟨⟨a1, rfl, h⟩, B1⟩; have HP1 := hid h; have C1 := hid B1; clear h B1
  go_wp2_with fail
  refine (P2.out _).mono ?_; rintro e w2 ⟨⟨a2, rfl, h⟩, B2⟩; have HP2 := hid h; have C2 := hid B2; clear h B2
  go_wp2_with fail
  refine (P3.out _).mono ?_; rintro e w3 ⟨⟨a3, rfl, h⟩, B3⟩; have HP3 := hid h; have C3 := hid B3; clear h B3
  go_wp2_with fail
  refine (P4.out _).mono ?_; rintro e w4 ⟨⟨a4, rfl, h⟩, B4⟩; have HP4 := hid h; have C4 := hid B4; clear h B4
  go_wp2_with fail
  refine (P5.out _).mono ?_; rintro e w5 ⟨⟨a5, rfl, h⟩, B5⟩; have HP5 := hid h; have C5 := hid B5; clear h B5
  go_wp2_with fail
  refine (P6.out _).mono ?_; rintro e w6 ⟨⟨a6, rfl, h⟩, B6⟩; have HP6 := hid h; have C6 := hid B6; clear h B6
  go_wp2_with fail
  refine (Q1.out _).mono ?_; rintro e w7 ⟨⟨b1, rfl, h⟩, B7⟩; have HQ1 := hid h; have C7 := hid B7; clear h B7
  go_wp2_with fail
  refine (Q2.out _).mono ?_; rintro e w8 ⟨⟨b2, rfl, h⟩, B8⟩; have HQ2 := hid h; have C8 := hid B8; clear h B8
  go_wp2_with fail
  refine (Q3.out _).mono ?_; rintro e w9 ⟨⟨b3, rfl, h⟩, B9⟩; have HQ3 := hid h; have C9 := hid B9; clear h B9
  go_wp2_with fail
  refine (Q4.out _).mono ?_; rintro e w10 ⟨⟨b4, rfl, h⟩, B10⟩; have HQ4 := hid h; have C10 := hid B10; clear h B10
  go_wp2_with fail
  refine (Q5.out _).mono ?_; rintro e w11 ⟨⟨b5, rfl, h⟩, B11⟩; have HQ5 := hid h; have C11 := hid B11; clear h B11
  go_wp2_with fail
  refine (Q6.out _).mono ?_; rintro e w12 ⟨⟨b6, rfl, h⟩, B12⟩; have HQ6 := hid h; have C12 := hid B12; clear h B12
  go_wp2_with fail
  refine (told_tells HP1.out HQ1.out _).mono ?_; rintro e w' ⟨rfl, rfl⟩
  go_wp2_with fail
  refine (told_tells HP2.out HQ2.out _).mono ?_; rintro e w' ⟨rfl, rfl⟩
  go_wp2_with fail
  refine (told_tells HP3.out HQ3.out _).mono ?_; rintro e w' ⟨rfl, rfl⟩
  go_wp2_with fail
  refine (told_tells HP4.out HQ4.out _).mono ?_; rintro e w' ⟨rfl, rfl⟩
  go_wp2_with fail
  refine (told_tells HP5.out HQ5.out _).mono ?_; rintro e w' ⟨rfl, rfl⟩
  go_wp2_with fail
  refine (told_tells HP6.out HQ6.out _).mono ?_; rintro e w' ⟨rfl, rfl⟩
  go_wp2_with fail
  refine (may_any _ _).mono ?_; rintro e w' ⟨rfl, rfl⟩
  go_wp2_with fail
  refine (refMay_any _ _).mono ?_; rintro e w' ⟨rfl, rfl⟩
  go_wp2_with fail
  go_ret
  exact ⟨rfl, grow (grow (grow (grow (grow (grow (grow (grow (grow (grow (grow (C1.out) C2.out) C3.out) C4.out) C5.out) C6.out) C7.out) C8.out) C9.out) C10.out) C11.out) C12.out⟩

end Go.Proofs.Ythdgehdbanhliaa
