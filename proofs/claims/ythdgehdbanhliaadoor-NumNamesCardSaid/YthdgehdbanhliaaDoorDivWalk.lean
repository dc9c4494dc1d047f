/-
  The walks of num.Div and num.Rem.
-/
import Derived.Test.YthdgehdbanhliaaDoorAddWalk
namespace Go.Proofs.YthdgehdbanhliaaDoor
open Go.RowKit

theorem tmod_abs (a b : Int) : a.tmod b = if a < 0 then -((a.natAbs % b.natAbs : Nat) : Int) else ((a.natAbs % b.natAbs : Nat) : Int) := by
  rcases a with n | n <;> rcases b with m | m
  · rw [if_neg (by simp)]; rfl
  · rw [if_neg (by simp)]; rfl
  · rw [if_pos (Int.negSucc_lt_zero n)]; rfl
  · rw [if_pos (Int.negSucc_lt_zero n)]; rfl

theorem tmod_zero (a b : Int) : a.tmod b = 0 ↔ a.natAbs % b.natAbs = 0 := by
  rw [tmod_abs]; split <;> omega

theorem is_nan {x : Nat} {n : Int} (h : Fl.Is x n) : Fl.isNaN x = false := Fl.fin_not_nan h.1

theorem isZ_is {x : Nat} {n : Int} (h : Fl.Is x n) : Fl.isZ x = decide (n = 0) := by
  rw [Bool.eq_iff_iff, ← Fl.sc_zero_iff, h.2.1, decide_eq_true_eq]
  have hK := Fl.K_pos
  constructor
  · intro h1
    rcases Int.mul_eq_zero.1 h1 with h2 | h2
    · exact h2
    · omega
  · rintro rfl; exact Int.zero_mul _

/-- Is a whole word nought? As the walk asks it. -/
theorem eq0_is {x : Nat} {n : Int} (h : Fl.Is x n) : (FloatKind.f64.format.order x 0 == some .eq) = decide (n = 0) := by
  rw [← isZ_is h]; exact Fl.order_0 x (is_nan h)
theorem ne0_is {x : Nat} {n : Int} (h : Fl.Is x n) : (FloatKind.f64.format.order x 0 != some .eq) = !decide (n = 0) := by
  rw [bne, eq0_is h]

theorem mod_nan_not {z : Nat} {a b : Int} (h : ModOk z a b) : Fl.isNaN z = false := by
  obtain ⟨r, hr, rfl⟩ := h
  split
  · rw [Fl.isNaN_neg]; exact is_nan hr
  · exact is_nan hr

theorem ne0_mod {z : Nat} {a b : Int} (h : ModOk z a b) : (FloatKind.f64.format.order z 0 != some .eq) = !decide (a.natAbs % b.natAbs = 0) := by
  have hn := mod_nan_not h
  rw [bne, show (FloatKind.f64.format.order z 0 == some .eq) = Fl.isZ z from Fl.order_0 z hn]
  obtain ⟨r, hr, rfl⟩ := h
  have h1 := isZ_is hr
  have h2 : Fl.isZ (if a < 0 then Fl.negW r else r) = Fl.isZ r := by
    split
    · unfold Fl.isZ; rw [Fl.rg_neg]
    · rfl
  rw [h2, h1]
  congr 1
  rw [decide_eq_decide]; omega

theorem nan_word : Fl.isNaN 9221120237041090561 = true := by decide
theorem ne0_nan : (FloatKind.f64.format.order 9221120237041090561 0 != some .eq) = true := by rw [ordN nan_word]; rfl
theorem self_nan {x : Nat} (h : Fl.isNaN x = true) : (FloatKind.f64.format.order x x == some .eq) = false := by rw [ordN h]; rfl
theorem self_not {x : Nat} (h : Fl.isNaN x = false) : (FloatKind.f64.format.order x x == some .eq) = true := by rw [ordE h]; rfl

/-- What one word over another comes to, where the program divides. -/
theorem div_makes {x y : Nat} {a b : Int} (hx : Fl.Is x a) (hy : Fl.Is y b) (ha : a.natAbs < 2 ^ 53) (hb : b.natAbs < 2 ^ 53) (hab : ¬ (a = 0 ∧ b = 0)) (h : b ≠ 0 → a.natAbs % b.natAbs = 0) :
    ∃ z, floatBits .quo .f64 x y = some z ∧ Makes z (divF a b) := by
  unfold divF
  rw [if_neg hab]
  by_cases h0 : b = 0
  · subst h0
    rw [if_pos (Or.inl rfl)]
    obtain ⟨z, h1, h2, h3⟩ := Fl.div_inf hx hy (by omega) ha
    exact ⟨z, h1, makes_no h3 h2⟩
  · have ht := (tmod_zero a b).2 (h h0)
    have hq : a = a.tdiv b * b := by
      have := Int.tmod_add_mul_tdiv a b
      rw [ht, Int.zero_add, Int.mul_comm] at this
      exact this.symm
    obtain ⟨q, hqe⟩ : ∃ q, q = a.tdiv b := ⟨_, rfl⟩
    rw [← hqe] at hq ⊢
    rw [hq] at hx ha
    obtain ⟨z, h1, h2, h3, h4⟩ := Fl.div_near hx hy ha hb h0
    refine ⟨z, h1, ?_⟩
    by_cases hq0 : q = 0
    · obtain ⟨h5, h6⟩ := h4 hq0
      have ha0 : a = 0 := by rw [hq, hq0, Int.zero_mul]
      by_cases hbn : b < 0
      · rw [if_pos (Or.inr (Or.inl ⟨ha0, hbn⟩))]
        exact makes_no (Fl.fin_not_nan h2) (h6 (decide_eq_true hbn))
      · rw [if_neg (by omega), hq0]
        exact makes_is (h5 (decide_eq_false hbn)) (by decide)
    · have ha0 : a ≠ 0 := by rw [hq]; exact Int.mul_ne_zero hq0 h0
      rw [if_neg (by omega)]
      exact makes_near (h3 hq0)

theorem rem_makes {z : Nat} {a b : Int} (h : ModOk z a b) (hb : b.natAbs < 2 ^ 53) (h0 : b ≠ 0) : Makes z (remF a b) := by
  have hn := mod_nan_not h
  have ht := tmod_abs a b
  obtain ⟨r, hr, rfl⟩ := h
  have hlt : a.natAbs % b.natAbs < b.natAbs := Nat.mod_lt _ (by omega)
  generalize a.natAbs % b.natAbs = m at *
  unfold remF
  rw [if_neg h0]
  by_cases hneg : a < 0
  · rw [if_pos hneg] at ht hn ⊢
    by_cases hm : m = 0
    · rw [if_pos ⟨hneg, by omega⟩]
      rw [hm] at hr
      exact makes_no hn (Fl.not_isW_neg0 hr)
    · rw [if_neg (by omega), ht]
      unfold finN; rw [if_pos (by omega)]
      exact makes_is (Fl.is_neg hr (by omega)) (by omega)
  · rw [if_neg hneg] at ht hn ⊢
    rw [if_neg (by omega), ht]
    unfold finN; rw [if_pos (by omega)]
    exact makes_is hr (by omega)

theorem div_not (x y : Nat) (w : World) (h : Fl.may x = false ∨ (Fl.may x = true ∧ Fl.may y = false)) : Calls Tryd.prog 19 #[.float .f64 x, .float .f64 y] w (Tells (2, some 0) w) := by
  rcases h with h1 | ⟨h1, h2⟩
  · go_enter Tryd.func19, Tryd.ntmps19
    go_wp2_with (go_at_call 12; refine (may_any _ _).mono ?_; rintro e w' ⟨rfl, rfl⟩)
    go_ret2
    exact ⟨⟨0, rfl, Fl.is_0⟩, Below.refl _ _⟩
  · go_enter Tryd.func19, Tryd.ntmps19
    go_wp2_with (go_at_call 12; refine (may_any _ _).mono ?_; rintro e w' ⟨rfl, rfl⟩)
    go_ret2
    exact ⟨⟨0, rfl, Fl.is_0⟩, Below.refl _ _⟩

theorem rem_not (x y : Nat) (w : World) (h : Fl.may x = false ∨ (Fl.may x = true ∧ Fl.may y = false)) : Calls Tryd.prog 20 #[.float .f64 x, .float .f64 y] w (Tells (2, some 0) w) := by
  rcases h with h1 | ⟨h1, h2⟩
  · go_enter Tryd.func20, Tryd.ntmps20
    go_wp2_with (go_at_call 12; refine (may_any _ _).mono ?_; rintro e w' ⟨rfl, rfl⟩)
    go_ret2
    exact ⟨⟨0, rfl, Fl.is_0⟩, Below.refl _ _⟩
  · go_enter Tryd.func20, Tryd.ntmps20
    go_wp2_with (go_at_call 12; refine (may_any _ _).mono ?_; rintro e w' ⟨rfl, rfl⟩)
    go_ret2
    exact ⟨⟨0, rfl, Fl.is_0⟩, Below.refl _ _⟩

/-- The program's division, where it comes to the quotient. -/
theorem div_quo (x y r : Nat) (w w1 : World) (R : Int × Option Int) (h1 : Fl.may x = true) (h2 : Fl.may y = true) (z tm m sx sy : Bool) (M : Nat)
    (hz : (FloatKind.f64.format.order y 0 != some .eq) = z)
    (hM : z = true → ∀ W, Calls Tryd.prog 33 #[.float .f64 x, .float .f64 y] W fun e w' => e = .returned (.float .f64 M) ∧ W = w')
    (hm : (FloatKind.f64.format.order M 0 != some .eq) = m) (hsx : (FloatKind.f64.format.order x x == some .eq) = sx) (hsy : (FloatKind.f64.format.order y y == some .eq) = sy)
    (ht : (z && m && sx && sy) = tm) (htm : tm = false)
    (hrun : (binOp .quo 22 (.float .f64 x) (.float .f64 y)).run Tryd.prog w = .ok (.float .f64 r) w1) (hb : Below w.heap.size w w1) (hD : Makes r R) :
    Calls Tryd.prog 19 #[.float .f64 x, .float .f64 y] w (Tells R w) := by
  subst htm
  have D := hid (fun W => done_tells r _ hD W)
  have Mo := hid hM
  have Hb := hid hb
  clear hM hD hb
  cases z <;> cases m <;> cases sx <;> cases sy
  all_goals first | (cases ht; done) | skip
  all_goals
    clear ht
    go_enter Tryd.func19, Tryd.ntmps19
    go_wp2_with (first | (go_at_call 12; refine (may_any _ _).mono ?_; rintro e w' ⟨rfl, rfl⟩) | (go_at_call 33; refine (Mo.out (by trivial) _).mono ?_; rintro e w' ⟨rfl, rfl⟩) | (go_at_call 32; refine (D.out _).mono ?_; rintro e w' ⟨⟨u, rfl, hu⟩, rfl⟩; have Hu := hid hu; clear hu))
    go_ret2
    exact ⟨⟨u, rfl, Hu.out⟩, Hb.out⟩

/-- .. and where it does not. -/
theorem div_left (x y : Nat) (w : World) (h1 : Fl.may x = true) (h2 : Fl.may y = true) (M : Nat)
    (hz : (FloatKind.f64.format.order y 0 != some .eq) = true)
    (hM : ∀ W, Calls Tryd.prog 33 #[.float .f64 x, .float .f64 y] W fun e w' => e = .returned (.float .f64 M) ∧ W = w')
    (hm : (FloatKind.f64.format.order M 0 != some .eq) = true) (hsx : (FloatKind.f64.format.order x x == some .eq) = true) (hsy : (FloatKind.f64.format.order y y == some .eq) = true) :
    Calls Tryd.prog 19 #[.float .f64 x, .float .f64 y] w (Tells (10, some 0) w) := by
  have Mo := hid hM
  clear hM
  go_enter Tryd.func19, Tryd.ntmps19
  go_wp2_with (first | (go_at_call 12; refine (may_any _ _).mono ?_; rintro e w' ⟨rfl, rfl⟩) | (go_at_call 33; refine (Mo.out _).mono ?_; rintro e w' ⟨rfl, rfl⟩))
  go_ret2
  exact ⟨⟨0, rfl, Fl.is_0⟩, Below.refl _ _⟩

/-- The remainder's word is one and the same at each call. -/
theorem mod_word (x y : Nat) (a b : Int) (hx : Fl.Is x a) (hy : Fl.Is y b) (ha : a.natAbs < 2 ^ 53) (hb : b.natAbs < 2 ^ 53) (h0 : b ≠ 0) (w : World) (Q : Ending → World → Prop)
    (k : ∀ M, ModOk M a b → Q (.returned (.float .f64 M)) w) : Calls Tryd.prog 33 #[.float .f64 x, .float .f64 y] w Q := by
  refine (mod_is x y a b hx hy ha hb h0 w).mono ?_
  rintro e w' ⟨⟨M, rfl, hM⟩, rfl⟩
  exact k M hM

theorem div_whole (x y : Nat) (a b : Int) (hx : Fl.Is x a) (hy : Fl.Is y b) (ha : a.natAbs < 2 ^ 53) (hb : b.natAbs < 2 ^ 53) (h0 : b ≠ 0) (h1 : Fl.may x = true) (h2 : Fl.may y = true) (w : World) :
    Calls Tryd.prog 19 #[.float .f64 x, .float .f64 y] w (Tells (divF a b) w) := by
  have hz : (FloatKind.f64.format.order y 0 != some .eq) = true := by rw [ne0_is hy]; simpa using h0
  have hsx := self_not (is_nan hx)
  have hsy := self_not (is_nan hy)
  have Mo := hid (fun W Q => mod_word x y a b hx hy ha hb h0 W Q)
  by_cases hr : a.natAbs % b.natAbs = 0
  · obtain ⟨z, hq, hm⟩ := div_makes hx hy ha hb (fun h => h0 h.2) (fun _ => hr)
    have hrun := fun W t => run_float_arith (P := Tryd.prog) W .quo t .f64 x y z hq
    have D := hid (fun W => done_tells z _ hm W)
    have Hr := hid hr
    clear hr hx hy ha hb h0 hq hm
    generalize divF a b = R at *
    go_enter Tryd.func19, Tryd.ntmps19
    go_wp2_with (first | (go_at_call 12; refine (may_any _ _).mono ?_; rintro e w' ⟨rfl, rfl⟩) | (go_at_call 33; refine Mo.out _ _ ?_; intro M hM; have hM1 := ne0_mod hM; rw [Hr.out] at hM1; have hM2 : (FloatKind.f64.format.order M 0 != some .eq) = false := hM1; clear hM1 hM) | (go_at_call 32; refine (D.out _).mono ?_; rintro e w' ⟨⟨u, rfl, hu⟩, rfl⟩; have Hu := hid hu; clear hu))
    go_ret2
    exact ⟨⟨u, rfl, Hu.out⟩, Below.refl _ _⟩
  · have hd : divF a b = (10, some 0) := by
      unfold divF
      rw [if_neg (fun h => h0 h.2), if_pos (Or.inr (Or.inr (fun h => hr ((tmod_zero a b).1 h))))]
    rw [hd]
    have Hr := hid (decide_eq_false hr)
    clear hr hx hy ha hb h0 hd
    go_enter Tryd.func19, Tryd.ntmps19
    go_wp2_with (first | (go_at_call 12; refine (may_any _ _).mono ?_; rintro e w' ⟨rfl, rfl⟩) | (go_at_call 33; refine Mo.out _ _ ?_; intro M hM; have hM1 := ne0_mod hM; rw [Hr.out] at hM1; have hM2 : (FloatKind.f64.format.order M 0 != some .eq) = true := hM1; clear hM1 hM))
    go_ret2
    exact ⟨⟨0, rfl, Fl.is_0⟩, Below.refl _ _⟩

theorem div_any (x y : Nat) (w : World) : Calls Tryd.prog 19 #[.float .f64 x, .float .f64 y] w (Tells (opR divF x y) w) := by
  cases h1 : Fl.may x
  · have e : opR divF x y = (2, some 0) := if_pos (Or.inl h1)
    rw [e]; exact div_not x y w (Or.inl h1)
  cases h2 : Fl.may y
  · have e : opR divF x y = (2, some 0) := if_pos (Or.inr h2)
    rw [e]; exact div_not x y w (Or.inr ⟨h1, h2⟩)
  by_cases hn : Fl.isNaN x = true ∨ Fl.isNaN y = true
  · have e : opR divF x y = (0, none) := by unfold opR; rw [if_neg (by simp [h1, h2]), if_pos hn]
    rw [e]
    obtain ⟨r, hr, hrun⟩ := run_float_nan (P := Tryd.prog) .quo 22 x y (by simp) (nan_none hn).2.2.2 w
    have hs : ((FloatKind.f64.format.order x x == some .eq) && (FloatKind.f64.format.order y y == some .eq)) = false := by
      rcases hn with hn | hn
      · rw [self_nan hn]; rfl
      · rw [self_nan hn, Bool.and_false]
    refine div_quo x y r w _ (0, none) h1 h2 _ _ (FloatKind.f64.format.order 9221120237041090561 0 != some .eq) _ _ 9221120237041090561 rfl ?_ rfl rfl rfl rfl ?_ hrun (Below.refl _ _).drew (makes_nan hr)
    · intro hz W
      have z0 : (FloatKind.f64.format.order y 0 == some .eq) = false := by
        rw [bne] at hz; simpa using hz
      rcases may_cases h1 with h | ⟨hnx, hx, hxb⟩
      · exact mod_nan x y z0 (nan_gt h) (Or.inl h) W
      · exact mod_nan x y z0 (not_inf hx (by omega)) (Or.inr ⟨hnx, by rcases hn with hn | hn <;> simp_all⟩) W
    · rw [Bool.and_assoc, hs, Bool.and_false]
  · have hnx : Fl.isNaN x = false := by cases h : Fl.isNaN x <;> simp_all
    have hny : Fl.isNaN y = false := by cases h : Fl.isNaN y <;> simp_all
    rcases may_cases h1 with h | ⟨_, hx, hxb⟩
    · rw [h] at hnx; cases hnx
    rcases may_cases h2 with h | ⟨_, hy, hyb⟩
    · rw [h] at hny; cases hny
    have e : opR divF x y = divF (Fl.toW x) (Fl.toW y) := by unfold opR; rw [if_neg (by simp [h1, h2]), if_neg hn]
    rw [e]
    generalize Fl.toW x = a at *
    generalize Fl.toW y = b at *
    by_cases h0 : b = 0
    · have hz : (FloatKind.f64.format.order y 0 != some .eq) = false := by rw [ne0_is hy, h0]; rfl
      by_cases ha0 : a = 0
      · have e2 : divF a b = (0, none) := by unfold divF; rw [if_pos ⟨ha0, h0⟩]
        rw [e2]
        obtain ⟨r, hr, hrun⟩ := run_float_nan (P := Tryd.prog) .quo 22 x y (by simp) (Fl.div_none (by rw [ha0] at hx; exact hx) (by rw [h0] at hy; exact hy)) w
        exact div_quo x y r w _ (0, none) h1 h2 _ _ _ _ _ 0 hz (fun h => by cases h) rfl rfl rfl rfl (by simp) hrun (Below.refl _ _).drew (makes_nan hr)
      · obtain ⟨z, hq, hm⟩ := div_makes hx hy (by omega) (by omega) (fun h => ha0 h.1) (fun h => absurd h0 h)
        exact div_quo x y z w _ _ h1 h2 _ _ _ _ _ 0 hz (fun h => by cases h) rfl rfl rfl rfl (by simp) (run_float_arith (P := Tryd.prog) w .quo _ .f64 x y z hq) (Below.refl _ _) hm
    · exact div_whole x y a b hx hy (by omega) (by omega) h0 h1 h2 w

theorem rem_any (x y : Nat) (w : World) : Calls Tryd.prog 20 #[.float .f64 x, .float .f64 y] w (Tells (opR remF x y) w) := by
  cases h1 : Fl.may x
  · have e : opR remF x y = (2, some 0) := if_pos (Or.inl h1)
    rw [e]; exact rem_not x y w (Or.inl h1)
  cases h2 : Fl.may y
  · have e : opR remF x y = (2, some 0) := if_pos (Or.inr h2)
    rw [e]; exact rem_not x y w (Or.inr ⟨h1, h2⟩)
  cases z0 : (FloatKind.f64.format.order y 0 == some .eq)
  · by_cases hn : Fl.isNaN x = true ∨ Fl.isNaN y = true
    · have e : opR remF x y = (0, none) := by unfold opR; rw [if_neg (by simp [h1, h2]), if_pos hn]
      rw [e]
      have Mo : Hid (∀ W, Calls Tryd.prog 33 #[.float .f64 x, .float .f64 y] W fun e w' => e = .returned (.float .f64 9221120237041090561) ∧ W = w') := by
        refine hid fun W => ?_
        rcases may_cases h1 with h | ⟨hnx, hx, hxb⟩
        · exact mod_nan x y z0 (nan_gt h) (Or.inl h) W
        · exact mod_nan x y z0 (not_inf hx (by omega)) (Or.inr ⟨hnx, by rcases hn with hn | hn <;> simp_all⟩) W
      have D := hid (fun W => done_tells 9221120237041090561 _ (makes_nan nan_word) W)
      clear hn e
      go_enter Tryd.func20, Tryd.ntmps20
      go_wp2_with (first | (go_at_call 12; refine (may_any _ _).mono ?_; rintro e w' ⟨rfl, rfl⟩) | (go_at_call 33; refine (Mo.out _).mono ?_; rintro e w' ⟨rfl, rfl⟩) | (go_at_call 32; refine (D.out _).mono ?_; rintro e w' ⟨⟨u, rfl, hu⟩, rfl⟩; have Hu := hid hu; clear hu))
      go_ret2
      exact ⟨⟨u, rfl, Hu.out⟩, Below.refl _ _⟩
    · have hnx : Fl.isNaN x = false := by cases h : Fl.isNaN x <;> simp_all
      have hny : Fl.isNaN y = false := by cases h : Fl.isNaN y <;> simp_all
      rcases may_cases h1 with h | ⟨_, hx, hxb⟩
      · rw [h] at hnx; cases hnx
      rcases may_cases h2 with h | ⟨_, hy, hyb⟩
      · rw [h] at hny; cases hny
      have e : opR remF x y = remF (Fl.toW x) (Fl.toW y) := by unfold opR; rw [if_neg (by simp [h1, h2]), if_neg hn]
      rw [e]
      generalize Fl.toW x = a at *
      generalize Fl.toW y = b at *
      have h0 : b ≠ 0 := by rw [eq0_is hy] at z0; simpa using z0
      have Mo := hid (fun W Q => mod_word x y a b hx hy (by omega) (by omega) h0 W Q)
      have Mk := hid (fun z (h : ModOk z a b) => rem_makes h (by omega) h0)
      clear hx hy hn hnx hny h0 hxb hyb e
      generalize remF a b = R at *
      go_enter Tryd.func20, Tryd.ntmps20
      go_wp2_with (first | (go_at_call 12; refine (may_any _ _).mono ?_; rintro e w' ⟨rfl, rfl⟩) | (go_at_call 33; refine Mo.out _ _ ?_; intro M hM; have HM := hid (Mk.out M hM); clear hM) | (go_at_call 32; refine (done_tells _ _ HM.out _).mono ?_; rintro e w' ⟨⟨u, rfl, hu⟩, rfl⟩; have Hu := hid hu; clear hu))
      go_ret2
      exact ⟨⟨u, rfl, Hu.out⟩, Below.refl _ _⟩
  · have e : opR remF x y = (0, none) := by
      unfold opR
      rw [if_neg (by simp [h1, h2])]
      by_cases hn : Fl.isNaN x = true ∨ Fl.isNaN y = true
      · rw [if_pos hn]
      · rw [if_neg hn]
        have hny : Fl.isNaN y = false := by cases h : Fl.isNaN y <;> simp_all
        rcases may_cases h2 with h | ⟨_, hy, hyb⟩
        · rw [h] at hny; cases hny
        rw [eq0_is hy] at z0
        unfold remF; rw [if_pos (by simpa using z0)]
    rw [e]
    clear e
    go_enter Tryd.func20, Tryd.ntmps20
    go_wp2_with (first | (go_at_call 12; refine (may_any _ _).mono ?_; rintro e w' ⟨rfl, rfl⟩) | (go_at_call 22; refine (mnan_any _).mono ?_; rintro e w' ⟨rfl, rfl⟩))
    go_ret2
    exact ⟨⟨9221120237041090561, rfl, nan_word⟩, Below.refl _ _⟩

end Go.Proofs.YthdgehdbanhliaaDoor
