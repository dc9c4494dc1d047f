/-
  The walks of the reference's Add, Sub, Mul, Div, Rem, Neg.
-/
import Derived.Test.YthdgehdbanhliaaDivWalk
import Derived.Test.YthdgehdbanhliaaBitsWalk
import Derived.Outline
namespace Go.Proofs.Ythdgehdbanhliaa
open Go.RowKit

theorem results_tmp4 {fn : Func} {t u v x : Tmp} (h : fn.results = #[.tmp t, .tmp u, .tmp v, .tmp x]) (tmps : Array Value) (P : Program) (w : World) :
    (results fn tmps).run P w = .ok (.tuple #[tmps.getD t undef, tmps.getD u undef, tmps.getD v undef, tmps.getD x undef]) w := by simp [results, h]

theorem refNaN_any (w : World) : Calls Try.prog 42 #[] w fun e w' => (∃ r, e = .returned (.float .f64 r) ∧ Fl.isNaN r = true) ∧ w.drew = w' := by
  obtain ⟨r, hr, hrun⟩ := run_div_0_0 (P := Try.prog) 22 w
  have Hr := hid hr
  clear hr
  go_enter Try.func42, Try.ntmps42
  go_wp2
  go_ret
  exact ⟨⟨r, rfl, Hr.out⟩, rfl⟩

theorem refTold_any (n : Int) (w : World) : Calls Try.prog 43 #[.int .i64 n] w fun e w' => (∃ u, e = .returned (.tuple #[.float .f64 u, .int .i64 (finN n).1]) ∧ Stands u (finN n).2) ∧ w = w' := by
  by_cases h1 : 9007199254740991 < n
  · have e : finN n = (10, some 0) := by unfold finN; rw [if_neg (by omega)]
    rw [e]
    clear e
    go_enter Try.func43, Try.ntmps43
    go_wp2
    go_ret2
    exact ⟨⟨0, rfl, Fl.is_0⟩, rfl⟩
  by_cases h2 : n < -9007199254740991
  · have e : finN n = (10, some 0) := by unfold finN; rw [if_neg (by omega)]
    rw [e]
    clear e
    go_enter Try.func43, Try.ntmps43
    go_wp2
    go_ret2
    exact ⟨⟨0, rfl, Fl.is_0⟩, rfl⟩
  · have e : finN n = (0, some n) := by unfold finN; rw [if_pos (by omega)]
    rw [e]
    have hi := hid (Fl.is_nearest n (by omega) (by omega))
    clear e
    go_enter Try.func43, Try.ntmps43
    go_wp2
    go_ret2
    exact ⟨⟨_, rfl, hi.out⟩, rfl⟩

theorem two_not (x y : Nat) (w : World) (h : Fl.may x = false ∨ (Fl.may x = true ∧ Fl.may y = false)) : Calls Try.prog 41 #[.float .f64 x, .float .f64 y] w fun e w' => e = .returned (.tuple #[.int .i64 0, .int .i64 0, .bool false, .int .i64 2]) ∧ w = w' := by
  rcases h with h1 | ⟨h1, h2⟩
  · go_enter Try.func41, Try.ntmps41
    go_wp2_with (go_at_call 32; refine (refMay_any _ _).mono ?_; rintro e w' ⟨rfl, rfl⟩)
    refine bodyPost_ret (results_tmp4 rfl _ _ _) rfl ?_
    exact ⟨rfl, rfl⟩
  · go_enter Try.func41, Try.ntmps41
    go_wp2_with (go_at_call 32; refine (refMay_any _ _).mono ?_; rintro e w' ⟨rfl, rfl⟩)
    refine bodyPost_ret (results_tmp4 rfl _ _ _) rfl ?_
    exact ⟨rfl, rfl⟩

theorem two_any (x y : Nat) (w : World) (h1 : Fl.may x = true) (h2 : Fl.may y = true) : Calls Try.prog 41 #[.float .f64 x, .float .f64 y] w fun e w' => e = .returned (.tuple #[.int .i64 (Fl.wv x), .int .i64 (Fl.wv y), .bool (!Fl.isW x || !Fl.isW y), .int .i64 0]) ∧ w = w' := by
  cases h3 : Fl.isW x <;> cases h4 : Fl.isW y
  all_goals
    have H3 := hid h3
    have H4 := hid h4
    clear h3 h4
    go_enter Try.func41, Try.ntmps41
    go_wp2_with (first | (go_at_call 32; refine (refMay_any _ _).mono ?_; rintro e w' ⟨rfl, rfl⟩) | (go_at_call 33; refine (whole_any _ _).mono ?_; rintro e w' ⟨rfl, rfl⟩; first | rw [H3.out] | rw [H4.out]))
    refine bodyPost_ret (results_tmp4 rfl _ _ _) rfl ?_
    exact ⟨rfl, rfl⟩

theorem two_nan {x y : Nat} (h1 : Fl.may x = true) (h2 : Fl.may y = true) (hn : Fl.isNaN x = true ∨ Fl.isNaN y = true) (w : World) : Calls Try.prog 41 #[.float .f64 x, .float .f64 y] w fun e w' => (∃ a b, e = .returned (.tuple #[.int .i64 a, .int .i64 b, .bool true, .int .i64 0])) ∧ w = w' := by
  refine (two_any x y w h1 h2).mono ?_
  rintro e w' ⟨rfl, rfl⟩
  have h : (!Fl.isW x || !Fl.isW y) = true := by
    rcases hn with hn | hn
    · rw [Fl.not_isW_inf (nan_fin hn)]; rfl
    · rw [Fl.not_isW_inf (nan_fin hn)]; simp
  rw [h]
  exact ⟨⟨_, _, rfl⟩, rfl⟩

theorem isW_of {x : Nat} (h : Fl.may x = true) (hn : Fl.isNaN x = false) : Fl.isW x = true := by unfold Fl.may at h; rw [hn] at h; simpa using h

theorem two_is {x y : Nat} (h1 : Fl.may x = true) (h2 : Fl.may y = true) (hn : ¬ (Fl.isNaN x = true ∨ Fl.isNaN y = true)) (w : World) : Calls Try.prog 41 #[.float .f64 x, .float .f64 y] w fun e w' => e = .returned (.tuple #[.int .i64 (Fl.toW x), .int .i64 (Fl.toW y), .bool false, .int .i64 0]) ∧ w = w' := by
  refine (two_any x y w h1 h2).mono ?_
  rintro e w' ⟨rfl, rfl⟩
  have hx := isW_of h1 (by cases h : Fl.isNaN x <;> simp_all)
  have hy := isW_of h2 (by cases h : Fl.isNaN y <;> simp_all)
  have e1 : Fl.wv x = Fl.toW x := by unfold Fl.wv; rw [hx]; rfl
  have e2 : Fl.wv y = Fl.toW y := by unfold Fl.wv; rw [hy]; rfl
  rw [e1, e2, hx, hy]
  exact ⟨rfl, rfl⟩

theorem toW_bd {x : Nat} (h : Fl.may x = true) (hn : Fl.isNaN x = false) : -9007199254740991 ≤ Fl.toW x ∧ Fl.toW x ≤ 9007199254740991 := by
  rcases may_cases h with h | ⟨_, _, hb⟩
  · rw [h] at hn; cases hn
  · omega

theorem refAdd_not (x y : Nat) (w : World) (h : Fl.may x = false ∨ (Fl.may x = true ∧ Fl.may y = false)) : Calls Try.prog 26 #[.float .f64 x, .float .f64 y] w (Tells (2, some 0) w) := by
  have T := hid (fun W => two_not x y W h)
  clear h
  go_enter Try.func26, Try.ntmps26
  go_wp2_with (go_at_call 41; refine (T.out _).mono ?_; rintro e w' ⟨rfl, rfl⟩)
  go_ret2
  exact ⟨⟨0, rfl, Fl.is_0⟩, Below.refl _ _⟩

theorem refAdd_nan (x y : Nat) (w : World) (h1 : Fl.may x = true) (h2 : Fl.may y = true) (hn : Fl.isNaN x = true ∨ Fl.isNaN y = true) : Calls Try.prog 26 #[.float .f64 x, .float .f64 y] w (Tells (0, none) w) := by
  have T := hid (fun W => two_nan h1 h2 hn W)
  clear h1 h2 hn
  go_enter Try.func26, Try.ntmps26
  go_wp2_with (first | (go_at_call 41; refine (T.out _).mono ?_; rintro e w' ⟨⟨a, b, rfl⟩, rfl⟩) | (go_at_call 42; refine (refNaN_any _).mono ?_; rintro e w' ⟨⟨r, rfl, hr⟩, rfl⟩; have Hr := hid hr; clear hr))
  go_ret2
  exact ⟨⟨r, rfl, Hr.out⟩, (Below.refl _ _).drew⟩

theorem refAdd_is (x y : Nat) (a b : Int) (w : World) (a1 : -9007199254740991 ≤ a) (a2 : a ≤ 9007199254740991) (b1 : -9007199254740991 ≤ b) (b2 : b ≤ 9007199254740991) (T : Hid (∀ W, Calls Try.prog 41 #[.float .f64 x, .float .f64 y] W fun e w' => e = .returned (.tuple #[.int .i64 a, .int .i64 b, .bool false, .int .i64 0]) ∧ W = w')) : Calls Try.prog 26 #[.float .f64 x, .float .f64 y] w (Tells (addF a b) w) := by
  unfold addF
  go_enter Try.func26, Try.ntmps26
  go_wp2_with (first | (go_at_call 41; refine (T.out _).mono ?_; rintro e w' ⟨rfl, rfl⟩) | (go_at_call 43; refine (refTold_any _ _).mono ?_; rintro e w' ⟨⟨u, rfl, hu⟩, rfl⟩; have Hu := hid hu; clear hu))
  go_ret2
  exact ⟨⟨u, rfl, Hu.out⟩, Below.refl _ _⟩

theorem refAdd_any (x y : Nat) (w : World) : Calls Try.prog 26 #[.float .f64 x, .float .f64 y] w (Tells (opR addF x y) w) := by
  cases h1 : Fl.may x
  · have e : opR addF x y = (2, some 0) := if_pos (Or.inl h1)
    rw [e]; exact refAdd_not x y w (Or.inl h1)
  cases h2 : Fl.may y
  · have e : opR addF x y = (2, some 0) := if_pos (Or.inr h2)
    rw [e]; exact refAdd_not x y w (Or.inr ⟨h1, h2⟩)
  by_cases hn : Fl.isNaN x = true ∨ Fl.isNaN y = true
  · have e : opR addF x y = (0, none) := by unfold opR; rw [if_neg (by simp [h1, h2]), if_pos hn]
    rw [e]; exact refAdd_nan x y w h1 h2 hn
  · have e : opR addF x y = addF (Fl.toW x) (Fl.toW y) := by unfold opR; rw [if_neg (by simp [h1, h2]), if_neg hn]
    rw [e]
    have ba := toW_bd h1 (by cases h : Fl.isNaN x <;> simp_all)
    have bb := toW_bd h2 (by cases h : Fl.isNaN y <;> simp_all)
    have T := hid (fun W => two_is h1 h2 hn W)
    generalize Fl.toW x = a at *
    generalize Fl.toW y = b at *
    exact refAdd_is x y a b w ba.1 ba.2 bb.1 bb.2 T

theorem refSub_not (x y : Nat) (w : World) (h : Fl.may x = false ∨ (Fl.may x = true ∧ Fl.may y = false)) : Calls Try.prog 27 #[.float .f64 x, .float .f64 y] w (Tells (2, some 0) w) := by
  have T := hid (fun W => two_not x y W h)
  clear h
  go_enter Try.func27, Try.ntmps27
  go_wp2_with (go_at_call 41; refine (T.out _).mono ?_; rintro e w' ⟨rfl, rfl⟩)
  go_ret2
  exact ⟨⟨0, rfl, Fl.is_0⟩, Below.refl _ _⟩

theorem refSub_nan (x y : Nat) (w : World) (h1 : Fl.may x = true) (h2 : Fl.may y = true) (hn : Fl.isNaN x = true ∨ Fl.isNaN y = true) : Calls Try.prog 27 #[.float .f64 x, .float .f64 y] w (Tells (0, none) w) := by
  have T := hid (fun W => two_nan h1 h2 hn W)
  clear h1 h2 hn
  go_enter Try.func27, Try.ntmps27
  go_wp2_with (first | (go_at_call 41; refine (T.out _).mono ?_; rintro e w' ⟨⟨a, b, rfl⟩, rfl⟩) | (go_at_call 42; refine (refNaN_any _).mono ?_; rintro e w' ⟨⟨r, rfl, hr⟩, rfl⟩; have Hr := hid hr; clear hr))
  go_ret2
  exact ⟨⟨r, rfl, Hr.out⟩, (Below.refl _ _).drew⟩

theorem refSub_is (x y : Nat) (a b : Int) (w : World) (a1 : -9007199254740991 ≤ a) (a2 : a ≤ 9007199254740991) (b1 : -9007199254740991 ≤ b) (b2 : b ≤ 9007199254740991) (T : Hid (∀ W, Calls Try.prog 41 #[.float .f64 x, .float .f64 y] W fun e w' => e = .returned (.tuple #[.int .i64 a, .int .i64 b, .bool false, .int .i64 0]) ∧ W = w')) : Calls Try.prog 27 #[.float .f64 x, .float .f64 y] w (Tells (subF a b) w) := by
  unfold subF
  go_enter Try.func27, Try.ntmps27
  go_wp2_with (first | (go_at_call 41; refine (T.out _).mono ?_; rintro e w' ⟨rfl, rfl⟩) | (go_at_call 43; refine (refTold_any _ _).mono ?_; rintro e w' ⟨⟨u, rfl, hu⟩, rfl⟩; have Hu := hid hu; clear hu))
  go_ret2
  exact ⟨⟨u, rfl, Hu.out⟩, Below.refl _ _⟩

theorem refSub_any (x y : Nat) (w : World) : Calls Try.prog 27 #[.float .f64 x, .float .f64 y] w (Tells (opR subF x y) w) := by
  cases h1 : Fl.may x
  · have e : opR subF x y = (2, some 0) := if_pos (Or.inl h1)
    rw [e]; exact refSub_not x y w (Or.inl h1)
  cases h2 : Fl.may y
  · have e : opR subF x y = (2, some 0) := if_pos (Or.inr h2)
    rw [e]; exact refSub_not x y w (Or.inr ⟨h1, h2⟩)
  by_cases hn : Fl.isNaN x = true ∨ Fl.isNaN y = true
  · have e : opR subF x y = (0, none) := by unfold opR; rw [if_neg (by simp [h1, h2]), if_pos hn]
    rw [e]; exact refSub_nan x y w h1 h2 hn
  · have e : opR subF x y = subF (Fl.toW x) (Fl.toW y) := by unfold opR; rw [if_neg (by simp [h1, h2]), if_neg hn]
    rw [e]
    have ba := toW_bd h1 (by cases h : Fl.isNaN x <;> simp_all)
    have bb := toW_bd h2 (by cases h : Fl.isNaN y <;> simp_all)
    have T := hid (fun W => two_is h1 h2 hn W)
    generalize Fl.toW x = a at *
    generalize Fl.toW y = b at *
    exact refSub_is x y a b w ba.1 ba.2 bb.1 bb.2 T

theorem refSize_any (n : Int) (w : World) (h1 : -9007199254740991 ≤ n) (h2 : n ≤ 9007199254740991) : Calls Try.prog 44 #[.int .i64 n] w fun e w' => e = .returned (.int .i64 (n.natAbs : Int)) ∧ w = w' := by
  by_cases h : n < 0
  · have e : (n.natAbs : Int) = -n := by omega
    rw [e]
    clear e
    go_enter Try.func44, Try.ntmps44
    go_wp2
    go_ret
    exact ⟨rfl, rfl⟩
  · have e : (n.natAbs : Int) = n := by omega
    rw [e]
    clear e
    go_enter Try.func44, Try.ntmps44
    go_wp2
    go_ret
    exact ⟨rfl, rfl⟩

theorem refMul_not (x y : Nat) (w : World) (h : Fl.may x = false ∨ (Fl.may x = true ∧ Fl.may y = false)) : Calls Try.prog 28 #[.float .f64 x, .float .f64 y] w (Tells (2, some 0) w) := by
  have T := hid (fun W => two_not x y W h)
  clear h
  go_enter Try.func28, Try.ntmps28
  go_wp2_with (go_at_call 41; refine (T.out _).mono ?_; rintro e w' ⟨rfl, rfl⟩)
  go_ret2
  exact ⟨⟨0, rfl, Fl.is_0⟩, Below.refl _ _⟩

theorem refMul_nan (x y : Nat) (w : World) (h1 : Fl.may x = true) (h2 : Fl.may y = true) (hn : Fl.isNaN x = true ∨ Fl.isNaN y = true) : Calls Try.prog 28 #[.float .f64 x, .float .f64 y] w (Tells (0, none) w) := by
  have T := hid (fun W => two_nan h1 h2 hn W)
  clear h1 h2 hn
  go_enter Try.func28, Try.ntmps28
  go_wp2_with (first | (go_at_call 41; refine (T.out _).mono ?_; rintro e w' ⟨⟨a, b, rfl⟩, rfl⟩) | (go_at_call 42; refine (refNaN_any _).mono ?_; rintro e w' ⟨⟨r, rfl, hr⟩, rfl⟩; have Hr := hid hr; clear hr))
  go_ret2
  exact ⟨⟨r, rfl, Hr.out⟩, (Below.refl _ _).drew⟩

theorem refMul_is (x y : Nat) (a b : Int) (w : World) (a1 : -9007199254740991 ≤ a) (a2 : a ≤ 9007199254740991) (b1 : -9007199254740991 ≤ b) (b2 : b ≤ 9007199254740991) (T : Hid (∀ W, Calls Try.prog 41 #[.float .f64 x, .float .f64 y] W fun e w' => e = .returned (.tuple #[.int .i64 a, .int .i64 b, .bool false, .int .i64 0]) ∧ W = w')) : Calls Try.prog 28 #[.float .f64 x, .float .f64 y] w (Tells (mulF a b) w) := by
  unfold mulF
  by_cases h0 : a = 0 ∨ b = 0
  · rw [if_pos h0]
    rcases h0 with rfl | rfl
    · by_cases hb : b < 0
      · rw [if_pos (Or.inr hb)]
        go_enter Try.func28, Try.ntmps28
        go_wp2_with (go_at_call 41; refine (T.out _).mono ?_; rintro e w' ⟨rfl, rfl⟩)
        go_ret2
        exact ⟨⟨0, rfl, Fl.is_0⟩, Below.refl _ _⟩
      · rw [if_neg (by omega)]
        go_enter Try.func28, Try.ntmps28
        go_wp2_with (go_at_call 41; refine (T.out _).mono ?_; rintro e w' ⟨rfl, rfl⟩)
        go_ret2
        exact ⟨⟨0, rfl, Fl.is_0⟩, Below.refl _ _⟩
    · by_cases ha : a = 0
      · subst ha
        rw [if_neg (by omega)]
        go_enter Try.func28, Try.ntmps28
        go_wp2_with (go_at_call 41; refine (T.out _).mono ?_; rintro e w' ⟨rfl, rfl⟩)
        go_ret2
        exact ⟨⟨0, rfl, Fl.is_0⟩, Below.refl _ _⟩
      have ha' : (a == 0) = false := by simpa using ha
      by_cases hb : a < 0
      · rw [if_pos (Or.inl hb)]
        clear ha
        go_enter Try.func28, Try.ntmps28
        go_wp2_with (go_at_call 41; refine (T.out _).mono ?_; rintro e w' ⟨rfl, rfl⟩)
        go_ret2
        exact ⟨⟨0, rfl, Fl.is_0⟩, Below.refl _ _⟩
      · rw [if_neg (by omega)]
        clear ha
        go_enter Try.func28, Try.ntmps28
        go_wp2_with (go_at_call 41; refine (T.out _).mono ?_; rintro e w' ⟨rfl, rfl⟩)
        go_ret2
        exact ⟨⟨0, rfl, Fl.is_0⟩, Below.refl _ _⟩
  · rw [if_neg h0]
    have ha' : (a == 0) = false := by rw [beq_eq_false_iff_ne]; omega
    have hb' : (b == 0) = false := by rw [beq_eq_false_iff_ne]; omega
    obtain ⟨A, hA⟩ : ∃ A : Nat, A = a.natAbs := ⟨_, rfl⟩
    obtain ⟨B, hB⟩ : ∃ B : Nat, B = b.natAbs := ⟨_, rfl⟩
    have A1 : 0 < A := by omega
    have B1 : 0 < B := by omega
    have B2 : (((B : Nat) : Int) == 0) = false := by rw [beq_eq_false_iff_ne]; omega
    have hAB : (a * b).natAbs = A * B := by rw [hA, hB]; exact Int.natAbs_mul a b
    have hdiv : (9007199254740991 / ((B : Nat) : Int) < ((A : Nat) : Int)) ↔ 9007199254740991 < A * B := by
      rw [show (9007199254740991 : Int) / ((B : Nat) : Int) = ((9007199254740991 / B : Nat) : Int) from rfl, Int.ofNat_lt, Nat.div_lt_iff_lt_mul B1]
    have HA := hid hA.symm
    have HB := hid hB.symm
    by_cases hg : 9007199254740991 / ((B : Nat) : Int) < ((A : Nat) : Int)
    · have e : finN (a * b) = (10, some 0) := by unfold finN; rw [if_neg (by rw [hAB]; have := hdiv.1 hg; omega)]
      rw [e]
      clear e h0 hA hB hAB hdiv
      go_enter Try.func28, Try.ntmps28
      go_wp2_with (first | (go_at_call 41; refine (T.out _).mono ?_; rintro e w' ⟨rfl, rfl⟩) | (go_at_call 44; refine (refSize_any _ _ (by assumption) (by assumption)).mono ?_; rintro e w' ⟨rfl, rfl⟩; first | rw [HA.out] | rw [HB.out]))
      go_ret2
      exact ⟨⟨0, rfl, Fl.is_0⟩, Below.refl _ _⟩
    · have hle : A * B ≤ 9007199254740991 := by
        rcases Nat.lt_or_ge 9007199254740991 (A * B) with h | h
        · exact absurd (hdiv.2 h) hg
        · exact h
      have p1 : -9007199254740991 ≤ a * b := by omega
      have p2 : a * b ≤ 9007199254740991 := by omega
      clear h0 hA hB hAB hdiv hle
      go_enter Try.func28, Try.ntmps28
      go_wp2_with (first | (go_at_call 41; refine (T.out _).mono ?_; rintro e w' ⟨rfl, rfl⟩) | (go_at_call 44; refine (refSize_any _ _ (by assumption) (by assumption)).mono ?_; rintro e w' ⟨rfl, rfl⟩; first | rw [HA.out] | rw [HB.out]) | (go_at_call 43; refine (refTold_any _ _).mono ?_; rintro e w' ⟨⟨u, rfl, hu⟩, rfl⟩; have Hu := hid hu; clear hu))
      go_ret2
      exact ⟨⟨u, rfl, Hu.out⟩, Below.refl _ _⟩

theorem refMul_any (x y : Nat) (w : World) : Calls Try.prog 28 #[.float .f64 x, .float .f64 y] w (Tells (opR mulF x y) w) := by
  cases h1 : Fl.may x
  · have e : opR mulF x y = (2, some 0) := if_pos (Or.inl h1)
    rw [e]; exact refMul_not x y w (Or.inl h1)
  cases h2 : Fl.may y
  · have e : opR mulF x y = (2, some 0) := if_pos (Or.inr h2)
    rw [e]; exact refMul_not x y w (Or.inr ⟨h1, h2⟩)
  by_cases hn : Fl.isNaN x = true ∨ Fl.isNaN y = true
  · have e : opR mulF x y = (0, none) := by unfold opR; rw [if_neg (by simp [h1, h2]), if_pos hn]
    rw [e]; exact refMul_nan x y w h1 h2 hn
  · have e : opR mulF x y = mulF (Fl.toW x) (Fl.toW y) := by unfold opR; rw [if_neg (by simp [h1, h2]), if_neg hn]
    rw [e]
    have ba := toW_bd h1 (by cases h : Fl.isNaN x <;> simp_all)
    have bb := toW_bd h2 (by cases h : Fl.isNaN y <;> simp_all)
    have T := hid (fun W => two_is h1 h2 hn W)
    generalize Fl.toW x = a at *
    generalize Fl.toW y = b at *
    exact refMul_is x y a b w ba.1 ba.2 bb.1 bb.2 T

end Go.Proofs.Ythdgehdbanhliaa
