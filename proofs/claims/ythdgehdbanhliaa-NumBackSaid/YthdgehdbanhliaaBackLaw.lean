/-
  NumBack, walked.
-/
import Derived.Test.YthdgehdbanhliaaBackWalk
namespace Go.Proofs.Ythdgehdbanhliaa
open Go.RowKit

theorem mulF_back {a b : Int} (ha : a.natAbs ≤ 9007199254740991) (hb : b ≠ 0) (hok : (mulF a b).1 = 0) (hc : a ≠ 0 ∨ 0 < b) : mulF a b = (0, some (a * b)) ∧ (a * b).natAbs ≤ 9007199254740991 ∧ divF (a * b) b = (0, some a) := by
  by_cases h0 : a = 0
  · subst h0
    have hb' : ¬ b < 0 := by omega
    refine ⟨?_, by rw [Int.zero_mul]; decide, ?_⟩
    · unfold mulF; rw [if_pos (Or.inl rfl), if_neg (by omega), Int.zero_mul]
    · unfold divF; rw [Int.zero_mul, if_neg (by omega), if_neg (by rw [Int.zero_tmod]; omega), Int.zero_tdiv]; exact finN_ok (by decide)
  · have hm : mulF a b = finN (a * b) := by unfold mulF; rw [if_neg (by omega)]
    have hle : (a * b).natAbs ≤ 9007199254740991 := by
      rcases Nat.lt_or_ge 9007199254740991 (a * b).natAbs with h | h
      · rw [hm, finN_no (by omega)] at hok; cases hok
      · exact h
    refine ⟨by rw [hm]; exact finN_ok hle, hle, ?_⟩
    have hab : a * b ≠ 0 := Int.mul_ne_zero h0 hb
    unfold divF
    rw [if_neg (fun h => hab h.1), if_neg (by rw [Int.mul_tmod_left]; omega), Int.mul_tdiv_cancel _ hb]
    exact finN_ok ha

theorem divF_back {a b : Int} (ha : a.natAbs ≤ 9007199254740991) (hb : b ≠ 0) (hok : (divF a b).1 = 0) : divF a b = (0, some (a.tdiv b)) ∧ (a.tdiv b).natAbs ≤ 9007199254740991 ∧ mulF (a.tdiv b) b = (0, some a) := by
  have hle := Int.natAbs_tdiv_le_natAbs a b
  have hn : ¬ (a = 0 ∧ b = 0) := fun h => hb h.2
  by_cases h1 : b = 0 ∨ (a = 0 ∧ b < 0) ∨ a.tmod b ≠ 0
  · unfold divF at hok; rw [if_neg hn, if_pos h1] at hok; cases hok
  · have hd : divF a b = finN (a.tdiv b) := by unfold divF; rw [if_neg hn, if_neg h1]
    refine ⟨by rw [hd]; exact finN_ok (by omega), by omega, ?_⟩
    have hm : a.tmod b = 0 := by omega
    have hq : a.tdiv b * b = a := by
      have := Int.tmod_add_mul_tdiv a b
      rw [hm, Int.zero_add, Int.mul_comm] at this
      exact this
    by_cases h2 : a = 0
    · subst h2
      unfold mulF
      rw [Int.zero_tdiv, if_pos (Or.inl rfl), if_neg (by omega)]
    · have h3 : a.tdiv b ≠ 0 := by intro h; rw [h, Int.zero_mul] at hq; omega
      unfold mulF
      rw [if_neg (by omega), hq]
      exact finN_ok ha

/-- The remainder, and what is left without it. -/
theorem remF_back {a b : Int} (ha : a.natAbs ≤ 9007199254740991) (hb : b ≠ 0) (hb2 : b.natAbs ≤ 9007199254740991) (hok : (remF a b).1 = 0) :
    remF a b = (0, some (a.tmod b)) ∧ (a.tmod b).natAbs < b.natAbs ∧ subF a (a.tmod b) = (0, some (a - a.tmod b)) ∧ (a - a.tmod b).natAbs ≤ 9007199254740991 ∧
      (a - a.tmod b ≠ 0 → divF (a - a.tmod b) b = (0, some (a.tdiv b))) ∧ (a.tmod b = 0 ∨ decide (0 < a.tmod b) = decide (0 < a)) := by
  have ht := tmod_abs a b
  have hlt : a.natAbs % b.natAbs < b.natAbs := Nat.mod_lt _ (by omega)
  have hle : a.natAbs % b.natAbs ≤ a.natAbs := Nat.mod_le _ _
  have hd := Int.natAbs_tdiv_le_natAbs a b
  have hsum := Int.tmod_add_mul_tdiv a b
  generalize a.natAbs % b.natAbs = m at *
  by_cases h1 : a < 0 ∧ a.tmod b = 0
  · unfold remF at hok; rw [if_neg hb, if_pos h1] at hok; cases hok
  · have hr : remF a b = finN (a.tmod b) := by unfold remF; rw [if_neg hb, if_neg h1]
    have habs : (a.tmod b).natAbs < b.natAbs := by split at ht <;> omega
    have hsub : (a - a.tmod b).natAbs ≤ 9007199254740991 := by split at ht <;> omega
    refine ⟨by rw [hr]; exact finN_ok (by omega), habs, finN_ok hsub, hsub, ?_, ?_⟩
    · intro h0
      have e : a - a.tmod b = a.tdiv b * b := by rw [Int.mul_comm]; omega
      unfold divF
      rw [if_neg (fun h => h0 h.1), e, if_neg (by rw [Int.mul_tmod_left]; intro h; rcases h with h | h | h; exact hb h; exact h0 (by rw [e]; exact h.1); exact h rfl), Int.mul_tdiv_cancel _ hb]
      exact finN_ok (by omega)
    · by_cases hm0 : a.tmod b = 0
      · exact Or.inl hm0
      · right
        rw [decide_eq_decide]
        split at ht <;> omega

theorem isF {x y : Nat} {a b : Int} {F : Int → Int → Int × Option Int} {r : Int × Option Int} {f : FuncId} (h : F a b = r) (k : ∀ W, Calls Try.prog f #[.float .f64 x, .float .f64 y] W (Tells (F a b) W)) : Hid (∀ W, Calls Try.prog f #[.float .f64 x, .float .f64 y] W (Tells r W)) := by
  rw [h] at k; exact hid k

set_option maxRecDepth 100000 in
set_option maxHeartbeats 2000000 in
theorem back_is {x y : Nat} {a b : Int} (hx : Fl.Is x a) (hy : Fl.Is y b) (ha : a.natAbs ≤ 9007199254740991) (hb : b.natAbs ≤ 9007199254740991) (w : World) :
    Calls Try.prog 5 #[.float .f64 x, .float .f64 y] w fun e w' => e = .returned (.bool true) ∧ Below w.heap.size w w' := by
  have M1 := may_is hx ha
  have M2 := may_is hy hb
  have N1 := is_nan hx
  have N2 := is_nan hy
  have PA := hid (fun W => add_is hx hy ha hb W)
  have PM := hid (fun W => mul_is hx hy ha hb W)
  have PD := hid (fun W => div_is hx hy ha hb W)
  have PR := hid (fun W => rem_is hx hy ha hb W)
  have HX := hid hx
  have HY := hid hy
  have HA := hid ha
  have HB := hid hb
  clear hx hy ha hb
  go_enter Try.func5, Try.ntmps5
  go_upto_if 47 with (first | (go_at_call 16; refine (aliveLaw_any _).mono ?_; rintro e w1 ⟨rfl, hb1⟩; have C1 := hid hb1; clear hb1) | (go_at_call 17; refine (may_any _ _).mono ?_; rintro e w' ⟨rfl, rfl⟩) | (go_at_call 18; refine (noneLaw_any _ _).mono ?_; rintro e w' ⟨rfl, rfl⟩) | (go_at_call 19; refine (PA.out _).mono ?_; rintro e w2 ⟨⟨s, rfl, hs⟩, hb2⟩; have Hs := hid hs; have C2 := hid hb2; clear hs hb2))
  go_cut [5] from 6 to 186 (fun s5 wx => s5 = .bool true ∧ Below w.heap.size w wx)
  case first => as_aux_lemma =>
    by_cases h : (addF a b).1 = 0
    · have e1 : addF a b = (0, some (a + b)) ∧ (a + b).natAbs ≤ 9007199254740991 := by
        by_cases hc : (a + b).natAbs ≤ 9007199254740991
        · exact ⟨finN_ok hc, hc⟩
        · exfalso; unfold addF at h; rw [finN_no hc] at h; cases h
      have hs : Fl.Is s (a + b) := by have := Hs.out; rw [e1.1] at this; exact this
      have e3 : subF (a + b) b = (0, some a) := by unfold subF; rw [Int.add_sub_cancel]; exact finN_ok HA.out
      have PS := isF e3 (fun W => sub_is hs HY.out e1.2 HB.out W)
      have e2 : ((addF a b).1 == 0) = true := by rw [h]; rfl
      clear h e1 e3 hs
      go_wp2_with (first | (go_at_call 20; refine (PS.out _).mono ?_; rintro e w3 ⟨⟨v, rfl, hs⟩, hb2⟩; have n1 : (FloatKind.f64.format.order v x != some .eq) = false := by { rw [ne_is hs HX.out]; simp }; have C3 := hid hb2; clear hs hb2))
      go_meet
      case rel => exact ⟨rfl, grow (grow C1.out C2.out) C3.out⟩
    · have e2 : ((addF a b).1 == 0) = false := by simpa using h
      clear h
      go_wp2_with fail
      go_meet
      case rel => exact ⟨rfl, grow C1.out C2.out⟩
  case rest =>
    obtain ⟨rfl, hw⟩ := hcut
    have HW := hid hw
    clear hw C1 C2 Hs s
    have q1 : ((mulF a b).1 == 0) = decide ((mulF a b).1 = 0) := by rw [Bool.eq_iff_iff]; simp
    have q2 := ne0_is HY.out
    have q3 := ne0_is HX.out
    have q4 := gt0_is HY.out
    have q5 : ((divF a b).1 == 0) = decide ((divF a b).1 = 0) := by rw [Bool.eq_iff_iff]; simp
    obtain ⟨p, hp⟩ : ∃ p, p = decide ((mulF a b).1 = 0) := ⟨_, rfl⟩
    obtain ⟨q, hq⟩ : ∃ q, q = !decide (b = 0) := ⟨_, rfl⟩
    obtain ⟨r, hr⟩ : ∃ r, r = !decide (a = 0) := ⟨_, rfl⟩
    obtain ⟨s, hs⟩ : ∃ s, s = decide (0 < b) := ⟨_, rfl⟩
    obtain ⟨g, hg⟩ : ∃ g, g = decide ((divF a b).1 = 0) := ⟨_, rfl⟩
    rw [← hp] at q1; rw [← hq] at q2; rw [← hr] at q3; rw [← hs] at q4; rw [← hg] at q5
    have Hp := hid hp; have Hq := hid hq; have Hr := hid hr; have Hs := hid hs; have Hg := hid hg
    have Q1 := hid q1; have Q2 := hid q2; have Q3 := hid q3; have Q4 := hid q4; have Q5 := hid q5
    clear hp hq hr hs hg q1 q2 q3 q4 q5
    go_upto_region 10 with (first | (go_at_call 21; refine (PM.out _).mono ?_; rintro e w2 ⟨⟨m, rfl, hs⟩, hb2⟩; have Hm := hid hs; have C2 := hid hb2; clear hs hb2))
    go_cut [80] from 67 to 186 (fun s80 wx => (∃ c, s80 = .bool c ∧ c = (p && q && (r || s))) ∧ Below w.heap.size w wx)
    case first => as_aux_lemma =>
      have q1 := Q1.out
      have q2 := Q2.out
      have q3 := Q3.out
      have q4 := Q4.out
      clear Hp Hq Hr Hs Hg Q1 Q2 Q3 Q4 Q5
      cases p <;> cases q <;> cases r <;> cases s
      all_goals
        go_wp2_with fail
        go_meet
        case rel => exact ⟨⟨_, rfl, rfl⟩, grow HW.out C2.out⟩
    case rest =>
      obtain ⟨⟨c, rfl, hc⟩, hw⟩ := hcut
      have HW1 := hid hw
      have Hc := hid hc
      clear hw hc HW C2
      go_upto_if 80 with fail
      go_cut [5] from 6 to 186 (fun s5 wx => s5 = .bool true ∧ Below w.heap.size w wx)
      case first => as_aux_lemma =>
        cases c
        · go_wp2_with fail
          go_meet
          case rel => exact ⟨rfl, HW1.out⟩
        · have hh : (mulF a b).1 = 0 ∧ b ≠ 0 ∧ (a ≠ 0 ∨ 0 < b) := by
            have h := Hc.out
            rw [Hp.out, Hq.out, Hr.out, Hs.out] at h
            simpa [and_assoc] using h.symm
          obtain ⟨e1, e2, e3⟩ := mulF_back HA.out hh.2.1 hh.1 hh.2.2
          have hm : Fl.Is m (a * b) := by have := Hm.out; rw [e1] at this; exact this
          have PS := isF e3 (fun W => div_is hm HY.out e2 HB.out W)
          have Z : ((mulF a b).1 == 0) = true := by rw [hh.1]; rfl
          clear hh e1 e2 e3 hm
          go_wp2_with (first | (go_at_call 22; refine (PS.out _).mono ?_; rintro e w3 ⟨⟨v, rfl, hs⟩, hb2⟩; have n1 : (FloatKind.f64.format.order v x != some .eq) = false := by { rw [ne_is hs HX.out]; simp }; have C3 := hid hb2; clear hs hb2))
          go_meet
          case rel => exact ⟨rfl, grow HW1.out C3.out⟩
      case rest =>
        obtain ⟨rfl, hw⟩ := hcut
        have HW := hid hw
        clear hw HW1 Hc c Hm m
        go_upto_region 15 with (first | (go_at_call 22; refine (PD.out _).mono ?_; rintro e w2 ⟨⟨d, rfl, hs⟩, hb2⟩; have Hd := hid hs; have C2 := hid hb2; clear hs hb2))
        go_cut [110] from 100 to 186 (fun s110 wx => (∃ c, s110 = .bool c ∧ c = (g && q)) ∧ Below w.heap.size w wx)
        case first => as_aux_lemma =>
          have q5 := Q5.out
          have q2 := Q2.out
          have hn : g = true → q = true → Fl.isNaN d = false := by
            intro h1 h2
            rw [Hg.out] at h1
            rw [Hq.out] at h2
            obtain ⟨e1, e2, _⟩ := divF_back HA.out (by simpa using h2) (by simpa using h1)
            have hd := Hd.out; rw [e1] at hd
            exact is_nan hd
          clear Hp Hq Hr Hs Hg Q1 Q2 Q3 Q4 Q5
          cases g <;> cases q
          all_goals
            simp only [Bool.false_eq_true, false_implies, forall_const, implies_true] at hn
            go_wp2_with (first | (go_at_call 18; refine (noneLaw_any _ _).mono ?_; rintro e w' ⟨rfl, rfl⟩))
            go_meet
            case rel => exact ⟨⟨_, rfl, rfl⟩, grow HW.out C2.out⟩
        case rest =>
          obtain ⟨⟨c, rfl, hc⟩, hw⟩ := hcut
          have HW1 := hid hw
          have Hc := hid hc
          clear hw hc HW C2
          go_upto_if 110 with fail
          go_cut [5] from 6 to 186 (fun s5 wx => s5 = .bool true ∧ Below w.heap.size w wx)
          case first => as_aux_lemma =>
            cases c
            · go_wp2_with fail
              go_meet
              case rel => exact ⟨rfl, HW1.out⟩
            · have hh : (divF a b).1 = 0 ∧ b ≠ 0 := by
                have h := Hc.out
                rw [Hg.out, Hq.out] at h
                simpa using h.symm
              obtain ⟨e1, e2, e3⟩ := divF_back HA.out hh.2 hh.1
              have hd : Fl.Is d (a.tdiv b) := by have := Hd.out; rw [e1] at this; exact this
              have PS := isF e3 (fun W => mul_is hd HY.out e2 HB.out W)
              have Z : ((divF a b).1 == 0) = true := by rw [hh.1]; rfl
              clear hh e1 e2 e3 hd
              go_wp2_with (first | (go_at_call 21; refine (PS.out _).mono ?_; rintro e w3 ⟨⟨v, rfl, hs⟩, hb2⟩; have n1 : (FloatKind.f64.format.order v x != some .eq) = false := by { rw [ne_is hs HX.out]; simp }; have C3 := hid hb2; clear hs hb2))
              go_meet
              case rel => exact ⟨rfl, grow HW1.out C3.out⟩
          case rest =>
            obtain ⟨rfl, hw⟩ := hcut
            have HW := hid hw
            clear hw HW1 Hc c Hd d Hp Hq Hr Hs Hg Q1 Q2 Q3 Q4 Q5 p q r s g
            have q2 := eq0_is HY.out
            by_cases h1 : (remF a b).1 = 0
            · by_cases h2 : b = 0
              · rw [decide_eq_true h2] at q2
                have Z : ((remF a b).1 != 0) = false := by rw [h1]; rfl
                clear h1 h2
                go_wp2_with (first | (go_at_call 23; refine (PR.out _).mono ?_; rintro e w2 ⟨⟨o, rfl, hs⟩, hb2⟩; have Ho := hid hs; have C2 := hid hb2; clear hs hb2))
                go_ret
                exact ⟨rfl, grow HW.out C2.out⟩
              · rw [decide_eq_false h2] at q2
                obtain ⟨e1, e2, e3, e4, e5, e6⟩ := remF_back HA.out h2 HB.out h1
                have PR := isF e1 PR.out
                have E2 := hid e2
                have E3 := hid e3
                have E4 := hid e4
                have E5 := hid e5
                have E6 := hid e6
                have B0 := hid h2
                clear h1 h2 e1 e2 e3 e4 e5 e6
                go_wp2_with fail
                refine (PR.out _).mono ?_
                rintro e w2 ⟨⟨o, rfl, ho⟩, hb2⟩
                have ho : Fl.Is o (a.tmod b) := ho
                have PS := isF E3.out (fun W => sub_is HX.out ho HA.out (by have := E2.out; have := HB.out; omega) W)
                have Ho := hid ho
                have C2 := hid hb2
                clear ho hb2
                go_wp2_with fail
                refine (PS.out _).mono ?_
                rintro e w3 ⟨⟨t, rfl, ht⟩, hb2⟩
                have ht : Fl.Is t (a - a.tmod b) := ht
                have C3 := hid hb2
                clear hb2
                have z := eq0_is ht
                by_cases h0 : a - a.tmod b = 0
                · rw [decide_eq_true h0] at z
                  have k : (FloatKind.f64.format.order o x == some .eq) = true := by rw [eq_is Ho.out HX.out, decide_eq_true_eq]; omega
                  clear h0 ht
                  go_wp2_with fail
                  go_ret
                  exact ⟨rfl, grow (grow HW.out C2.out) C3.out⟩
                · rw [decide_eq_false h0] at z
                  have PD := isF (E5.out h0) (fun W => div_is ht HY.out E4.out HB.out W)
                  clear h0 ht
                  go_wp2_with fail
                  refine (PD.out _).mono ?_
                  rintro e w4 ⟨⟨v, rfl, hv⟩, hb2⟩
                  have hv : Fl.Is v (a.tdiv b) := hv
                  have nv := is_nan hv
                  have C4 := hid hb2
                  clear hv hb2
                  have k1 := eq0_is Ho.out
                  have k2 := gt0_is Ho.out
                  have k3 := gt0_is HX.out
                  by_cases hz : a.tmod b = 0
                  · rw [decide_eq_true hz] at k1
                    clear hz
                    go_wp2_with (first | (go_at_call 18; refine (noneLaw_any _ _).mono ?_; rintro e w' ⟨rfl, rfl⟩) | (go_at_call 24; refine (sizeLaw_any HY.out _).mono ?_; rintro e w' ⟨⟨z, rfl, hz⟩, rfl⟩; have L : (FloatKind.f64.format.order o z == some .lt) = true := by { rw [lt_is Ho.out hz, decide_eq_true_eq]; have := E2.out; omega }; have G : (FloatKind.f64.format.order o (Fl.negW z) == some .gt) = true := by { rw [gt_is Ho.out (Fl.is_neg hz (by have := B0.out; omega)), decide_eq_true_eq]; have := E2.out; omega }; have hrun := fun W => Fl.run_neg_f64 Try.prog z W; clear hz))
                    go_ret
                    exact ⟨rfl, grow (grow (grow HW.out C2.out) C3.out) C4.out⟩
                  · rw [decide_eq_false hz] at k1
                    have k4 : decide (0 < a.tmod b) = decide (0 < a) := by
                      rcases E6.out with h | h
                      · exact absurd h hz
                      · exact h
                    rw [k4] at k2
                    clear hz k4
                    generalize decide (0 < a) = u at *
                    cases u
                    all_goals
                      go_wp2_with (first | (go_at_call 18; refine (noneLaw_any _ _).mono ?_; rintro e w' ⟨rfl, rfl⟩) | (go_at_call 24; refine (sizeLaw_any HY.out _).mono ?_; rintro e w' ⟨⟨z, rfl, hz⟩, rfl⟩; have L : (FloatKind.f64.format.order o z == some .lt) = true := by { rw [lt_is Ho.out hz, decide_eq_true_eq]; have := E2.out; omega }; have G : (FloatKind.f64.format.order o (Fl.negW z) == some .gt) = true := by { rw [gt_is Ho.out (Fl.is_neg hz (by have := B0.out; omega)), decide_eq_true_eq]; have := E2.out; omega }; have hrun := fun W => Fl.run_neg_f64 Try.prog z W; clear hz))
                      go_ret
                      exact ⟨rfl, grow (grow (grow HW.out C2.out) C3.out) C4.out⟩
            · have Z : ((remF a b).1 != 0) = true := by simpa using h1
              clear h1 q2
              go_wp2_with (first | (go_at_call 23; refine (PR.out _).mono ?_; rintro e w2 ⟨⟨o, rfl, hs⟩, hb2⟩; have Ho := hid hs; have C2 := hid hb2; clear hs hb2))
              go_ret
              exact ⟨rfl, grow HW.out C2.out⟩

set_option maxRecDepth 100000 in
theorem law_back (x y : Nat) (w : World) :
    Calls Try.prog 5 #[.float .f64 x, .float .f64 y] w fun e w' => e = .returned (.bool true) ∧ Below w.heap.size w w' := by
  cases h1 : Fl.may x
  · go_enter Try.func5, Try.ntmps5
    go_wp2_with (first | (go_at_call 16; refine (aliveLaw_any _).mono ?_; rintro e w1 ⟨rfl, hb1⟩; have C1 := hid hb1; clear hb1) | (go_at_call 17; refine (may_any _ _).mono ?_; rintro e w' ⟨rfl, rfl⟩) | (go_at_call 18; refine (noneLaw_any _ _).mono ?_; rintro e w' ⟨rfl, rfl⟩))
    go_ret
    exact ⟨rfl, C1.out⟩
  cases h2 : Fl.may y
  · go_enter Try.func5, Try.ntmps5
    go_wp2_with (first | (go_at_call 16; refine (aliveLaw_any _).mono ?_; rintro e w1 ⟨rfl, hb1⟩; have C1 := hid hb1; clear hb1) | (go_at_call 17; refine (may_any _ _).mono ?_; rintro e w' ⟨rfl, rfl⟩) | (go_at_call 18; refine (noneLaw_any _ _).mono ?_; rintro e w' ⟨rfl, rfl⟩))
    go_ret
    exact ⟨rfl, C1.out⟩
  cases h3 : Fl.isNaN x
  · cases h4 : Fl.isNaN y
    · rcases may_cases h1 with h | ⟨_, hx, hxb⟩
      · rw [h] at h3; cases h3
      rcases may_cases h2 with h | ⟨_, hy, hyb⟩
      · rw [h] at h4; cases h4
      exact back_is hx hy hxb hyb w
    · go_enter Try.func5, Try.ntmps5
      go_wp2_with (first | (go_at_call 16; refine (aliveLaw_any _).mono ?_; rintro e w1 ⟨rfl, hb1⟩; have C1 := hid hb1; clear hb1) | (go_at_call 17; refine (may_any _ _).mono ?_; rintro e w' ⟨rfl, rfl⟩) | (go_at_call 18; refine (noneLaw_any _ _).mono ?_; rintro e w' ⟨rfl, rfl⟩))
      go_ret
      exact ⟨rfl, C1.out⟩
  · go_enter Try.func5, Try.ntmps5
    go_wp2_with (first | (go_at_call 16; refine (aliveLaw_any _).mono ?_; rintro e w1 ⟨rfl, hb1⟩; have C1 := hid hb1; clear hb1) | (go_at_call 17; refine (may_any _ _).mono ?_; rintro e w' ⟨rfl, rfl⟩) | (go_at_call 18; refine (noneLaw_any _ _).mono ?_; rintro e w' ⟨rfl, rfl⟩))
    go_ret
    exact ⟨rfl, C1.out⟩

end Go.Proofs.Ythdgehdbanhliaa
