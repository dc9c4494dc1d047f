/-
  The walks of run, closed, named and of the reference's rows.
-/
import Derived.Test.YtkomjmgmancinaaDoorByteWalk
namespace Go.Proofs.YtkomjmgmancinaaDoor
open Go.RowKit

theorem runN_cons (c : UInt8) (r : List UInt8) : runN (c :: r) = if isNm c then runN r + 1 else 0 := by
  unfold runN; rw [List.takeWhile_cons]; split <;> simp
theorem runN_le (l : List UInt8) : runN l ≤ l.length := by unfold runN; exact (List.takeWhile_sublist _).length_le
theorem runN_at (l : List UInt8) (k : Nat) (h : k < l.length) : runN (l.drop k) = if isNm l[k] then runN (l.drop (k + 1)) + 1 else 0 := by
  rw [List.drop_eq_getElem_cons h, runN_cons]
theorem runN_end (l : List UInt8) (k : Nat) (h : l.length ≤ k) : runN (l.drop k) = 0 := by rw [List.drop_eq_nil_of_le h]; rfl

/-- What the kind of a byte gives the walks. -/
theorem kind_cases (b : UInt8) : (isLet b = true ∧ isNm b = true ∧ kindN b = 1) ∨ (isLet b = false ∧ isDig b = true ∧ isNm b = true ∧ kindN b = 2) ∨ (isLet b = false ∧ isDig b = false ∧ isNm b = false ∧ isQu b = true ∧ kindN b = 3) ∨ (isLet b = false ∧ isDig b = false ∧ isNm b = false ∧ isQu b = false ∧ kindN b = 0) := by
  unfold isNm kindN
  cases h1 : isLet b <;> cases h2 : isDig b <;> cases h3 : isQu b <;> simp

set_option maxHeartbeats 2000000 in
set_option maxRecDepth 100000 in
theorem run_any (s : ByteArray) (hs : s.size ≤ 9223372036854775800) (w : World) : Calls Tryd.prog 44 #[.string s] w fun e w' => e = .returned (.int .i64 (runN s.data.toList)) ∧ w = w' := by
  obtain ⟨l, hl⟩ : ∃ l, l = s.data.toList := ⟨_, rfl⟩
  obtain ⟨r, hr⟩ : ∃ r, runN s.data.toList = r := ⟨_, rfl⟩
  rw [hr]
  rw [← hl] at hr
  have zl : s.size = l.length := by rw [hl, ba_size]
  have HL := hidB hl.symm
  have HR := hidB hr
  have ZL := hidB zl
  clear hr hl zl
  go_enter Tryd.func44, Tryd.ntmps44
  go_wp2_with fail
  go_loop [3] (fun v => ∃ k : Nat, k ≤ s.size ∧ v = .int .i64 k ∧ runN l = k + runN (l.drop k)) (fun v => s.size - (intOf v).toNat)
  case atStart => exact ⟨0, by omega, rfl, by simp⟩
  case round =>
    obtain ⟨k, hk, rfl, hn⟩ := hrel
    have HN := hidB hn
    clear hn
    by_cases hlt : k < s.size
    · have hlt2 : k < l.length := by rw [← ZL.out]; exact hlt
      have e0 := hidB (ba_at s l HL.out k hlt hlt2)
      have HA := hidB (runN_at l k hlt2)
      have K := hidB (fun W => kind_any s[k] W)
      have hx0 : (0 : Int) ≤ (k : Int) := by omega
      rcases kind_cases s[k] with ⟨_, hc, hk1⟩ | ⟨_, _, hc, hk1⟩ | ⟨_, _, hc, _, hk1⟩ | ⟨_, _, hc, _, hk1⟩
      all_goals
        rw [hk1] at K
        rw [e0.out] at hc
        have HC := hidB hc
        clear hc hk1
      · go_wp2_with (go_at_call 43; refine (K.out _).mono ?_; rintro e w' ⟨rfl, rfl⟩)
        go_round
        case rel => exact ⟨k + 1, by omega, by go_num, by rw [HN.out, HA.out, if_pos HC.out]; omega⟩
        case measure => simp [intOf]; omega
      · go_wp2_with (go_at_call 43; refine (K.out _).mono ?_; rintro e w' ⟨rfl, rfl⟩)
        go_round
        case rel => exact ⟨k + 1, by omega, by go_num, by rw [HN.out, HA.out, if_pos HC.out]; omega⟩
        case measure => simp [intOf]; omega
      · go_wp2_with (go_at_call 43; refine (K.out _).mono ?_; rintro e w' ⟨rfl, rfl⟩)
        go_ret
        exact ⟨by rw [← HR.out, HN.out, HA.out, if_neg (by rw [HC.out]; decide)]; rfl, rfl⟩
      · go_wp2_with (go_at_call 43; refine (K.out _).mono ?_; rintro e w' ⟨rfl, rfl⟩)
        go_ret
        exact ⟨by rw [← HR.out, HN.out, HA.out, if_neg (by rw [HC.out]; decide)]; rfl, rfl⟩
    · have HE := hidB (runN_end l k (by rw [← ZL.out]; omega))
      go_wp2_with fail
      go_ret
      exact ⟨by rw [← HR.out, HN.out, HE.out]; rfl, rfl⟩

set_option maxHeartbeats 2000000 in
set_option maxRecDepth 100000 in
theorem named_any (s : ByteArray) (hs : s.size ≤ 9223372036854775800) (p : Nat) (hp : p ≤ s.size) (w : World) : Calls Tryd.prog 60 #[.string s, .int .i64 p] w fun e w' => e = .returned (.int .i64 ((p + runN (s.data.toList.drop p) : Nat))) ∧ w = w' := by
  obtain ⟨l, hl⟩ : ∃ l, l = s.data.toList := ⟨_, rfl⟩
  obtain ⟨r, hr⟩ : ∃ r, p + runN (s.data.toList.drop p) = r := ⟨_, rfl⟩
  rw [hr]
  rw [← hl] at hr
  have zl : s.size = l.length := by rw [hl, ba_size]
  have HL := hidB hl.symm
  have HR := hidB hr
  have ZL := hidB zl
  clear hr hl zl
  go_enter Tryd.func60, Tryd.ntmps60
  go_wp2_with fail
  go_loop [1] (fun v => ∃ k : Nat, k ≤ s.size ∧ v = .int .i64 k ∧ p + runN (l.drop p) = k + runN (l.drop k)) (fun v => s.size - (intOf v).toNat)
  case atStart => exact ⟨p, by omega, rfl, rfl⟩
  case round =>
    obtain ⟨k, hk, rfl, hn⟩ := hrel
    have HN := hidB hn
    clear hn
    by_cases hlt : k < s.size
    · have hlt2 : k < l.length := by rw [← ZL.out]; exact hlt
      have e0 := hidB (ba_at s l HL.out k hlt hlt2)
      have HA := hidB (runN_at l k hlt2)
      have K1 := hidB (fun W => first_any s[k] W)
      have K2 := hidB (fun W => digit_any s[k] W)
      have hx0 : (0 : Int) ≤ (k : Int) := by omega
      have hc : isNm l[k] = (isLet s[k] || isDig s[k]) := by rw [← e0.out]; rfl
      cases h1 : isLet s[k] <;> cases h2 : isDig s[k]
      all_goals
        rw [h1] at K1
        rw [h2] at K2
        rw [h1, h2] at hc
        simp only [Bool.false_or, Bool.true_or] at hc
        have HC := hidB hc
        clear hc h1 h2
      · go_wp2_with (first | (go_at_call 59; refine (K1.out _).mono ?_; rintro e w' ⟨rfl, rfl⟩) | (go_at_call 61; refine (K2.out _).mono ?_; rintro e w' ⟨rfl, rfl⟩))
        go_ret
        exact ⟨by rw [← HR.out, HN.out, HA.out, if_neg (by rw [HC.out]; decide)]; rfl, rfl⟩
      all_goals
        go_wp2_with (first | (go_at_call 59; refine (K1.out _).mono ?_; rintro e w' ⟨rfl, rfl⟩) | (go_at_call 61; refine (K2.out _).mono ?_; rintro e w' ⟨rfl, rfl⟩))
        go_round
        case rel => exact ⟨k + 1, by omega, by go_num, by rw [HN.out, HA.out, if_pos HC.out]; omega⟩
        case measure => simp [intOf]; omega
    · have HE := hidB (runN_end l k (by rw [← ZL.out]; omega))
      go_wp2_with fail
      go_ret
      exact ⟨by rw [← HR.out, HN.out, HE.out]; rfl, rfl⟩

/-! ### where a string ends -/

def escd : List UInt8 → Bool
  | [] => false
  | d :: _ => !(d == 10) && !(d == 13)
theorem closeAt_cons (q c : UInt8) (r : List UInt8) : closeAt q (c :: r) = if c = q then some 0 else if c = 10 ∨ c = 13 then none
    else if c = 92 ∧ escd r = true then (closeAt q (r.drop 1)).map (· + 2) else (closeAt q r).map (· + 1) := by
  cases r with
  | nil =>
    unfold closeAt escd
    by_cases h1 : c = q
    · rw [if_pos h1, if_pos h1]
    · rw [if_neg h1, if_neg h1]
      split
      · rfl
      · rw [if_neg (by simp)]; simp
  | cons d r =>
    rw [closeAt]
    have e : (¬ (d = 10 ∨ d = 13)) ↔ escd (d :: r) = true := by unfold escd; simp [not_or]
    simp only [e, List.drop_succ_cons, List.drop_zero]
theorem closeAt_nil (q : UInt8) : closeAt q [] = none := by unfold closeAt; rfl

/-- Where the program stands in a string that has begun with 'q'. -/
def CloseAt (q : UInt8) (l : List UInt8) (i : Nat) : Option Nat := (closeAt q (l.drop i)).map (· + i)
theorem close_end (q : UInt8) (l : List UInt8) (i : Nat) (h : l.length ≤ i) : CloseAt q l i = none := by unfold CloseAt; rw [List.drop_eq_nil_of_le h, closeAt_nil]; rfl
theorem close_hit (q : UInt8) (l : List UInt8) (i : Nat) (h : i < l.length) (hq : l[i] = q) : CloseAt q l i = some i := by
  unfold CloseAt; rw [List.drop_eq_getElem_cons h, closeAt_cons, if_pos hq]; simp
theorem close_stop (q : UInt8) (l : List UInt8) (i : Nat) (h : i < l.length) (hq : l[i] ≠ q) (hc : l[i] = 10 ∨ l[i] = 13) : CloseAt q l i = none := by
  unfold CloseAt; rw [List.drop_eq_getElem_cons h, closeAt_cons, if_neg hq, if_pos hc]; rfl
theorem close_two (q : UInt8) (l : List UInt8) (i : Nat) (h : i < l.length) (hq : l[i] ≠ q) (hc : ¬ (l[i] = 10 ∨ l[i] = 13)) (hb : l[i] = 92) (h2 : i + 1 < l.length) (h3 : l[i + 1] ≠ 10) (h4 : l[i + 1] ≠ 13) : CloseAt q l i = CloseAt q l (i + 2) := by
  unfold CloseAt
  have he : escd (l.drop (i + 1)) = true := by rw [List.drop_eq_getElem_cons h2]; unfold escd; simp [h3, h4]
  rw [List.drop_eq_getElem_cons h, closeAt_cons, if_neg hq, if_neg hc, if_pos ⟨hb, he⟩, List.drop_drop, Option.map_map]
  congr 1; funext x; simp; omega
theorem close_one (q : UInt8) (l : List UInt8) (i : Nat) (h : i < l.length) (hq : l[i] ≠ q) (hc : ¬ (l[i] = 10 ∨ l[i] = 13)) (hb : l[i] = 92 → l.length ≤ i + 1 ∨ (∃ h2 : i + 1 < l.length, l[i + 1] = 10 ∨ l[i + 1] = 13)) : CloseAt q l i = CloseAt q l (i + 1) := by
  unfold CloseAt
  have he : ¬ (l[i] = 92 ∧ escd (l.drop (i + 1)) = true) := by
    rintro ⟨h1, h2⟩
    rcases hb h1 with h3 | ⟨h3, h4⟩
    · rw [List.drop_eq_nil_of_le h3] at h2; cases h2
    · rw [List.drop_eq_getElem_cons h3] at h2; unfold escd at h2
      rcases h4 with h4 | h4 <;> simp [h4] at h2
  rw [List.drop_eq_getElem_cons h, closeAt_cons, if_neg hq, if_neg hc, if_neg he, Option.map_map]
  congr 1; funext x; simp; omega

theorem byte_eq (a : UInt8) (c : Nat) (b : UInt8) (hb : b.toNat = c) : ((a.toNat : Int) == (c : Int)) = decide (a = b) := by
  rw [Bool.eq_iff_iff, beq_iff_eq, decide_eq_true_eq, ← UInt8.toNat_inj]; omega
theorem byte_eq2 (a b : UInt8) : ((a.toNat : Int) == (b.toNat : Int)) = decide (a = b) := by
  rw [Bool.eq_iff_iff, beq_iff_eq, decide_eq_true_eq, ← UInt8.toNat_inj]; omega

def closeInt : Option Nat → Int
  | none => 0
  | some e => e

set_option maxHeartbeats 4000000 in
set_option maxRecDepth 100000 in
theorem closed_any (s : ByteArray) (h0 : 0 < s.size) (hs : s.size ≤ 9223372036854775800) (q : UInt8) (hq : q = s[0]) (w : World) : Calls Tryd.prog 57 #[.string s] w fun e w' => e = .returned (.int .i64 (closeInt (CloseAt q s.data.toList 1))) ∧ w = w' := by
  obtain ⟨l, hl⟩ : ∃ l, l = s.data.toList := ⟨_, rfl⟩
  obtain ⟨r, hr⟩ : ∃ r, CloseAt q s.data.toList 1 = r := ⟨_, rfl⟩
  rw [hr]
  rw [← hl] at hr
  have zl : s.size = l.length := by rw [hl, ba_size]
  have HL := hidB hl.symm
  have HR := hidB hr
  have ZL := hidB zl
  have HQ := hidB hq
  clear hr hl zl hq
  go_enter Tryd.func57, Tryd.ntmps57
  go_wp2_with fail
  go_loop [3] (fun v => ∃ k : Nat, 1 ≤ k ∧ k ≤ s.size + 1 ∧ v = .int .i64 k ∧ CloseAt q l 1 = CloseAt q l k) (fun v => s.size + 1 - (intOf v).toNat)
  case atStart => exact ⟨1, by omega, by omega, rfl, rfl⟩
  case round =>
    obtain ⟨k, hk1, hk, rfl, hn⟩ := hrel
    have HN := hidB hn
    clear hn
    by_cases hlt : k < s.size
    · have hlt2 : k < l.length := by rw [← ZL.out]; exact hlt
      have e0 := hidB (ba_at s l HL.out k hlt hlt2)
      have hx0 : (0 : Int) ≤ (k : Int) := by omega
      have b1 : ((s[k].toNat : Int) == (s[0].toNat : Int)) = decide (l[k] = q) := by rw [byte_eq2, e0.out, HQ.out]
      have b2 : ((s[k].toNat : Int) == 10) = decide (l[k] = 10) := by rw [← e0.out]; exact byte_eq s[k] 10 10 rfl
      have b3 : ((s[k].toNat : Int) == 13) = decide (l[k] = 13) := by rw [← e0.out]; exact byte_eq s[k] 13 13 rfl
      have b4 : ((s[k].toNat : Int) == 92) = decide (l[k] = 92) := by rw [← e0.out]; exact byte_eq s[k] 92 92 rfl
      by_cases c1 : l[k] = q
      · rw [decide_eq_true c1] at b1
        have HH := hidB (close_hit q l k hlt2 c1)
        clear b2 b3 b4 c1
        go_wp2_with fail
        go_ret
        exact ⟨by rw [← HR.out, HN.out, HH.out]; rfl, rfl⟩
      · rw [decide_eq_false c1] at b1
        have C1 := hidB c1
        clear c1
        by_cases c2 : l[k] = 10
        · rw [decide_eq_true c2] at b2
          have HH := hidB (close_stop q l k hlt2 C1.out (Or.inl c2))
          clear c2 b3 b4
          go_wp2_with fail
          go_ret
          exact ⟨by rw [← HR.out, HN.out, HH.out]; rfl, rfl⟩
        · rw [decide_eq_false c2] at b2
          have C2 := hidB c2
          clear c2
          by_cases c3 : l[k] = 13
          · rw [decide_eq_true c3] at b3
            have HH := hidB (close_stop q l k hlt2 C1.out (Or.inr c3))
            clear c3 b4
            go_wp2_with fail
            go_ret
            exact ⟨by rw [← HR.out, HN.out, HH.out]; rfl, rfl⟩
          · rw [decide_eq_false c3] at b3
            have C3 := hidB c3
            clear c3
            by_cases c4 : l[k] = 92
            · rw [decide_eq_true c4] at b4
              by_cases h2 : k + 1 < s.size
              · have h22 : k + 1 < l.length := by rw [← ZL.out]; exact h2
                have e1 := hidB (ba_at s l HL.out (k + 1) h2 h22)
                have hw1 : IntKind.i64.wrap ((k : Int) + 1) = (k : Int) + 1 := IntWalk.i64_in _ (by omega)
                have hw2 : (0 : Int) ≤ (k : Int) + 1 := by omega
                have hw3 : ((k : Int) + 1).toNat = k + 1 := by omega
                have hw5 : (k : Int) + 1 < (s.size : Int) := by omega
                have b5 : ((s[k + 1].toNat : Int) != 10) = !decide (l[k + 1] = 10) := by rw [bne, ← e1.out]; exact congrArg (!·) (byte_eq s[k + 1] 10 10 rfl)
                have b6 : ((s[k + 1].toNat : Int) != 13) = !decide (l[k + 1] = 13) := by rw [bne, ← e1.out]; exact congrArg (!·) (byte_eq s[k + 1] 13 13 rfl)
                by_cases c5 : l[k + 1] = 10
                · rw [decide_eq_true c5] at b5
                  have HH := hidB (close_one q l k hlt2 C1.out (by rintro (h | h); exact C2.out h; exact C3.out h) (fun _ => Or.inr ⟨h22, Or.inl c5⟩))
                  clear c5 c4 b6
                  simp only [Bool.not_true] at b5
                  go_wp2_with fail
                  go_round
                  case rel => exact ⟨k + 1, by omega, by omega, by go_num, by rw [HN.out, HH.out]⟩
                  case measure => simp [intOf]; omega
                · rw [decide_eq_false c5] at b5
                  by_cases c6 : l[k + 1] = 13
                  · rw [decide_eq_true c6] at b6
                    have HH := hidB (close_one q l k hlt2 C1.out (by rintro (h | h); exact C2.out h; exact C3.out h) (fun _ => Or.inr ⟨h22, Or.inr c6⟩))
                    clear c5 c6 c4
                    simp only [Bool.not_true, Bool.not_false] at b5 b6
                    go_wp2_with fail
                    go_round
                    case rel => exact ⟨k + 1, by omega, by omega, by go_num, by rw [HN.out, HH.out]⟩
                    case measure => simp [intOf]; omega
                  · rw [decide_eq_false c6] at b6
                    have HH := hidB (close_two q l k hlt2 C1.out (by rintro (h | h); exact C2.out h; exact C3.out h) c4 h22 c5 c6)
                    clear c5 c6 c4
                    simp only [Bool.not_false] at b5 b6
                    go_wp2_with fail
                    go_round
                    case rel => exact ⟨k + 2, by omega, by omega, congrArg (fun k => Value.int .i64 k) (by omega), by rw [HN.out, HH.out]⟩
                    case measure => simp [intOf]; omega
              · have HH := hidB (close_one q l k hlt2 C1.out (by rintro (h | h); exact C2.out h; exact C3.out h) (fun _ => Or.inl (by rw [← ZL.out]; omega)))
                clear c4
                go_wp2_with fail
                go_round
                case rel => exact ⟨k + 1, by omega, by omega, by go_num, by rw [HN.out, HH.out]⟩
                case measure => simp [intOf]; omega
            · rw [decide_eq_false c4] at b4
              have HH := hidB (close_one q l k hlt2 C1.out (by rintro (h | h); exact C2.out h; exact C3.out h) (fun h => absurd h c4))
              clear c4
              go_wp2_with fail
              go_round
              case rel => exact ⟨k + 1, by omega, by omega, by go_num, by rw [HN.out, HH.out]⟩
              case measure => simp [intOf]; omega
    · have HE := hidB (close_end q l k (by rw [← ZL.out]; omega))
      go_wp2_with fail
      go_ret
      exact ⟨by rw [← HR.out, HN.out, HE.out]; rfl, rfl⟩

end Go.Proofs.YtkomjmgmancinaaDoor
