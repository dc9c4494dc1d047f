/-
  The walk of passed, the reference's: blanks and comments.
-/
import Derived.Test.YtkomjmgmancinaaDoorPassPlain
namespace Go.Proofs.YtkomjmgmancinaaDoor
open Go.RowKit

set_option maxHeartbeats 8000000 in
set_option maxRecDepth 100000 in
theorem passed_any (s : ByteArray) (hs : s.size ≤ 70000) (a : Nat) (ha : a ≤ s.size) (w : World) : Calls Tryd.prog 37 #[.string s, .int .i64 a] w (PassQ s.data.toList a w) := by
  obtain ⟨l, hl⟩ : ∃ l, l = s.data.toList := ⟨_, rfl⟩
  rw [← hl]
  have zl : s.size = l.length := by rw [hl, ba_size]
  have HL := hidB hl.symm
  have ZL := hidB zl
  clear hl zl
  go_enter Tryd.func37, Tryd.ntmps37
  go_wp2_with fail
  go_loop [1] (fun v => ∃ k : Nat, a ≤ k ∧ k ≤ s.size ∧ v = .int .i64 k ∧ Reach l a k) (fun v => s.size - (intOf v).toNat)
  case atStart => exact ⟨a, by omega, by omega, rfl, Reach.refl _ _⟩
  case round =>
    obtain ⟨k, hk0, hk, rfl, hrc⟩ := hrel
    have RC := hidB hrc
    clear hrc
    by_cases hlt : k < s.size
    · have hlt2 : k < l.length := by rw [← ZL.out]; exact hlt
      have e0 := hidB (ba_at s l HL.out k hlt hlt2)
      have hx0 : (0 : Int) ≤ (k : Int) := by omega
      obtain ⟨c, hc⟩ : ∃ c, l[k] = c := ⟨_, rfl⟩
      have HC := hidB hc
      have E1 := hidB (e0.out.trans hc)
      clear hc
      have b9 : ((s[k].toNat : Int) == 9) = decide (c.toNat = 9) := by rw [E1.out, Bool.eq_iff_iff, beq_iff_eq, decide_eq_true_eq]; omega
      have b10 : ((s[k].toNat : Int) == 10) = decide (c.toNat = 10) := by rw [E1.out, Bool.eq_iff_iff, beq_iff_eq, decide_eq_true_eq]; omega
      have b13 : ((s[k].toNat : Int) == 13) = decide (c.toNat = 13) := by rw [E1.out, Bool.eq_iff_iff, beq_iff_eq, decide_eq_true_eq]; omega
      have b32 : ((s[k].toNat : Int) == 32) = decide (c.toNat = 32) := by rw [E1.out, Bool.eq_iff_iff, beq_iff_eq, decide_eq_true_eq]; omega
      have b47 : ((s[k].toNat : Int) == 47) = decide (c.toNat = 47) := by rw [E1.out, Bool.eq_iff_iff, beq_iff_eq, decide_eq_true_eq]; omega
      by_cases hbl : isBl c = true
      · have RS := hidB (RC.out.step hlt2 (blank_skip hlt2 (by rw [HC.out]; exact hbl)) (by decide))
        rcases (isBl_iff c).1 hbl with h | h | h | h
        · replace b32 : ((s[k].toNat : Int) == 32) = false := by rw [b32]; exact decide_eq_false (by omega)
          replace b9 : ((s[k].toNat : Int) == 9) = true := by rw [b9]; exact decide_eq_true (by omega)
          replace b10 : ((s[k].toNat : Int) == 10) = false := by rw [b10]; exact decide_eq_false (by omega)
          replace b13 : ((s[k].toNat : Int) == 13) = false := by rw [b13]; exact decide_eq_false (by omega)
          replace b47 : ((s[k].toNat : Int) == 47) = false := by rw [b47]; exact decide_eq_false (by omega)
          clear h hbl
          go_wp2_with fail
          go_round
          case rel => exact ⟨k + 1, by omega, by omega, by go_num, RS.out⟩
          case measure => simp [intOf]; omega
        · replace b32 : ((s[k].toNat : Int) == 32) = false := by rw [b32]; exact decide_eq_false (by omega)
          replace b9 : ((s[k].toNat : Int) == 9) = false := by rw [b9]; exact decide_eq_false (by omega)
          replace b10 : ((s[k].toNat : Int) == 10) = true := by rw [b10]; exact decide_eq_true (by omega)
          replace b13 : ((s[k].toNat : Int) == 13) = false := by rw [b13]; exact decide_eq_false (by omega)
          replace b47 : ((s[k].toNat : Int) == 47) = false := by rw [b47]; exact decide_eq_false (by omega)
          clear h hbl
          go_wp2_with fail
          go_round
          case rel => exact ⟨k + 1, by omega, by omega, by go_num, RS.out⟩
          case measure => simp [intOf]; omega
        · replace b32 : ((s[k].toNat : Int) == 32) = false := by rw [b32]; exact decide_eq_false (by omega)
          replace b9 : ((s[k].toNat : Int) == 9) = false := by rw [b9]; exact decide_eq_false (by omega)
          replace b10 : ((s[k].toNat : Int) == 10) = false := by rw [b10]; exact decide_eq_false (by omega)
          replace b13 : ((s[k].toNat : Int) == 13) = true := by rw [b13]; exact decide_eq_true (by omega)
          replace b47 : ((s[k].toNat : Int) == 47) = false := by rw [b47]; exact decide_eq_false (by omega)
          clear h hbl
          go_wp2_with fail
          go_round
          case rel => exact ⟨k + 1, by omega, by omega, by go_num, RS.out⟩
          case measure => simp [intOf]; omega
        · replace b32 : ((s[k].toNat : Int) == 32) = true := by rw [b32]; exact decide_eq_true (by omega)
          replace b9 : ((s[k].toNat : Int) == 9) = false := by rw [b9]; exact decide_eq_false (by omega)
          replace b10 : ((s[k].toNat : Int) == 10) = false := by rw [b10]; exact decide_eq_false (by omega)
          replace b13 : ((s[k].toNat : Int) == 13) = false := by rw [b13]; exact decide_eq_false (by omega)
          replace b47 : ((s[k].toNat : Int) == 47) = false := by rw [b47]; exact decide_eq_false (by omega)
          clear h hbl
          go_wp2_with fail
          go_round
          case rel => exact ⟨k + 1, by omega, by omega, by go_num, RS.out⟩
          case measure => simp [intOf]; omega
      · have hbl' : isBl c = false := by simpa using hbl
        have BN : Hid (isBl l[k] = false) := hidB (by rw [HC.out]; exact hbl')
        have hn : ¬ (c.toNat = 9 ∨ c.toNat = 10 ∨ c.toNat = 13 ∨ c.toNat = 32) := fun h => hbl ((isBl_iff c).2 h)
        replace b9 : ((s[k].toNat : Int) == 9) = false := by rw [b9]; exact decide_eq_false (by omega)
        replace b10 : ((s[k].toNat : Int) == 10) = false := by rw [b10]; exact decide_eq_false (by omega)
        replace b13 : ((s[k].toNat : Int) == 13) = false := by rw [b13]; exact decide_eq_false (by omega)
        replace b32 : ((s[k].toNat : Int) == 32) = false := by rw [b32]; exact decide_eq_false (by omega)
        clear hn hbl hbl'
        by_cases h47 : c.toNat = 47
        · have C47 := hidB (show l[k] = 47 by rw [HC.out, ← UInt8.toNat_inj]; exact h47)
          replace b47 : ((s[k].toNat : Int) == 47) = true := by rw [b47]; exact decide_eq_true h47
          clear h47
          have hw1 : IntKind.i64.wrap ((k : Int) + 1) = (k : Int) + 1 := IntWalk.i64_in _ (by omega)
          by_cases h2 : k + 1 < s.size
          · have h22 : k + 1 < l.length := by rw [← ZL.out]; exact h2
            have e1 := hidB (ba_at s l HL.out (k + 1) h2 h22)
            have hw2 : (0 : Int) ≤ (k : Int) + 1 := by omega
            have hw3 : ((k : Int) + 1).toNat = k + 1 := by omega
            have hw5 : (k : Int) + 1 < (s.size : Int) := by omega
            have d47 : ((s[k + 1].toNat : Int) == 47) = decide (l[k + 1] = 47) := by rw [← e1.out]; exact byte_eq s[k + 1] 47 47 rfl
            have d42 : ((s[k + 1].toNat : Int) == 42) = decide (l[k + 1] = 42) := by rw [← e1.out]; exact byte_eq s[k + 1] 42 42 rfl
            have T1 := hidB (slash_two (k := k) 47 h22)
            have T2 := hidB (slash_two (k := k) 42 h22)
            rw [C47.out] at T1 T2
            by_cases c1 : l[k + 1] = 47
            · rw [decide_eq_true c1] at d47
              have S1 : Hid (slash (l.drop k) 47 = true) := hidB (by rw [T1.out, decide_eq_true c1]; rfl)
              clear c1 d42 T1 T2
              go_wp2_with fail
              go_loop [1] (fun v => ∃ j : Nat, k ≤ j ∧ j ≤ s.size ∧ v = .int .i64 j ∧ lineN l k = lineN l j) (fun v => s.size - (intOf v).toNat)
              case atStart => exact ⟨k, by omega, by omega, rfl, rfl⟩
              case round =>
                obtain ⟨j, hj0, hj, rfl, hn⟩ := hrel
                have HN := hidB hn
                clear hn
                by_cases hjl : j < s.size
                · have hjl2 : j < l.length := by rw [← ZL.out]; exact hjl
                  have e2 := hidB (ba_at s l HL.out j hjl hjl2)
                  have hx2 : (0 : Int) ≤ (j : Int) := by omega
                  have c10 : ((s[j].toNat : Int) != 10) = !decide (l[j] = 10) := by rw [bne, ← e2.out]; exact congrArg (!·) (byte_eq s[j] 10 10 rfl)
                  by_cases c1 : l[j] = 10
                  · have HS := hidB (line_skip hlt2 BN.out S1.out HN.out (line_stop hjl2 c1))
                    rw [decide_eq_true c1] at c10
                    simp only [Bool.not_true] at c10
                    clear c1
                    go_wp2_with fail
                    go_round
                    case rel => exact ⟨j, by omega, by omega, rfl, by have := RC.out.step hlt2 HS.out.1 (by have := HS.out.2; omega); rw [show k + (j - k) = j by have := HS.out.2; omega] at this; exact this⟩
                    case measure =>
                      have := HS.out.2
                      simp [intOf]; omega
                  · have HM := hidB (line_more hjl2 c1)
                    rw [decide_eq_false c1] at c10
                    simp only [Bool.not_false] at c10
                    clear c1
                    go_wp2_with fail
                    go_round
                    case rel => exact ⟨j + 1, by omega, by omega, by go_num, by rw [HN.out, HM.out]⟩
                    case measure => simp [intOf]; omega
                · have HS := hidB (line_skip hlt2 BN.out S1.out HN.out (line_end (by rw [← ZL.out]; omega)))
                  go_wp2_with fail
                  go_round
                  case rel => exact ⟨j, by omega, by omega, rfl, by have := RC.out.step hlt2 HS.out.1 (by have := HS.out.2; omega); rw [show k + (j - k) = j by have := HS.out.2; omega] at this; exact this⟩
                  case measure =>
                    have := HS.out.2
                    simp [intOf]; omega
            · rw [decide_eq_false c1] at d47
              have S1 : Hid (slash (l.drop k) 47 = false) := hidB (by rw [T1.out, decide_eq_false c1]; rfl)
              clear c1
              by_cases c2 : l[k + 1] = 42
              · rw [decide_eq_true c2] at d42
                have S2 : Hid (slash (l.drop k) 42 = true) := hidB (by rw [T2.out, decide_eq_true c2]; rfl)
                clear c2 T1 T2
                have hw7 : IntKind.i64.wrap ((k : Int) + 2) = (k : Int) + 2 := IntWalk.i64_in _ (by omega)
                go_wp2_with fail
                go_loop [6] (fun v => ∃ i : Nat, k + 2 + i ≤ s.size ∧ v = .int .i64 ((k + 2 + i : Nat)) ∧ Lib.NoOcc (l.drop (k + 2)) [42, 47] i) (fun v => s.size - (intOf v).toNat)
                case atStart => exact ⟨0, by omega, congrArg (fun k => Value.int .i64 k) (by omega), Lib.NoOcc.zero _ _⟩
                case round =>
                  obtain ⟨i, hi, rfl, hno⟩ := hrel
                  have NO := hidB hno
                  clear hno
                  obtain ⟨j, hj⟩ : ∃ j, j = k + 2 + i := ⟨_, rfl⟩
                  rw [← hj]
                  rw [← hj] at hi
                  by_cases hjl : j + 1 < s.size
                  · have hjl2 : j + 1 < l.length := by rw [← ZL.out]; exact hjl
                    have hjl3 : j < l.length := by omega
                    have hjl4 : j < s.size := by omega
                    have e2 := hidB (ba_at s l HL.out j hjl4 hjl3)
                    have e3 := hidB (ba_at s l HL.out (j + 1) hjl hjl2)
                    have hx2 : (0 : Int) ≤ (j : Int) := by omega
                    have hw1' : IntKind.i64.wrap ((j : Int) + 1) = (j : Int) + 1 := IntWalk.i64_in _ (by omega)
                    have hw2' : (0 : Int) ≤ (j : Int) + 1 := by omega
                    have hw3' : ((j : Int) + 1).toNat = j + 1 := by omega
                    have hw5' : (j : Int) + 1 < (s.size : Int) := by omega
                    have c42 : ((s[j].toNat : Int) != 42) = !decide (l[j] = 42) := by rw [bne, ← e2.out]; exact congrArg (!·) (byte_eq s[j] 42 42 rfl)
                    have c47 : ((s[j + 1].toNat : Int) != 47) = !decide (l[j + 1] = 47) := by rw [bne, ← e3.out]; exact congrArg (!·) (byte_eq s[j + 1] 47 47 rfl)
                    by_cases c1 : l[j] = 42
                    · rw [decide_eq_true c1] at c42
                      simp only [Bool.not_true] at c42
                      by_cases c2 : l[j + 1] = 47
                      · rw [decide_eq_true c2] at c47
                        simp only [Bool.not_true] at c47
                        have HS : Hid (headR (l.drop k) = .skip (i + 4)) := hidB (by subst hj; exact note_hit hlt2 BN.out S1.out S2.out NO.out hjl2 c1 c2)
                        have HJ := hidB hj
                        have hw6' : ¬ (s.size : Int) ≤ (j : Int) + 1 := by omega
                        clear c1 c2 hj
                        go_wp2_with fail
                        go_round
                        case rel => exact ⟨j + 2, by have := HJ.out; omega, by omega, congrArg (fun k => Value.int .i64 k) (by omega), by have := RC.out.step hlt2 HS.out (by omega); rw [show k + (i + 4) = j + 2 by have := HJ.out; omega] at this; exact this⟩
                        case measure =>
                          have := HJ.out
                          simp [intOf]; omega
                      · rw [decide_eq_false c2] at c47
                        simp only [Bool.not_false] at c47
                        have HM : Hid (Lib.NoOcc (l.drop (k + 2)) [42, 47] (i + 1)) := hidB (by subst hj; exact note_next NO.out hjl2 (by rw [decide_eq_false c2, Bool.and_false]))
                        have HJ := hidB hj
                        clear c1 c2 hj
                        go_wp2_with fail
                        go_round
                        case rel => exact ⟨i + 1, by have := HJ.out; omega, congrArg (fun k => Value.int .i64 k) (by have := HJ.out; omega), HM.out⟩
                        case measure => simp [intOf]; omega
                    · rw [decide_eq_false c1] at c42
                      simp only [Bool.not_false] at c42
                      have HM : Hid (Lib.NoOcc (l.drop (k + 2)) [42, 47] (i + 1)) := hidB (by subst hj; exact note_next NO.out hjl2 (by rw [decide_eq_false c1, Bool.false_and]))
                      have HJ := hidB hj
                      clear c1 hj
                      go_wp2_with fail
                      go_round
                      case rel => exact ⟨i + 1, by have := HJ.out; omega, congrArg (fun k => Value.int .i64 k) (by have := HJ.out; omega), HM.out⟩
                      case measure => simp [intOf]; omega
                  · have HS : Hid (headR (l.drop k) = .unclosed) := hidB (by subst hj; exact note_none hlt2 BN.out S1.out S2.out NO.out (by rw [← ZL.out]; omega))
                    have hw1' : IntKind.i64.wrap ((j : Int) + 1) = (j : Int) + 1 := IntWalk.i64_in _ (by omega)
                    have hw5' : ¬ (j : Int) + 1 < (s.size : Int) := by omega
                    have hw6' : (s.size : Int) ≤ (j : Int) + 1 := by omega
                    have HJ := hidB hj
                    clear hj
                    go_wp2_with fail
                    go_ret2
                    exact ⟨k, false, rfl, rfl, by omega, RC.out, fun _ => HS.out, fun _ => hlt2, by omega⟩
              · rw [decide_eq_false c2] at d42
                have S2 : Hid (slash (l.drop k) 42 = false) := hidB (by rw [T2.out, decide_eq_false c2]; rfl)
                have TK := hidB (tok_here hlt2 BN.out S1.out S2.out)
                clear c2 T1 T2
                go_wp2_with fail
                go_ret2
                exact ⟨k, true, rfl, rfl, by omega, RC.out, fun _ => TK.out, fun h => (by cases h), by omega⟩
          · have hw5 : ¬ (k : Int) + 1 < (s.size : Int) := by omega
            have TK := hidB (tok_here hlt2 BN.out (slash_last 47 hlt2 (by rw [← ZL.out]; omega)) (slash_last 42 hlt2 (by rw [← ZL.out]; omega)))
            go_wp2_with fail
            go_ret2
            exact ⟨k, true, rfl, rfl, by omega, RC.out, fun _ => TK.out, fun h => (by cases h), by omega⟩
        · replace b47 : ((s[k].toNat : Int) == 47) = false := by rw [b47]; exact decide_eq_false h47
          have h0 : 0 < (l.drop k).length := by rw [List.length_drop]; omega
          have hne : (l.drop k)[0] ≠ 47 := by rw [drop_head hlt2, HC.out]; rintro rfl; exact h47 rfl
          have TK := hidB (tok_here hlt2 BN.out (slash_first h0 hne 47) (slash_first h0 hne 42))
          clear h47 hne h0
          go_wp2_with fail
          go_ret2
          exact ⟨k, true, rfl, rfl, by omega, RC.out, fun _ => TK.out, fun h => (by cases h), by omega⟩
    · go_wp2_with fail
      go_ret2
      exact ⟨k, true, rfl, rfl, by rw [← ZL.out]; omega, RC.out, fun h => absurd h (by rw [← ZL.out]; omega), fun h => (by cases h), by omega⟩

end Go.Proofs.YtkomjmgmancinaaDoor
