/-
  The reference's May and IsObject of values.
-/
import Derived.Test.YtbkjbpefbdoenaaValMay
import Derived.Test.YtbkjbpefbdoenaaBlk
import Derived.Test.YtbkjbpefbdoenaaRefNum
namespace Go.Proofs.Ytbkjbpefbdoenaa
open Go.RowKit

theorem refObj_any (k : Int) (x : Nat) (s : ByteArray) (r : Int) (w : World) :
    Calls Try.prog 32 #[val k x s r] w fun e w' => e = .returned (.bool (isObj k)) ∧ (w.alloc (.cells #[.int .u8 k, .float .f64 x, .string s, .int .i64 r] 24)) = w' := by
  by_cases h : k = 6 ∨ k = 7 ∨ k = 8
  · rcases h with rfl | rfl | rfl
    all_goals
      go_enter Try.func32, Try.ntmps32
      go_wp2
      go_ret
      exact ⟨rfl, rfl⟩
  · have e : isObj k = false := by
      unfold isObj
      rw [Bool.and_eq_false_iff, decide_eq_false_iff_not, decide_eq_false_iff_not]; omega
    have h6 : (k == 6) = false := by rw [beq_eq_false_iff_ne]; omega
    have h7 : (k == 7) = false := by rw [beq_eq_false_iff_ne]; omega
    have h8 : (k == 8) = false := by rw [beq_eq_false_iff_ne]; omega
    rw [e]
    clear e h
    go_enter Try.func32, Try.ntmps32
    go_wp2
    go_ret
    exact ⟨rfl, rfl⟩

theorem gt_inf (a : Nat) : (FloatKind.f64.format.order (Ieee.double.word (Fl.sg a) Fl.top) 0 == some .gt) = !Fl.sg a := by
  rw [Fl.order_inf_fin (by cases Fl.sg a <;> decide) Fl.fin_0]
  have : Fl.sg (Ieee.double.word (Fl.sg a) Fl.top) = Fl.sg a := by cases Fl.sg a <;> decide
  rw [this]; cases Fl.sg a <;> rfl

theorem nought_any (x : Nat) (w : World) : Calls Try.prog 52 #[.float .f64 x] w fun e w' => e = .returned (.bool (isN x)) ∧ w = w' := by
  cases hz : Fl.isZ x
  · have e : isN x = false := by unfold isN; rw [hz]; rfl
    have e0 : (FloatKind.f64.format.order x 0 == some .eq) = false := by
      cases hn : Fl.isNaN x
      · rw [show (FloatKind.f64.format.order x 0 == some .eq) = Fl.isZ x from Fl.order_0 x hn]; exact hz
      · rw [ordN hn]; rfl
    rw [e]
    clear hz e
    go_enter Try.func52, Try.ntmps52
    go_wp2
    go_ret
    exact ⟨rfl, rfl⟩
  · have e : isN x = !Fl.sg x := by unfold isN; rw [hz]; rfl
    have e0 : (FloatKind.f64.format.order x 0 == some .eq) = true := by
      rw [show (FloatKind.f64.format.order x 0 == some .eq) = Fl.isZ x from Fl.order_0 x (Fl.fin_not_nan (Fl.fin_of_isZ hz))]; exact hz
    have d := fun W t => run_div_1_0 (P := Try.prog) x hz t W
    have g := gt_inf x
    rw [e]
    clear hz e
    go_enter Try.func52, Try.ntmps52
    go_wp2
    go_ret
    exact ⟨rfl, rfl⟩

set_option maxHeartbeats 4000000 in
set_option maxRecDepth 100000 in
theorem rmay_any (k : Int) (x : Nat) (s : ByteArray) (r : Int) (h0 : 0 ≤ k) (w : World) :
    Calls Try.prog 31 #[val k x s r] w fun e w' => e = .returned (.bool (mayV k x s r)) ∧ Below w.heap.size w w' := by
  by_cases h9 : 8 < k
  · have e : mayV k x s r = false := by
      unfold mayV
      rw [if_neg (by omega), if_neg (by omega), if_neg (by omega), if_neg (by omega), if_neg (by omega)]
    rw [e]
    clear e
    go_enter Try.func31, Try.ntmps31
    go_wp2
    go_ret
    exact ⟨rfl, (Below.refl _ _).alloc (Nat.le_refl _) _⟩
  have N := hid (fun W => nought_any x W)
  have M := hid (fun W => refMay_any x W)
  obtain ⟨n, e0⟩ : ∃ z, isN x = z := ⟨_, rfl⟩
  obtain ⟨m, e1⟩ : ∃ m, Fl.may x = m := ⟨_, rfl⟩
  obtain ⟨o, e2⟩ : ∃ o, is1 x = o := ⟨_, rfl⟩
  obtain ⟨s0, e3⟩ : ∃ o, s.toList.isEmpty = o := ⟨_, rfl⟩
  obtain ⟨r0, e4⟩ : ∃ o, (r == 0) = o := ⟨_, rfl⟩
  obtain ⟨d4, e5⟩ : ∃ o, decide ((s.size : Int) ≤ 4096) = o := ⟨_, rfl⟩
  obtain ⟨rp, e6⟩ : ∃ o, decide (0 < r) = o := ⟨_, rfl⟩
  have e7 : (FloatKind.f64.format.order x 4607182418800017408 == some .eq) = o := e2
  have hk : k = 0 ∨ k = 1 ∨ k = 2 ∨ k = 3 ∨ k = 4 ∨ k = 5 ∨ k = 6 ∨ k = 7 ∨ k = 8 := by omega
  have hV : mayV k x s r = if k = 0 ∨ k = 1 then n && s0 && r0 else if k = 2 then (n || o) && s0 && r0 else if k = 3 then m && s0 && r0 else if k = 4 then n && (s0 || d4) && r0 else if k = 5 ∨ k = 6 ∨ k = 7 ∨ k = 8 then n && s0 && (r0 || rp) else false := by
    have hd : decide (s.size ≤ 4096) = (s0 || d4) := by
      rw [← e3, ← e5, Bool.eq_iff_iff, decide_eq_true_eq, Bool.or_eq_true, empty_size, decide_eq_true_eq]; omega
    have hr : decide (0 ≤ r) = (r0 || rp) := by
      rw [← e4, ← e6, Bool.eq_iff_iff, decide_eq_true_eq, Bool.or_eq_true, beq_iff_eq, decide_eq_true_eq]; omega
    unfold mayV
    rw [e0, e1, e2, e3, e4, hd, hr]
  rw [hV]
  rw [e0] at N
  rw [e1] at M
  clear hV e2 e0 e1
  rcases hk with rfl | rfl | rfl | rfl | rfl | rfl | rfl | rfl | rfl
  all_goals
    cases n
    all_goals
      go_enter Try.func31, Try.ntmps31
      go_wp2_with (first | (go_at_call 52; refine (N.out _).mono ?_; rintro e w' ⟨rfl, rfl⟩) | (go_at_call 53; refine (M.out _).mono ?_; rintro e w' ⟨rfl, rfl⟩))
      all_goals
        go_ret
        exact ⟨ret_bool (by simp [*]), (Below.refl _ _).alloc (Nat.le_refl _) _⟩

end Go.Proofs.Ytbkjbpefbdoenaa
