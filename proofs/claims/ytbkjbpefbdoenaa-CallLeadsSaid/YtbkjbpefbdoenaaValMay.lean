/-
  Which values may be: the program's May, the reference's.
-/
import Derived.Test.YtbkjbpefbdoenaaVal
namespace Go.Proofs.Ytbkjbpefbdoenaa
open Go.RowKit

/-- A nought without a minus. -/
def isN (x : Nat) : Bool := Fl.isZ x && !Fl.sg x
/-- Is a word one? -/
def is1 (x : Nat) : Bool := FloatKind.f64.format.order x 4607182418800017408 == some .eq
/-- May a value be? -/
def mayV (k : Int) (x : Nat) (s : ByteArray) (r : Int) : Bool :=
  if k = 0 ∨ k = 1 then isN x && s.toList.isEmpty && (r == 0)
  else if k = 2 then (isN x || is1 x) && s.toList.isEmpty && (r == 0)
  else if k = 3 then Fl.may x && s.toList.isEmpty && (r == 0)
  else if k = 4 then isN x && decide (s.size ≤ 4096) && (r == 0)
  else if k = 5 ∨ k = 6 ∨ k = 7 ∨ k = 8 then isN x && s.toList.isEmpty && decide (0 ≤ r)
  else false

/-- Equal to nought, and one of ours: a nought without a minus. -/
theorem isN_eq (x : Nat) : ((FloatKind.f64.format.order x 0 == some .eq) && Fl.may x) = isN x := by
  unfold isN
  cases hn : Fl.isNaN x
  · have e : (FloatKind.f64.format.order x 0 == some .eq) = Fl.isZ x := Fl.order_0 x hn
    rw [e]
    cases hz : Fl.isZ x
    · rfl
    · have hf := Fl.fin_of_isZ hz
      have hsc := (Fl.sc_zero_iff x).2 hz
      cases hs : Fl.sg x
      · have hi : Fl.Is x 0 := ⟨hf, by rw [hsc, Int.zero_mul], fun _ => hs⟩
        have hw : Fl.isW x = true := Fl.isW_of_is hi (by unfold Fl.safe; omega) (by unfold Fl.safe; omega)
        unfold Fl.may; rw [hw]; simp
      · have hw : Fl.isW x = false := by
          unfold Fl.isW; rw [hz, hs]; simp
        unfold Fl.may; rw [hw, hn]; rfl
  · have e : (FloatKind.f64.format.order x 0 == some .eq) = false := by rw [ordN hn]; rfl
    rw [e]
    have hz : Fl.isZ x = false := by
      rw [← Bool.not_eq_true]; intro h
      have := Fl.fin_not_nan (Fl.fin_of_isZ h)
      rw [hn] at this; cases this
    rw [hz]; rfl

theorem empty_size (s : ByteArray) : s.toList.isEmpty = true ↔ s.size = 0 := by
  rw [ByteArray.toList_eq, List.isEmpty_iff_length_eq_zero]; simp

theorem ret_bool {a b : Bool} (h : a = b) : Ending.returned (.bool a) = .returned (.bool b) := by rw [h]

theorem may0_any (w : World) : Calls Try.prog 42 #[.float .f64 0] w fun e w' => e = .returned (.bool true) ∧ w = w' := by
  have h := may_any 0 w
  rw [show Fl.may 0 = true by decide +kernel] at h
  exact h

set_option maxHeartbeats 4000000 in
set_option maxRecDepth 100000 in
theorem vmay_any (k : Int) (x : Nat) (s : ByteArray) (r : Int) (h0 : 0 ≤ k) (w : World) :
    Calls Try.prog 22 #[val k x s r] w fun e w' => e = .returned (.bool (mayV k x s r)) ∧ Below w.heap.size w w' := by
  by_cases h9 : 8 < k
  · have e : mayV k x s r = false := by
      unfold mayV
      rw [if_neg (by omega), if_neg (by omega), if_neg (by omega), if_neg (by omega), if_neg (by omega)]
    rw [e]
    clear e
    go_enter Try.func22, Try.ntmps22
    go_wp2
    go_ret
    exact ⟨rfl, (Below.refl _ _).alloc (Nat.le_refl _) _⟩
  by_cases hr : r < 0
  · have e : mayV k x s r = false := by
      have h1 : (r == 0) = false := by rw [beq_eq_false_iff_ne]; omega
      have h2 : decide (0 ≤ r) = false := decide_eq_false (by omega)
      unfold mayV
      rw [h1, h2]
      repeat' split
      all_goals simp
    rw [e]
    clear e
    go_enter Try.func22, Try.ntmps22
    go_wp2
    go_ret
    exact ⟨rfl, (Below.refl _ _).alloc (Nat.le_refl _) _⟩
  by_cases hs : 4096 < s.size
  · have e : mayV k x s r = false := by
      have h1 : s.toList.isEmpty = false := by rw [← Bool.not_eq_true, empty_size]; omega
      have h2 : decide (s.size ≤ 4096) = false := decide_eq_false (by omega)
      unfold mayV
      rw [h1, h2]
      repeat' split
      all_goals simp
    have hs' : (4096 : Int) < (s.size : Int) := by omega
    rw [e]
    clear e hs
    go_enter Try.func22, Try.ntmps22
    go_wp2
    go_ret
    exact ⟨rfl, (Below.refl _ _).alloc (Nat.le_refl _) _⟩
  have hs' : ¬ (4096 : Int) < (s.size : Int) := by omega
  have hN := isN_eq x
  obtain ⟨z, e0⟩ : ∃ z, (FloatKind.f64.format.order x 0 == some .eq) = z := ⟨_, rfl⟩
  obtain ⟨m, e1⟩ : ∃ m, Fl.may x = m := ⟨_, rfl⟩
  obtain ⟨o, e2⟩ : ∃ o, is1 x = o := ⟨_, rfl⟩
  obtain ⟨s0, e3⟩ : ∃ o, s.toList.isEmpty = o := ⟨_, rfl⟩
  obtain ⟨r0, e4⟩ : ∃ o, (r == 0) = o := ⟨_, rfl⟩
  have e5 : (FloatKind.f64.format.order x 4607182418800017408 != some .eq) = !o := by rw [← e2]; rfl
  have e6 : (FloatKind.f64.format.order x 0 != some .eq) = !z := by rw [← e0]; rfl
  have e7 : (FloatKind.f64.format.order 0 0 == some .eq) = true := by decide
  rw [e0, e1] at hN
  have hk : k = 0 ∨ k = 1 ∨ k = 2 ∨ k = 3 ∨ k = 4 ∨ k = 5 ∨ k = 6 ∨ k = 7 ∨ k = 8 := by omega
  have hd4 : decide (s.size ≤ 4096) = true := decide_eq_true (by omega)
  have hd0 : decide (0 ≤ r) = true := decide_eq_true (by omega)
  have hV : mayV k x s r = if k = 0 ∨ k = 1 then (z && m) && s0 && r0 else if k = 2 then ((z && m) || o) && s0 && r0 else if k = 3 then m && s0 && r0 else if k = 4 then (z && m) && true && r0 else if k = 5 ∨ k = 6 ∨ k = 7 ∨ k = 8 then (z && m) && s0 && true else false := by
    unfold mayV
    rw [← hN, e1, e2, e3, e4, hd4, hd0]
  rw [hV]
  clear hV hN hd4 hd0 e2
  rcases hk with rfl | rfl | rfl | rfl | rfl | rfl | rfl | rfl | rfl
  all_goals
    go_enter Try.func22, Try.ntmps22
    go_wp2_with (go_at_call 42; first | ((with_reducible refine (may0_any _).mono ?_); rintro e w' ⟨rfl, rfl⟩) | ((with_reducible refine (may_any x _).mono ?_); rintro e w' ⟨rfl, rfl⟩))
    all_goals
      go_ret
      exact ⟨ret_bool (by first | (simp [*]; done) | (have hm : m = false := by simpa using (by assumption : (!m) = true)
                                                      simp [*]; done) | (have hm : m = true := by simpa using (by assumption : (!m) = false)
                                                                         simp [*])), ((Below.refl _ _).alloc (Nat.le_refl _) _).alloc (by simp) _⟩

end Go.Proofs.Ytbkjbpefbdoenaa
