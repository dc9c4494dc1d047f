/-
  The reference's 'one': may a token be?
-/
import Derived.Test.YtkomjmgmancinaaDoorLxT
import Derived.Test.YtkomjmgmancinaaDoorLxLA
import Derived.Deep.QuietTactic
import Derived.BigQuiet
namespace Go.Proofs.YtkomjmgmancinaaDoor
open Go.RowKit

theorem ge0_self {x : Nat} (h : ge0 x = true) : (FloatKind.f64.format.order x x == some .eq) = true := by
  cases hn : Fl.isNaN x
  · rw [ordE hn]; rfl
  · unfold ge0 at h
    rw [ordN hn] at h
    cases h
theorem named0_any (s : ByteArray) (hs : s.size ≤ 9223372036854775800) (w : World) : Calls Tryd.prog 60 #[.string s, .int .i64 0] w fun e w' => e = .returned (.int .i64 ((runN s.data.toList : Nat))) ∧ w = w' := by
  have h := named_any s hs 0 (Nat.zero_le _) w
  rw [List.drop_zero, Nat.zero_add] at h
  exact h
section
variable (w : World)
set_option maxHeartbeats 2000000 in
set_option maxRecDepth 100000 in
theorem roT_num0 (p : Int) (s : ByteArray) (x : Nat) (h : s.toList.isEmpty = false) : Calls Tryd.prog 48 #[.agg #[.int .u8 3, .int .i64 p, .string s, .float .f64 x]] w fun e w' => e = .returned (.bool false) ∧ Below w.heap.size w w' := by
  go_enter Tryd.func48, Tryd.ntmps48
  go_wp2_with fail
  go_ret
  exact ⟨rfl, box_one _ _⟩

set_option maxHeartbeats 2000000 in
set_option maxRecDepth 100000 in
theorem roT_num1 (p : Int) (s : ByteArray) (x : Nat) (h : s.toList.isEmpty = true) (q : (FloatKind.f64.format.order x x == some .eq) = false) : Calls Tryd.prog 48 #[.agg #[.int .u8 3, .int .i64 p, .string s, .float .f64 x]] w fun e w' => e = .returned (.bool false) ∧ Below w.heap.size w w' := by
  go_enter Tryd.func48, Tryd.ntmps48
  go_wp2_with fail
  go_ret
  exact ⟨rfl, box_one _ _⟩

set_option maxHeartbeats 2000000 in
set_option maxRecDepth 100000 in
theorem roT_num2 (p : Int) (s : ByteArray) (x : Nat) (h : s.toList.isEmpty = true) (q : (FloatKind.f64.format.order x x == some .eq) = true) (g : (FloatKind.f64.format.order x 0 == some .gt || FloatKind.f64.format.order x 0 == some .eq) = false) : Calls Tryd.prog 48 #[.agg #[.int .u8 3, .int .i64 p, .string s, .float .f64 x]] w fun e w' => e = .returned (.bool false) ∧ Below w.heap.size w w' := by
  go_enter Tryd.func48, Tryd.ntmps48
  go_wp2_with fail
  go_ret
  exact ⟨rfl, box_one _ _⟩

set_option maxHeartbeats 2000000 in
set_option maxRecDepth 100000 in
theorem roT_num3 (p : Int) (s : ByteArray) (x : Nat) (h : s.toList.isEmpty = true) (q : (FloatKind.f64.format.order x x == some .eq) = true) (g : (FloatKind.f64.format.order x 0 == some .gt || FloatKind.f64.format.order x 0 == some .eq) = true) : Calls Tryd.prog 48 #[.agg #[.int .u8 3, .int .i64 p, .string s, .float .f64 x]] w fun e w' => e = .returned (.bool (Fl.may x)) ∧ Below w.heap.size w w' := by
  have MA := hidB (fun W => refMay_any x W)
  go_enter Tryd.func48, Tryd.ntmps48
  go_wp2_with fail
  refine (MA.out _).mono ?_; rintro e w1 ⟨rfl, rfl⟩
  go_wp2_with fail
  go_ret
  exact ⟨rfl, box_one _ _⟩

set_option maxHeartbeats 2000000 in
set_option maxRecDepth 100000 in
theorem roT_str0 (p : Int) (s : ByteArray) (x : Nat) (g : (FloatKind.f64.format.order x 0 == some .eq) = false) : Calls Tryd.prog 48 #[.agg #[.int .u8 4, .int .i64 p, .string s, .float .f64 x]] w fun e w' => e = .returned (.bool false) ∧ Below w.heap.size w w' := by
  go_enter Tryd.func48, Tryd.ntmps48
  go_wp2_with fail
  go_ret
  exact ⟨rfl, box_one _ _⟩

set_option maxHeartbeats 2000000 in
set_option maxRecDepth 100000 in
theorem roT_str1 (p : Int) (s : ByteArray) (x : Nat) (g : (FloatKind.f64.format.order x 0 == some .eq) = true) (b : Bool) (hb : decide ((s.size : Int) ≤ 4096) = b) : Calls Tryd.prog 48 #[.agg #[.int .u8 4, .int .i64 p, .string s, .float .f64 x]] w fun e w' => e = .returned (.bool b) ∧ Below w.heap.size w w' := by
  cases b
  all_goals
    go_enter Tryd.func48, Tryd.ntmps48
    go_wp2_with fail
    go_ret
    exact ⟨rfl, box_one _ _⟩

set_option maxHeartbeats 2000000 in
set_option maxRecDepth 100000 in
theorem roT_sign0 (p : Int) (s : ByteArray) (x : Nat) (g : (FloatKind.f64.format.order x 0 == some .eq) = false) : Calls Tryd.prog 48 #[.agg #[.int .u8 5, .int .i64 p, .string s, .float .f64 x]] w fun e w' => e = .returned (.bool false) ∧ Below w.heap.size w w' := by
  go_enter Tryd.func48, Tryd.ntmps48
  go_wp2_with fail
  go_ret
  exact ⟨rfl, box_one _ _⟩

set_option maxHeartbeats 2000000 in
set_option maxRecDepth 100000 in
theorem roT_sign1 (p : Int) (s : ByteArray) (x : Nat) (hs : s.size ≤ 9223372036854775800) (g : (FloatKind.f64.format.order x 0 == some .eq) = true) : Calls Tryd.prog 48 #[.agg #[.int .u8 5, .int .i64 p, .string s, .float .f64 x]] w fun e w' => e = .returned (.bool (signB s.data.toList)) ∧ Below w.heap.size w w' := by
  have SA := hidB (fun W => refSign_any s hs W)
  go_enter Tryd.func48, Tryd.ntmps48
  go_wp2_with fail
  refine (SA.out _).mono ?_; rintro e w1 ⟨rfl, rfl⟩
  go_wp2_with fail
  go_ret
  exact ⟨rfl, box_one _ _⟩

set_option maxHeartbeats 2000000 in
set_option maxRecDepth 100000 in
theorem roT_other (p : Int) (s : ByteArray) (x : Nat) (k : Int) (h1 : (k == 1) = false) (h2 : (k == 2) = false) (h3 : (k == 3) = false) (h4 : (k == 4) = false) (h5 : (k == 5) = false) : Calls Tryd.prog 48 #[.agg #[.int .u8 k, .int .i64 p, .string s, .float .f64 x]] w fun e w' => e = .returned (.bool false) ∧ Below w.heap.size w w' := by
  go_enter Tryd.func48, Tryd.ntmps48
  go_wp2_with fail
  go_ret
  exact ⟨rfl, box_one _ _⟩

set_option maxHeartbeats 2000000 in
set_option maxRecDepth 100000 in
theorem roT_n1a (p : Int) (s : ByteArray) (x : Nat) (g : (FloatKind.f64.format.order x 0 == some .eq) = false) : Calls Tryd.prog 48 #[.agg #[.int .u8 1, .int .i64 p, .string s, .float .f64 x]] w fun e w' => e = .returned (.bool false) ∧ Below w.heap.size w w' := by
  go_enter Tryd.func48, Tryd.ntmps48
  go_wp2_with fail
  go_quiet ((first | ((go_at_call 59; exact Calls.quiet_of_same ((KA.out _).mono fun _ _ h => ⟨h.1, h.2.symm⟩))) | ((go_at_call 60; exact Calls.quiet_of_same ((RA.out _).mono fun _ _ h => ⟨h.1, h.2.symm⟩))) | ((go_at_call 16; exact Calls.quiet_of_same ((WA.out _).mono fun _ _ h => ⟨h.1, h.2.symm⟩)))))
  go_wp2_with fail
  go_ret
  exact ⟨rfl, mayT_below _ _ _⟩

set_option maxHeartbeats 2000000 in
set_option maxRecDepth 100000 in
theorem roT_n1b (p : Int) (s : ByteArray) (x : Nat) (g : (FloatKind.f64.format.order x 0 == some .eq) = true) (h : s.toList.isEmpty = true) : Calls Tryd.prog 48 #[.agg #[.int .u8 1, .int .i64 p, .string s, .float .f64 x]] w fun e w' => e = .returned (.bool false) ∧ Below w.heap.size w w' := by
  go_enter Tryd.func48, Tryd.ntmps48
  go_wp2_with fail
  go_quiet ((first | ((go_at_call 59; exact Calls.quiet_of_same ((KA.out _).mono fun _ _ h => ⟨h.1, h.2.symm⟩))) | ((go_at_call 60; exact Calls.quiet_of_same ((RA.out _).mono fun _ _ h => ⟨h.1, h.2.symm⟩))) | ((go_at_call 16; exact Calls.quiet_of_same ((WA.out _).mono fun _ _ h => ⟨h.1, h.2.symm⟩)))))
  go_wp2_with fail
  go_ret
  exact ⟨rfl, mayT_below _ _ _⟩

set_option maxHeartbeats 2000000 in
set_option maxRecDepth 100000 in
theorem roT_n1c (p : Int) (s : ByteArray) (x : Nat) (g : (FloatKind.f64.format.order x 0 == some .eq) = true) (h : s.toList.isEmpty = false) (hz : decide ((s.size : Int) ≤ 4096) = false) : Calls Tryd.prog 48 #[.agg #[.int .u8 1, .int .i64 p, .string s, .float .f64 x]] w fun e w' => e = .returned (.bool false) ∧ Below w.heap.size w w' := by
  go_enter Tryd.func48, Tryd.ntmps48
  go_wp2_with fail
  go_quiet ((first | ((go_at_call 59; exact Calls.quiet_of_same ((KA.out _).mono fun _ _ h => ⟨h.1, h.2.symm⟩))) | ((go_at_call 60; exact Calls.quiet_of_same ((RA.out _).mono fun _ _ h => ⟨h.1, h.2.symm⟩))) | ((go_at_call 16; exact Calls.quiet_of_same ((WA.out _).mono fun _ _ h => ⟨h.1, h.2.symm⟩)))))
  go_wp2_with fail
  go_ret
  exact ⟨rfl, mayT_below _ _ _⟩

set_option maxHeartbeats 2000000 in
set_option maxRecDepth 100000 in
theorem roT_n1d (p : Int) (s : ByteArray) (x : Nat) (g : (FloatKind.f64.format.order x 0 == some .eq) = true) (h : s.toList.isEmpty = false) (hz : decide ((s.size : Int) ≤ 4096) = true) (h0 : 0 < s.size) (hk : isLet s[0] = false) : Calls Tryd.prog 48 #[.agg #[.int .u8 1, .int .i64 p, .string s, .float .f64 x]] w fun e w' => e = .returned (.bool false) ∧ Below w.heap.size w w' := by
  have KA0 := hidB (fun W => first_any s[0] W)
  have RA := hidB (fun W => named0_any s (by have := of_decide_eq_true hz; omega) W)
  have WA0 := hidB (fun W => refWord_any s (by have := of_decide_eq_true hz; omega) W)
  rw [hk] at KA0
  have KA := hidB KA0.out
  clear KA0 hk
  have WA := hidB WA0.out
  go_enter Tryd.func48, Tryd.ntmps48
  go_wp2_with fail
  go_quiet ((first | ((go_at_call 59; exact Calls.quiet_of_same ((KA.out _).mono fun _ _ h => ⟨h.1, h.2.symm⟩))) | ((go_at_call 60; exact Calls.quiet_of_same ((RA.out _).mono fun _ _ h => ⟨h.1, h.2.symm⟩))) | ((go_at_call 16; exact Calls.quiet_of_same ((WA.out _).mono fun _ _ h => ⟨h.1, h.2.symm⟩)))))
  go_wp2_with fail
  go_ret
  exact ⟨rfl, mayT_below _ _ _⟩

set_option maxHeartbeats 2000000 in
set_option maxRecDepth 100000 in
theorem roT_n1e (p : Int) (s : ByteArray) (x : Nat) (g : (FloatKind.f64.format.order x 0 == some .eq) = true) (h : s.toList.isEmpty = false) (hz : decide ((s.size : Int) ≤ 4096) = true) (h0 : 0 < s.size) (hk : isLet s[0] = true) (hr : (((runN s.data.toList : Nat) : Int) == (s.size : Int)) = false) : Calls Tryd.prog 48 #[.agg #[.int .u8 1, .int .i64 p, .string s, .float .f64 x]] w fun e w' => e = .returned (.bool false) ∧ Below w.heap.size w w' := by
  have KA0 := hidB (fun W => first_any s[0] W)
  have RA := hidB (fun W => named0_any s (by have := of_decide_eq_true hz; omega) W)
  have WA0 := hidB (fun W => refWord_any s (by have := of_decide_eq_true hz; omega) W)
  rw [hk] at KA0
  have KA := hidB KA0.out
  clear KA0 hk
  have WA := hidB WA0.out
  go_enter Tryd.func48, Tryd.ntmps48
  go_wp2_with fail
  go_quiet ((first | ((go_at_call 59; exact Calls.quiet_of_same ((KA.out _).mono fun _ _ h => ⟨h.1, h.2.symm⟩))) | ((go_at_call 60; exact Calls.quiet_of_same ((RA.out _).mono fun _ _ h => ⟨h.1, h.2.symm⟩))) | ((go_at_call 16; exact Calls.quiet_of_same ((WA.out _).mono fun _ _ h => ⟨h.1, h.2.symm⟩)))))
  go_wp2_with fail
  go_ret
  exact ⟨rfl, mayT_below _ _ _⟩

set_option maxHeartbeats 2000000 in
set_option maxRecDepth 100000 in
theorem roT_n1f (p : Int) (s : ByteArray) (x : Nat) (g : (FloatKind.f64.format.order x 0 == some .eq) = true) (h : s.toList.isEmpty = false) (hz : decide ((s.size : Int) ≤ 4096) = true) (h0 : 0 < s.size) (hk : isLet s[0] = true) (hr : (((runN s.data.toList : Nat) : Int) == (s.size : Int)) = true) (wb : Bool) (hw : wordB s.data.toList = wb) : Calls Tryd.prog 48 #[.agg #[.int .u8 1, .int .i64 p, .string s, .float .f64 x]] w fun e w' => e = .returned (.bool (wb == false)) ∧ Below w.heap.size w w' := by
  have KA0 := hidB (fun W => first_any s[0] W)
  have RA := hidB (fun W => named0_any s (by have := of_decide_eq_true hz; omega) W)
  have WA0 := hidB (fun W => refWord_any s (by have := of_decide_eq_true hz; omega) W)
  rw [hk] at KA0
  have KA := hidB KA0.out
  clear KA0 hk
  rw [hw] at WA0
  have WA := hidB WA0.out
  clear WA0 hw
  cases wb
  all_goals
    go_enter Tryd.func48, Tryd.ntmps48
    go_wp2_with fail
    go_quiet ((first | ((go_at_call 59; exact Calls.quiet_of_same ((KA.out _).mono fun _ _ h => ⟨h.1, h.2.symm⟩))) | ((go_at_call 60; exact Calls.quiet_of_same ((RA.out _).mono fun _ _ h => ⟨h.1, h.2.symm⟩))) | ((go_at_call 16; exact Calls.quiet_of_same ((WA.out _).mono fun _ _ h => ⟨h.1, h.2.symm⟩)))))
    go_wp2_with fail
    go_ret
    exact ⟨rfl, mayT_below _ _ _⟩

set_option maxHeartbeats 2000000 in
set_option maxRecDepth 100000 in
theorem roT_n2a (p : Int) (s : ByteArray) (x : Nat) (g : (FloatKind.f64.format.order x 0 == some .eq) = false) : Calls Tryd.prog 48 #[.agg #[.int .u8 2, .int .i64 p, .string s, .float .f64 x]] w fun e w' => e = .returned (.bool false) ∧ Below w.heap.size w w' := by
  go_enter Tryd.func48, Tryd.ntmps48
  go_wp2_with fail
  go_quiet ((first | ((go_at_call 59; exact Calls.quiet_of_same ((KA.out _).mono fun _ _ h => ⟨h.1, h.2.symm⟩))) | ((go_at_call 60; exact Calls.quiet_of_same ((RA.out _).mono fun _ _ h => ⟨h.1, h.2.symm⟩))) | ((go_at_call 16; exact Calls.quiet_of_same ((WA.out _).mono fun _ _ h => ⟨h.1, h.2.symm⟩)))))
  go_wp2_with fail
  go_ret
  exact ⟨rfl, mayT_below _ _ _⟩

set_option maxHeartbeats 2000000 in
set_option maxRecDepth 100000 in
theorem roT_n2b (p : Int) (s : ByteArray) (x : Nat) (g : (FloatKind.f64.format.order x 0 == some .eq) = true) (h : s.toList.isEmpty = true) : Calls Tryd.prog 48 #[.agg #[.int .u8 2, .int .i64 p, .string s, .float .f64 x]] w fun e w' => e = .returned (.bool false) ∧ Below w.heap.size w w' := by
  go_enter Tryd.func48, Tryd.ntmps48
  go_wp2_with fail
  go_quiet ((first | ((go_at_call 59; exact Calls.quiet_of_same ((KA.out _).mono fun _ _ h => ⟨h.1, h.2.symm⟩))) | ((go_at_call 60; exact Calls.quiet_of_same ((RA.out _).mono fun _ _ h => ⟨h.1, h.2.symm⟩))) | ((go_at_call 16; exact Calls.quiet_of_same ((WA.out _).mono fun _ _ h => ⟨h.1, h.2.symm⟩)))))
  go_wp2_with fail
  go_ret
  exact ⟨rfl, mayT_below _ _ _⟩

set_option maxHeartbeats 2000000 in
set_option maxRecDepth 100000 in
theorem roT_n2c (p : Int) (s : ByteArray) (x : Nat) (g : (FloatKind.f64.format.order x 0 == some .eq) = true) (h : s.toList.isEmpty = false) (hz : decide ((s.size : Int) ≤ 4096) = false) : Calls Tryd.prog 48 #[.agg #[.int .u8 2, .int .i64 p, .string s, .float .f64 x]] w fun e w' => e = .returned (.bool false) ∧ Below w.heap.size w w' := by
  go_enter Tryd.func48, Tryd.ntmps48
  go_wp2_with fail
  go_quiet ((first | ((go_at_call 59; exact Calls.quiet_of_same ((KA.out _).mono fun _ _ h => ⟨h.1, h.2.symm⟩))) | ((go_at_call 60; exact Calls.quiet_of_same ((RA.out _).mono fun _ _ h => ⟨h.1, h.2.symm⟩))) | ((go_at_call 16; exact Calls.quiet_of_same ((WA.out _).mono fun _ _ h => ⟨h.1, h.2.symm⟩)))))
  go_wp2_with fail
  go_ret
  exact ⟨rfl, mayT_below _ _ _⟩

set_option maxHeartbeats 2000000 in
set_option maxRecDepth 100000 in
theorem roT_n2d (p : Int) (s : ByteArray) (x : Nat) (g : (FloatKind.f64.format.order x 0 == some .eq) = true) (h : s.toList.isEmpty = false) (hz : decide ((s.size : Int) ≤ 4096) = true) (h0 : 0 < s.size) (hk : isLet s[0] = false) : Calls Tryd.prog 48 #[.agg #[.int .u8 2, .int .i64 p, .string s, .float .f64 x]] w fun e w' => e = .returned (.bool false) ∧ Below w.heap.size w w' := by
  have KA0 := hidB (fun W => first_any s[0] W)
  have RA := hidB (fun W => named0_any s (by have := of_decide_eq_true hz; omega) W)
  have WA0 := hidB (fun W => refWord_any s (by have := of_decide_eq_true hz; omega) W)
  rw [hk] at KA0
  have KA := hidB KA0.out
  clear KA0 hk
  have WA := hidB WA0.out
  go_enter Tryd.func48, Tryd.ntmps48
  go_wp2_with fail
  go_quiet ((first | ((go_at_call 59; exact Calls.quiet_of_same ((KA.out _).mono fun _ _ h => ⟨h.1, h.2.symm⟩))) | ((go_at_call 60; exact Calls.quiet_of_same ((RA.out _).mono fun _ _ h => ⟨h.1, h.2.symm⟩))) | ((go_at_call 16; exact Calls.quiet_of_same ((WA.out _).mono fun _ _ h => ⟨h.1, h.2.symm⟩)))))
  go_wp2_with fail
  go_ret
  exact ⟨rfl, mayT_below _ _ _⟩

set_option maxHeartbeats 2000000 in
set_option maxRecDepth 100000 in
theorem roT_n2e (p : Int) (s : ByteArray) (x : Nat) (g : (FloatKind.f64.format.order x 0 == some .eq) = true) (h : s.toList.isEmpty = false) (hz : decide ((s.size : Int) ≤ 4096) = true) (h0 : 0 < s.size) (hk : isLet s[0] = true) (hr : (((runN s.data.toList : Nat) : Int) == (s.size : Int)) = false) : Calls Tryd.prog 48 #[.agg #[.int .u8 2, .int .i64 p, .string s, .float .f64 x]] w fun e w' => e = .returned (.bool false) ∧ Below w.heap.size w w' := by
  have KA0 := hidB (fun W => first_any s[0] W)
  have RA := hidB (fun W => named0_any s (by have := of_decide_eq_true hz; omega) W)
  have WA0 := hidB (fun W => refWord_any s (by have := of_decide_eq_true hz; omega) W)
  rw [hk] at KA0
  have KA := hidB KA0.out
  clear KA0 hk
  have WA := hidB WA0.out
  go_enter Tryd.func48, Tryd.ntmps48
  go_wp2_with fail
  go_quiet ((first | ((go_at_call 59; exact Calls.quiet_of_same ((KA.out _).mono fun _ _ h => ⟨h.1, h.2.symm⟩))) | ((go_at_call 60; exact Calls.quiet_of_same ((RA.out _).mono fun _ _ h => ⟨h.1, h.2.symm⟩))) | ((go_at_call 16; exact Calls.quiet_of_same ((WA.out _).mono fun _ _ h => ⟨h.1, h.2.symm⟩)))))
  go_wp2_with fail
  go_ret
  exact ⟨rfl, mayT_below _ _ _⟩

set_option maxHeartbeats 2000000 in
set_option maxRecDepth 100000 in
theorem roT_n2f (p : Int) (s : ByteArray) (x : Nat) (g : (FloatKind.f64.format.order x 0 == some .eq) = true) (h : s.toList.isEmpty = false) (hz : decide ((s.size : Int) ≤ 4096) = true) (h0 : 0 < s.size) (hk : isLet s[0] = true) (hr : (((runN s.data.toList : Nat) : Int) == (s.size : Int)) = true) (wb : Bool) (hw : wordB s.data.toList = wb) : Calls Tryd.prog 48 #[.agg #[.int .u8 2, .int .i64 p, .string s, .float .f64 x]] w fun e w' => e = .returned (.bool (wb == true)) ∧ Below w.heap.size w w' := by
  have KA0 := hidB (fun W => first_any s[0] W)
  have RA := hidB (fun W => named0_any s (by have := of_decide_eq_true hz; omega) W)
  have WA0 := hidB (fun W => refWord_any s (by have := of_decide_eq_true hz; omega) W)
  rw [hk] at KA0
  have KA := hidB KA0.out
  clear KA0 hk
  rw [hw] at WA0
  have WA := hidB WA0.out
  clear WA0 hw
  cases wb
  all_goals
    go_enter Tryd.func48, Tryd.ntmps48
    go_wp2_with fail
    go_quiet ((first | ((go_at_call 59; exact Calls.quiet_of_same ((KA.out _).mono fun _ _ h => ⟨h.1, h.2.symm⟩))) | ((go_at_call 60; exact Calls.quiet_of_same ((RA.out _).mono fun _ _ h => ⟨h.1, h.2.symm⟩))) | ((go_at_call 16; exact Calls.quiet_of_same ((WA.out _).mono fun _ _ h => ⟨h.1, h.2.symm⟩)))))
    go_wp2_with fail
    go_ret
    exact ⟨rfl, mayT_below _ _ _⟩

end

theorem refOne_any (t : TI) (hs : t.text.size ≤ 140737488351232) (w : World) : Calls Tryd.prog 48 #[t.agg] w fun e w' => e = .returned (.bool (mayB t)) ∧ Below w.heap.size w w' := by
  obtain ⟨k, p, s, x⟩ := t
  simp only [TI.agg] at hs ⊢
  by_cases h3 : k = 3
  · subst h3
    rw [mayB_num rfl]
    simp only
    cases hE : s.data.toList.isEmpty
    · exact roT_num0 w p s x (by rw [isE, hE])
    · cases hg : ge0 x
      · cases hq : (FloatKind.f64.format.order x x == some .eq)
        · exact roT_num1 w p s x (by rw [isE, hE]) hq
        · exact roT_num2 w p s x (by rw [isE, hE]) hq hg
      · simpa using roT_num3 w p s x (by rw [isE, hE]) (ge0_self hg) hg
  by_cases h4 : k = 4
  · subst h4
    rw [mayB_str rfl]
    simp only
    cases hg : eq0 x
    · exact roT_str0 w p s x hg
    · exact roT_str1 w p s x hg _ (le4096 s)
  by_cases h5 : k = 5
  · subst h5
    rw [mayB_sign rfl]
    simp only
    cases hg : eq0 x
    · exact roT_sign0 w p s x hg
    · exact roT_sign1 w p s x (by omega) hg
  by_cases h12 : k = 1 ∨ k = 2
  · rcases h12 with rfl | rfl
    · exact name_parts (C := fun k b => Calls Tryd.prog 48 #[.agg #[.int .u8 k, .int .i64 p, .string s, .float .f64 x]] w fun e w' => e = .returned (.bool b) ∧ Below w.heap.size w w') (Or.inl rfl)
        (fun h => roT_n1a w p s x h) (fun h h2 => roT_n1b w p s x h h2) (fun h h2 h3 => roT_n1c w p s x h h2 h3) (fun h h2 h3 h0 h4 => roT_n1d w p s x h h2 h3 h0 h4)
        (fun h h2 h3 h0 h4 h5 => roT_n1e w p s x h h2 h3 h0 h4 h5) (fun h h2 h3 h0 h4 h5 => roT_n1f w p s x h h2 h3 h0 h4 h5 _ rfl) p
    · exact name_parts (C := fun k b => Calls Tryd.prog 48 #[.agg #[.int .u8 k, .int .i64 p, .string s, .float .f64 x]] w fun e w' => e = .returned (.bool b) ∧ Below w.heap.size w w') (Or.inr rfl)
        (fun h => roT_n2a w p s x h) (fun h h2 => roT_n2b w p s x h h2) (fun h h2 h3 => roT_n2c w p s x h h2 h3) (fun h h2 h3 h0 h4 => roT_n2d w p s x h h2 h3 h0 h4)
        (fun h h2 h3 h0 h4 h5 => roT_n2e w p s x h h2 h3 h0 h4 h5) (fun h h2 h3 h0 h4 h5 => roT_n2f w p s x h h2 h3 h0 h4 h5 _ rfl) p
  · rw [mayB_other (t := ⟨k, p, s, x⟩) (by simp only; omega) (by simp only; omega) h3 h4 h5]
    exact roT_other w p s x k (by simp; omega) (by simp; omega) (by simpa using h3) (by simpa using h4) (by simpa using h5)

end Go.Proofs.YtkomjmgmancinaaDoor
