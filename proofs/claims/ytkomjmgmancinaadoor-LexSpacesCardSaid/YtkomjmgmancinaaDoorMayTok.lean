/-
  The walk of lex.may.
-/
import Derived.Test.YtkomjmgmancinaaDoorLxR
import Derived.Test.YtkomjmgmancinaaDoorLxE
import Derived.Test.YtkomjmgmancinaaDoorLxD
import Derived.Deep.QuietTactic
import Derived.BigQuiet
namespace Go.Proofs.YtkomjmgmancinaaDoor
open Go.RowKit

theorem Mx.alloc {w : World} {o : Obj} (h : Mx w) : Mx (w.alloc o) := mx_below h ((Below.refl _ _).alloc (Nat.le_refl _) _)
theorem Mx.drewN {w : World} (h : Mx w) (n : Nat) : Mx (w.drewN n) := h
theorem nameB_head {l : List UInt8} (h : 0 < l.length) : nameB l = (isLet l[0] && decide (runN l = l.length)) := by
  unfold nameB
  cases l with
  | nil => simp at h
  | cons c r => simp
theorem kind_one (b : UInt8) : (((kindN b : Nat) : Int) == 1) = isLet b := by
  unfold kindN
  cases h : isLet b
  · simp only [Bool.false_eq_true, if_false]
    cases isDig b <;> cases isQu b <;> rfl
  · rfl
theorem mayT_below (w : World) (o : Obj) (n : Nat) : Below w.heap.size w ((w.alloc o).drewN n) := by
  have h : Below w.heap.size w (w.alloc o) := (Below.refl _ _).alloc (Nat.le_refl _) _
  exact ⟨h.os, h.tape, h.output, h.size, h.block⟩

section
variable (w : World)
set_option maxHeartbeats 2000000 in
set_option maxRecDepth 100000 in
theorem mayT_num0 (p : Int) (s : ByteArray) (x : Nat) (h : s.toList.isEmpty = false) : Calls Tryd.prog 23 #[.agg #[.int .u8 3, .int .i64 p, .string s, .float .f64 x]] w fun e w' => e = .returned (.bool false) ∧ Below w.heap.size w w' := by
  go_enter Tryd.func23, Tryd.ntmps23
  go_wp2_with fail
  go_ret
  exact ⟨rfl, box_one _ _⟩

set_option maxHeartbeats 2000000 in
set_option maxRecDepth 100000 in
theorem mayT_num1 (p : Int) (s : ByteArray) (x : Nat) (h : s.toList.isEmpty = true) (g : (FloatKind.f64.format.order x 0 == some .gt || FloatKind.f64.format.order x 0 == some .eq) = false) : Calls Tryd.prog 23 #[.agg #[.int .u8 3, .int .i64 p, .string s, .float .f64 x]] w fun e w' => e = .returned (.bool false) ∧ Below w.heap.size w w' := by
  go_enter Tryd.func23, Tryd.ntmps23
  go_wp2_with fail
  go_ret
  exact ⟨rfl, box_one _ _⟩

set_option maxHeartbeats 2000000 in
set_option maxRecDepth 100000 in
theorem mayT_num2 (p : Int) (s : ByteArray) (x : Nat) (h : s.toList.isEmpty = true) (g : (FloatKind.f64.format.order x 0 == some .gt || FloatKind.f64.format.order x 0 == some .eq) = true) : Calls Tryd.prog 23 #[.agg #[.int .u8 3, .int .i64 p, .string s, .float .f64 x]] w fun e w' => e = .returned (.bool (Fl.may x)) ∧ Below w.heap.size w w' := by
  have MA := hidB (fun W => may_any x W)
  go_enter Tryd.func23, Tryd.ntmps23
  go_wp2_with fail
  refine (MA.out _).mono ?_; rintro e w1 ⟨rfl, rfl⟩
  go_wp2_with fail
  go_ret
  exact ⟨rfl, box_one _ _⟩

set_option maxHeartbeats 2000000 in
set_option maxRecDepth 100000 in
theorem mayT_str0 (p : Int) (s : ByteArray) (x : Nat) (g : (FloatKind.f64.format.order x 0 == some .eq) = false) : Calls Tryd.prog 23 #[.agg #[.int .u8 4, .int .i64 p, .string s, .float .f64 x]] w fun e w' => e = .returned (.bool false) ∧ Below w.heap.size w w' := by
  go_enter Tryd.func23, Tryd.ntmps23
  go_wp2_with fail
  go_ret
  exact ⟨rfl, box_one _ _⟩

set_option maxHeartbeats 2000000 in
set_option maxRecDepth 100000 in
theorem mayT_str1 (p : Int) (s : ByteArray) (x : Nat) (g : (FloatKind.f64.format.order x 0 == some .eq) = true) (b : Bool) (hb : decide ((s.size : Int) ≤ 4096) = b) : Calls Tryd.prog 23 #[.agg #[.int .u8 4, .int .i64 p, .string s, .float .f64 x]] w fun e w' => e = .returned (.bool b) ∧ Below w.heap.size w w' := by
  cases b
  all_goals
    go_enter Tryd.func23, Tryd.ntmps23
    go_wp2_with fail
    go_ret
    exact ⟨rfl, box_one _ _⟩

set_option maxHeartbeats 2000000 in
set_option maxRecDepth 100000 in
theorem mayT_sign0 (p : Int) (s : ByteArray) (x : Nat) (g : (FloatKind.f64.format.order x 0 == some .eq) = false) : Calls Tryd.prog 23 #[.agg #[.int .u8 5, .int .i64 p, .string s, .float .f64 x]] w fun e w' => e = .returned (.bool false) ∧ Below w.heap.size w w' := by
  go_enter Tryd.func23, Tryd.ntmps23
  go_wp2_with fail
  go_ret
  exact ⟨rfl, box_one _ _⟩

set_option maxHeartbeats 2000000 in
set_option maxRecDepth 100000 in
theorem mayT_sign1 (p : Int) (s : ByteArray) (x : Nat) (hs : s.size ≤ 9223372036854775800) (hm : Mx w) (g : (FloatKind.f64.format.order x 0 == some .eq) = true) : Calls Tryd.prog 23 #[.agg #[.int .u8 5, .int .i64 p, .string s, .float .f64 x]] w fun e w' => e = .returned (.bool (signB s.data.toList)) ∧ Below w.heap.size w w' := by
  have SA := hidB (fun W h => signP_any s hs W h)
  have M := hidB hm
  clear hm
  go_enter Tryd.func23, Tryd.ntmps23
  go_wp2_with fail
  refine (SA.out _ M.out.alloc).mono ?_; rintro e w1 ⟨rfl, rfl⟩
  go_wp2_with fail
  go_ret
  exact ⟨rfl, box_one _ _⟩

set_option maxHeartbeats 2000000 in
set_option maxRecDepth 100000 in
theorem mayT_other (p : Int) (s : ByteArray) (x : Nat) (k : Int) (h1 : (k == 1) = false) (h2 : (k == 2) = false) (h3 : (k == 3) = false) (h4 : (k == 4) = false) (h5 : (k == 5) = false) : Calls Tryd.prog 23 #[.agg #[.int .u8 k, .int .i64 p, .string s, .float .f64 x]] w fun e w' => e = .returned (.bool false) ∧ Below w.heap.size w w' := by
  go_enter Tryd.func23, Tryd.ntmps23
  go_wp2_with fail
  go_ret
  exact ⟨rfl, box_one _ _⟩

set_option maxHeartbeats 2000000 in
set_option maxRecDepth 100000 in
theorem mayT_n1a (p : Int) (s : ByteArray) (x : Nat) (g : (FloatKind.f64.format.order x 0 == some .eq) = false) : Calls Tryd.prog 23 #[.agg #[.int .u8 1, .int .i64 p, .string s, .float .f64 x]] w fun e w' => e = .returned (.bool false) ∧ Below w.heap.size w w' := by
  go_enter Tryd.func23, Tryd.ntmps23
  go_wp2_with fail
  go_quiet ((first | ((go_at_call 43; exact Calls.quiet_of_same ((KA.out _).mono fun _ _ h => ⟨h.1, h.2.symm⟩))) | ((go_at_call 44; exact Calls.quiet_of_same ((RA.out _).mono fun _ _ h => ⟨h.1, h.2.symm⟩))) | ((go_at_call 15; exact Calls.quiet_of_same ((WA.out _ (Mx.drewN M.out.alloc _)).mono fun _ _ h => ⟨h.1, h.2.symm⟩)))))
  go_wp2_with fail
  go_ret
  exact ⟨rfl, mayT_below _ _ _⟩

set_option maxHeartbeats 2000000 in
set_option maxRecDepth 100000 in
theorem mayT_n1b (p : Int) (s : ByteArray) (x : Nat) (g : (FloatKind.f64.format.order x 0 == some .eq) = true) (h : s.toList.isEmpty = true) : Calls Tryd.prog 23 #[.agg #[.int .u8 1, .int .i64 p, .string s, .float .f64 x]] w fun e w' => e = .returned (.bool false) ∧ Below w.heap.size w w' := by
  go_enter Tryd.func23, Tryd.ntmps23
  go_wp2_with fail
  go_quiet ((first | ((go_at_call 43; exact Calls.quiet_of_same ((KA.out _).mono fun _ _ h => ⟨h.1, h.2.symm⟩))) | ((go_at_call 44; exact Calls.quiet_of_same ((RA.out _).mono fun _ _ h => ⟨h.1, h.2.symm⟩))) | ((go_at_call 15; exact Calls.quiet_of_same ((WA.out _ (Mx.drewN M.out.alloc _)).mono fun _ _ h => ⟨h.1, h.2.symm⟩)))))
  go_wp2_with fail
  go_ret
  exact ⟨rfl, mayT_below _ _ _⟩

set_option maxHeartbeats 2000000 in
set_option maxRecDepth 100000 in
theorem mayT_n1c (p : Int) (s : ByteArray) (x : Nat) (g : (FloatKind.f64.format.order x 0 == some .eq) = true) (h : s.toList.isEmpty = false) (hz : decide ((s.size : Int) ≤ 4096) = false) : Calls Tryd.prog 23 #[.agg #[.int .u8 1, .int .i64 p, .string s, .float .f64 x]] w fun e w' => e = .returned (.bool false) ∧ Below w.heap.size w w' := by
  go_enter Tryd.func23, Tryd.ntmps23
  go_wp2_with fail
  go_quiet ((first | ((go_at_call 43; exact Calls.quiet_of_same ((KA.out _).mono fun _ _ h => ⟨h.1, h.2.symm⟩))) | ((go_at_call 44; exact Calls.quiet_of_same ((RA.out _).mono fun _ _ h => ⟨h.1, h.2.symm⟩))) | ((go_at_call 15; exact Calls.quiet_of_same ((WA.out _ (Mx.drewN M.out.alloc _)).mono fun _ _ h => ⟨h.1, h.2.symm⟩)))))
  go_wp2_with fail
  go_ret
  exact ⟨rfl, mayT_below _ _ _⟩

set_option maxHeartbeats 2000000 in
set_option maxRecDepth 100000 in
theorem mayT_n1d (p : Int) (s : ByteArray) (x : Nat) (g : (FloatKind.f64.format.order x 0 == some .eq) = true) (h : s.toList.isEmpty = false) (hz : decide ((s.size : Int) ≤ 4096) = true) (hm : Mx w) (h0 : 0 < s.size) (hk : (((kindN s[0] : Nat) : Int) == 1) = false) : Calls Tryd.prog 23 #[.agg #[.int .u8 1, .int .i64 p, .string s, .float .f64 x]] w fun e w' => e = .returned (.bool false) ∧ Below w.heap.size w w' := by
  have KA := hidB (fun W => kind_any s[0] W)
  have RA := hidB (fun W => run_any s (by have := of_decide_eq_true hz; omega) W)
  have WA := hidB (fun W h => wordP_any s (by have := of_decide_eq_true hz; omega) W h)
  have M := hidB hm
  clear hm
  go_enter Tryd.func23, Tryd.ntmps23
  go_wp2_with fail
  go_quiet ((first | ((go_at_call 43; exact Calls.quiet_of_same ((KA.out _).mono fun _ _ h => ⟨h.1, h.2.symm⟩))) | ((go_at_call 44; exact Calls.quiet_of_same ((RA.out _).mono fun _ _ h => ⟨h.1, h.2.symm⟩))) | ((go_at_call 15; exact Calls.quiet_of_same ((WA.out _ (Mx.drewN M.out.alloc _)).mono fun _ _ h => ⟨h.1, h.2.symm⟩)))))
  go_wp2_with fail
  go_ret
  exact ⟨rfl, mayT_below _ _ _⟩

set_option maxHeartbeats 2000000 in
set_option maxRecDepth 100000 in
theorem mayT_n1e (p : Int) (s : ByteArray) (x : Nat) (g : (FloatKind.f64.format.order x 0 == some .eq) = true) (h : s.toList.isEmpty = false) (hz : decide ((s.size : Int) ≤ 4096) = true) (hm : Mx w) (h0 : 0 < s.size) (hk : (((kindN s[0] : Nat) : Int) == 1) = true) (hr : (((runN s.data.toList : Nat) : Int) == (s.size : Int)) = false) : Calls Tryd.prog 23 #[.agg #[.int .u8 1, .int .i64 p, .string s, .float .f64 x]] w fun e w' => e = .returned (.bool false) ∧ Below w.heap.size w w' := by
  have KA := hidB (fun W => kind_any s[0] W)
  have RA := hidB (fun W => run_any s (by have := of_decide_eq_true hz; omega) W)
  have WA := hidB (fun W h => wordP_any s (by have := of_decide_eq_true hz; omega) W h)
  have M := hidB hm
  clear hm
  go_enter Tryd.func23, Tryd.ntmps23
  go_wp2_with fail
  go_quiet ((first | ((go_at_call 43; exact Calls.quiet_of_same ((KA.out _).mono fun _ _ h => ⟨h.1, h.2.symm⟩))) | ((go_at_call 44; exact Calls.quiet_of_same ((RA.out _).mono fun _ _ h => ⟨h.1, h.2.symm⟩))) | ((go_at_call 15; exact Calls.quiet_of_same ((WA.out _ (Mx.drewN M.out.alloc _)).mono fun _ _ h => ⟨h.1, h.2.symm⟩)))))
  go_wp2_with fail
  go_ret
  exact ⟨rfl, mayT_below _ _ _⟩

set_option maxHeartbeats 2000000 in
set_option maxRecDepth 100000 in
theorem mayT_n1f (p : Int) (s : ByteArray) (x : Nat) (g : (FloatKind.f64.format.order x 0 == some .eq) = true) (h : s.toList.isEmpty = false) (hz : decide ((s.size : Int) ≤ 4096) = true) (hm : Mx w) (h0 : 0 < s.size) (hk : (((kindN s[0] : Nat) : Int) == 1) = true) (hr : (((runN s.data.toList : Nat) : Int) == (s.size : Int)) = true) (wb : Bool) (hw : wordB s.data.toList = wb) : Calls Tryd.prog 23 #[.agg #[.int .u8 1, .int .i64 p, .string s, .float .f64 x]] w fun e w' => e = .returned (.bool (wb == false)) ∧ Below w.heap.size w w' := by
  have KA := hidB (fun W => kind_any s[0] W)
  have RA := hidB (fun W => run_any s (by have := of_decide_eq_true hz; omega) W)
  have WA0 := hidB (fun W h => wordP_any s (by have := of_decide_eq_true hz; omega) W h)
  rw [hw] at WA0
  have WA := hidB WA0.out
  clear WA0 hw
  have M := hidB hm
  clear hm
  cases wb
  all_goals
    go_enter Tryd.func23, Tryd.ntmps23
    go_wp2_with fail
    go_quiet ((first | ((go_at_call 43; exact Calls.quiet_of_same ((KA.out _).mono fun _ _ h => ⟨h.1, h.2.symm⟩))) | ((go_at_call 44; exact Calls.quiet_of_same ((RA.out _).mono fun _ _ h => ⟨h.1, h.2.symm⟩))) | ((go_at_call 15; exact Calls.quiet_of_same ((WA.out _ (Mx.drewN M.out.alloc _)).mono fun _ _ h => ⟨h.1, h.2.symm⟩)))))
    go_wp2_with fail
    go_ret
    exact ⟨rfl, mayT_below _ _ _⟩

set_option maxHeartbeats 2000000 in
set_option maxRecDepth 100000 in
theorem mayT_n2a (p : Int) (s : ByteArray) (x : Nat) (g : (FloatKind.f64.format.order x 0 == some .eq) = false) : Calls Tryd.prog 23 #[.agg #[.int .u8 2, .int .i64 p, .string s, .float .f64 x]] w fun e w' => e = .returned (.bool false) ∧ Below w.heap.size w w' := by
  go_enter Tryd.func23, Tryd.ntmps23
  go_wp2_with fail
  go_quiet ((first | ((go_at_call 43; exact Calls.quiet_of_same ((KA.out _).mono fun _ _ h => ⟨h.1, h.2.symm⟩))) | ((go_at_call 44; exact Calls.quiet_of_same ((RA.out _).mono fun _ _ h => ⟨h.1, h.2.symm⟩))) | ((go_at_call 15; exact Calls.quiet_of_same ((WA.out _ (Mx.drewN M.out.alloc _)).mono fun _ _ h => ⟨h.1, h.2.symm⟩)))))
  go_wp2_with fail
  go_ret
  exact ⟨rfl, mayT_below _ _ _⟩

set_option maxHeartbeats 2000000 in
set_option maxRecDepth 100000 in
theorem mayT_n2b (p : Int) (s : ByteArray) (x : Nat) (g : (FloatKind.f64.format.order x 0 == some .eq) = true) (h : s.toList.isEmpty = true) : Calls Tryd.prog 23 #[.agg #[.int .u8 2, .int .i64 p, .string s, .float .f64 x]] w fun e w' => e = .returned (.bool false) ∧ Below w.heap.size w w' := by
  go_enter Tryd.func23, Tryd.ntmps23
  go_wp2_with fail
  go_quiet ((first | ((go_at_call 43; exact Calls.quiet_of_same ((KA.out _).mono fun _ _ h => ⟨h.1, h.2.symm⟩))) | ((go_at_call 44; exact Calls.quiet_of_same ((RA.out _).mono fun _ _ h => ⟨h.1, h.2.symm⟩))) | ((go_at_call 15; exact Calls.quiet_of_same ((WA.out _ (Mx.drewN M.out.alloc _)).mono fun _ _ h => ⟨h.1, h.2.symm⟩)))))
  go_wp2_with fail
  go_ret
  exact ⟨rfl, mayT_below _ _ _⟩

set_option maxHeartbeats 2000000 in
set_option maxRecDepth 100000 in
theorem mayT_n2c (p : Int) (s : ByteArray) (x : Nat) (g : (FloatKind.f64.format.order x 0 == some .eq) = true) (h : s.toList.isEmpty = false) (hz : decide ((s.size : Int) ≤ 4096) = false) : Calls Tryd.prog 23 #[.agg #[.int .u8 2, .int .i64 p, .string s, .float .f64 x]] w fun e w' => e = .returned (.bool false) ∧ Below w.heap.size w w' := by
  go_enter Tryd.func23, Tryd.ntmps23
  go_wp2_with fail
  go_quiet ((first | ((go_at_call 43; exact Calls.quiet_of_same ((KA.out _).mono fun _ _ h => ⟨h.1, h.2.symm⟩))) | ((go_at_call 44; exact Calls.quiet_of_same ((RA.out _).mono fun _ _ h => ⟨h.1, h.2.symm⟩))) | ((go_at_call 15; exact Calls.quiet_of_same ((WA.out _ (Mx.drewN M.out.alloc _)).mono fun _ _ h => ⟨h.1, h.2.symm⟩)))))
  go_wp2_with fail
  go_ret
  exact ⟨rfl, mayT_below _ _ _⟩

set_option maxHeartbeats 2000000 in
set_option maxRecDepth 100000 in
theorem mayT_n2d (p : Int) (s : ByteArray) (x : Nat) (g : (FloatKind.f64.format.order x 0 == some .eq) = true) (h : s.toList.isEmpty = false) (hz : decide ((s.size : Int) ≤ 4096) = true) (hm : Mx w) (h0 : 0 < s.size) (hk : (((kindN s[0] : Nat) : Int) == 1) = false) : Calls Tryd.prog 23 #[.agg #[.int .u8 2, .int .i64 p, .string s, .float .f64 x]] w fun e w' => e = .returned (.bool false) ∧ Below w.heap.size w w' := by
  have KA := hidB (fun W => kind_any s[0] W)
  have RA := hidB (fun W => run_any s (by have := of_decide_eq_true hz; omega) W)
  have WA := hidB (fun W h => wordP_any s (by have := of_decide_eq_true hz; omega) W h)
  have M := hidB hm
  clear hm
  go_enter Tryd.func23, Tryd.ntmps23
  go_wp2_with fail
  go_quiet ((first | ((go_at_call 43; exact Calls.quiet_of_same ((KA.out _).mono fun _ _ h => ⟨h.1, h.2.symm⟩))) | ((go_at_call 44; exact Calls.quiet_of_same ((RA.out _).mono fun _ _ h => ⟨h.1, h.2.symm⟩))) | ((go_at_call 15; exact Calls.quiet_of_same ((WA.out _ (Mx.drewN M.out.alloc _)).mono fun _ _ h => ⟨h.1, h.2.symm⟩)))))
  go_wp2_with fail
  go_ret
  exact ⟨rfl, mayT_below _ _ _⟩

set_option maxHeartbeats 2000000 in
set_option maxRecDepth 100000 in
theorem mayT_n2e (p : Int) (s : ByteArray) (x : Nat) (g : (FloatKind.f64.format.order x 0 == some .eq) = true) (h : s.toList.isEmpty = false) (hz : decide ((s.size : Int) ≤ 4096) = true) (hm : Mx w) (h0 : 0 < s.size) (hk : (((kindN s[0] : Nat) : Int) == 1) = true) (hr : (((runN s.data.toList : Nat) : Int) == (s.size : Int)) = false) : Calls Tryd.prog 23 #[.agg #[.int .u8 2, .int .i64 p, .string s, .float .f64 x]] w fun e w' => e = .returned (.bool false) ∧ Below w.heap.size w w' := by
  have KA := hidB (fun W => kind_any s[0] W)
  have RA := hidB (fun W => run_any s (by have := of_decide_eq_true hz; omega) W)
  have WA := hidB (fun W h => wordP_any s (by have := of_decide_eq_true hz; omega) W h)
  have M := hidB hm
  clear hm
  go_enter Tryd.func23, Tryd.ntmps23
  go_wp2_with fail
  go_quiet ((first | ((go_at_call 43; exact Calls.quiet_of_same ((KA.out _).mono fun _ _ h => ⟨h.1, h.2.symm⟩))) | ((go_at_call 44; exact Calls.quiet_of_same ((RA.out _).mono fun _ _ h => ⟨h.1, h.2.symm⟩))) | ((go_at_call 15; exact Calls.quiet_of_same ((WA.out _ (Mx.drewN M.out.alloc _)).mono fun _ _ h => ⟨h.1, h.2.symm⟩)))))
  go_wp2_with fail
  go_ret
  exact ⟨rfl, mayT_below _ _ _⟩

set_option maxHeartbeats 2000000 in
set_option maxRecDepth 100000 in
theorem mayT_n2f (p : Int) (s : ByteArray) (x : Nat) (g : (FloatKind.f64.format.order x 0 == some .eq) = true) (h : s.toList.isEmpty = false) (hz : decide ((s.size : Int) ≤ 4096) = true) (hm : Mx w) (h0 : 0 < s.size) (hk : (((kindN s[0] : Nat) : Int) == 1) = true) (hr : (((runN s.data.toList : Nat) : Int) == (s.size : Int)) = true) (wb : Bool) (hw : wordB s.data.toList = wb) : Calls Tryd.prog 23 #[.agg #[.int .u8 2, .int .i64 p, .string s, .float .f64 x]] w fun e w' => e = .returned (.bool (wb == true)) ∧ Below w.heap.size w w' := by
  have KA := hidB (fun W => kind_any s[0] W)
  have RA := hidB (fun W => run_any s (by have := of_decide_eq_true hz; omega) W)
  have WA0 := hidB (fun W h => wordP_any s (by have := of_decide_eq_true hz; omega) W h)
  rw [hw] at WA0
  have WA := hidB WA0.out
  clear WA0 hw
  have M := hidB hm
  clear hm
  cases wb
  all_goals
    go_enter Tryd.func23, Tryd.ntmps23
    go_wp2_with fail
    go_quiet ((first | ((go_at_call 43; exact Calls.quiet_of_same ((KA.out _).mono fun _ _ h => ⟨h.1, h.2.symm⟩))) | ((go_at_call 44; exact Calls.quiet_of_same ((RA.out _).mono fun _ _ h => ⟨h.1, h.2.symm⟩))) | ((go_at_call 15; exact Calls.quiet_of_same ((WA.out _ (Mx.drewN M.out.alloc _)).mono fun _ _ h => ⟨h.1, h.2.symm⟩)))))
    go_wp2_with fail
    go_ret
    exact ⟨rfl, mayT_below _ _ _⟩

end

end Go.Proofs.YtkomjmgmancinaaDoor
