/-
  The walks of the host's names and values, the program's and the reference's.
-/
import Derived.Test.YtchpkopeblgifaaNumberWalk
import Derived.Test.YtchpkopeblgifaaHosts
import Derived.Test.YtchpkopeblgifaaSameWalk
namespace Go.Proofs.Ytchpkopeblgifaa
open Go.RowKit

/-- A value as the walk has it. -/
abbrev val (k : Int) (x : Nat) (s : ByteArray) (r : Int) : Value := .agg #[.int .u8 k, .float .f64 x, .string s, .int .i64 r]

theorem kind_any (n : Int) (w : World) : Calls Try.prog 50 #[.int .i64 n] w fun e w' => e = .returned (.int .u8 (kd n)) ∧ w = w' := by
  have h : (14 ≤ n ∧ n < 20) ∨ n = 1 ∨ (20 ≤ n) ∨ (n < 14 ∧ (n == 1) = false) := by
    rw [beq_eq_false_iff_ne]; omega
  rcases h with ⟨h1, h2⟩ | rfl | h | ⟨h1, h2⟩
  · have e : kd n = 8 := by unfold kd; rw [if_pos ⟨h1, h2⟩]
    rw [e]; clear e
    go_enter Try.func50, Try.ntmps50
    go_wp2
    go_ret
    exact ⟨rfl, rfl⟩
  · go_enter Try.func50, Try.ntmps50
    go_wp2
    go_ret
    exact ⟨rfl, rfl⟩
  · have e : kd n = 7 := by unfold kd; rw [if_neg (by omega), if_pos (Or.inr h)]
    rw [e]; clear e
    have h1 : (n == 1) = false := by rw [beq_eq_false_iff_ne]; omega
    go_enter Try.func50, Try.ntmps50
    go_wp2
    go_ret
    exact ⟨rfl, rfl⟩
  · have e : kd n = 6 := by rw [beq_eq_false_iff_ne] at h2; unfold kd; rw [if_neg (by omega), if_neg (by omega)]
    rw [e]; clear e
    go_enter Try.func50, Try.ntmps50
    go_wp2
    go_ret
    exact ⟨rfl, rfl⟩

theorem can_any (n : Int) (w : World) : Calls Try.prog 51 #[.int .i64 n] w fun e w' => e = .returned (.int .u8 (kd n)) ∧ w = w' := by
  have h : (14 ≤ n ∧ n < 20) ∨ n = 1 ∨ (20 ≤ n) ∨ (n < 14 ∧ (n == 1) = false) := by
    rw [beq_eq_false_iff_ne]; omega
  rcases h with ⟨h1, h2⟩ | rfl | h | ⟨h1, h2⟩
  · have e : kd n = 8 := by unfold kd; rw [if_pos ⟨h1, h2⟩]
    rw [e]; clear e
    go_enter Try.func51, Try.ntmps51
    go_wp2
    go_ret
    exact ⟨rfl, rfl⟩
  · go_enter Try.func51, Try.ntmps51
    go_wp2
    go_ret
    exact ⟨rfl, rfl⟩
  · have e : kd n = 7 := by unfold kd; rw [if_neg (by omega), if_pos (Or.inr h)]
    rw [e]; clear e
    have h1 : (n == 1) = false := by rw [beq_eq_false_iff_ne]; omega
    go_enter Try.func51, Try.ntmps51
    go_wp2
    go_ret
    exact ⟨rfl, rfl⟩
  · have e : kd n = 6 := by rw [beq_eq_false_iff_ne] at h2; unfold kd; rw [if_neg (by omega), if_neg (by omega)]
    rw [e]; clear e
    go_enter Try.func51, Try.ntmps51
    go_wp2
    go_ret
    exact ⟨rfl, rfl⟩

theorem object_any (n : Int) (w : World) : Calls Try.prog 30 #[.int .i64 n] w fun e w' => e = .returned (val (kd n) 0 ⟨#[]⟩ n) ∧ Below w.heap.size w w' := by
  go_enter Try.func30, Try.ntmps30
  go_wp2_with (go_at_call 50; refine (kind_any _ _).mono ?_; rintro e w' ⟨rfl, rfl⟩)
  exact bodyPost_ret (v := val (kd n) 0 ⟨#[]⟩ n) (by simp [results, Try.results30, go_sem]) rfl ⟨rfl, (Below.refl _ _).alloc (Nat.le_refl _) _⟩

theorem refObject_any (n : Int) (w : World) : Calls Try.prog 35 #[.int .i64 n] w fun e w' => e = .returned (val (kd n) 0 ⟨#[]⟩ n) ∧ Below w.heap.size w w' := by
  go_enter Try.func35, Try.ntmps35
  go_wp2_with (go_at_call 51; refine (can_any _ _).mono ?_; rintro e w' ⟨rfl, rfl⟩)
  exact bodyPost_ret (v := val (kd n) 0 ⟨#[]⟩ n) (by simp [results, Try.results35, go_sem]) rfl ⟨rfl, (Below.refl _ _).alloc (Nat.le_refl _) _⟩

theorem num_any (x : Nat) (w : World) :
    Calls Try.prog 28 #[.float .f64 x] w fun e w' => e = .returned (val 3 x ⟨#[]⟩ 0) ∧ Below w.heap.size w w' := by
  go_enter Try.func28, Try.ntmps28
  go_wp2
  exact bodyPost_ret (v := val 3 x ⟨#[]⟩ 0) (by simp [results, Try.results28, go_sem]) rfl ⟨rfl, (Below.refl _ _).alloc (Nat.le_refl _) _⟩

theorem refNum_any (x : Nat) (w : World) :
    Calls Try.prog 32 #[.float .f64 x] w fun e w' => e = .returned (val 3 x ⟨#[]⟩ 0) ∧ Below w.heap.size w w' := by
  go_enter Try.func32, Try.ntmps32
  go_wp2
  exact bodyPost_ret (v := val 3 x ⟨#[]⟩ 0) (by simp [results, Try.results32, go_sem]) rfl ⟨rfl, (Below.refl _ _).alloc (Nat.le_refl _) _⟩

/-- Two values that differ in their floats alone, and these are one to every look. -/
theorem alike_of (k : Int) (x y : Nat) (s : ByteArray) (r : Int) (h : Fl.same x y = true) (w : World) :
    Calls Try.prog 13 #[val k x s r, val k y s r] w fun e w' => e = .returned (.bool true) ∧ Below w.heap.size w w' := by
  have H := hidN h
  clear h
  go_enter Try.func13, Try.ntmps13
  go_wp2_with (go_at_call 36; refine (same_any _ _ _).mono ?_; rintro e w' ⟨rfl, rfl⟩; rw [H.out])
  go_ret
  exact ⟨rfl, ((Below.refl _ _).alloc (Nat.le_refl _) _).alloc (by simp) _⟩

theorem run_frombits (a : Int) (w : World) : (callFunc 49 #[.int .u64 a]).run Try.prog w = .ok (.value (.float .f64 a.toNat)) w := by kernel_rfl

theorem nan_any (w : World) : Calls Try.prog 29 #[] w fun e w' => e = .returned (.float .f64 9221120237041090561) ∧ w = w' := by
  have h2 := run_frombits
  go_enter Try.func29, Try.ntmps29
  go_wp2
  go_ret
  exact ⟨rfl, rfl⟩

theorem refNan_any (w : World) : Calls Try.prog 33 #[] w fun e w' => (∃ r, e = .returned (.float .f64 r) ∧ Fl.isNaN r = true) ∧ Below w.heap.size w w' := by
  obtain ⟨r, hr, h⟩ := run_div_0_0 (P := Try.prog) 31 w
  have Hr := hidN hr
  clear hr
  go_enter Try.func33, Try.ntmps33
  go_wp2
  go_ret
  exact ⟨⟨r, rfl, Hr.out⟩, (Below.refl _ _).drew⟩

end Go.Proofs.Ytchpkopeblgifaa
