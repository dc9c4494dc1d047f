/-
  The walks of value.Num, Str, Bool, of the reference's own, of Alike where both values are one, and of the law.
-/
import Derived.Test.YtecadaoncpminaaSameWalk
import Derived.Test.YtecadaoncpminaaLaw
namespace Go.Proofs.Ytecadaoncpminaa
open Go.RowKit

/-- A value as the walk has it. -/
abbrev val (k : Int) (x : Nat) (s : ByteArray) (r : Int) : Value := .agg #[.int .u8 k, .float .f64 x, .string s, .int .i64 r]

theorem num_any (x : Nat) (w : World) :
    Calls Try.prog 5 #[.float .f64 x] w fun e w' => e = .returned (val 3 x ⟨#[]⟩ 0) ∧ Below w.heap.size w w' := by
  go_enter Try.func5, Try.ntmps5
  go_wp2
  exact bodyPost_ret (v := val 3 x ⟨#[]⟩ 0) (by simp [results, Try.results5, go_sem]) rfl ⟨rfl, (Below.refl _ _).alloc (Nat.le_refl _) _⟩

theorem refNum_any (x : Nat) (w : World) :
    Calls Try.prog 6 #[.float .f64 x] w fun e w' => e = .returned (val 3 x ⟨#[]⟩ 0) ∧ Below w.heap.size w w' := by
  go_enter Try.func6, Try.ntmps6
  go_wp2
  exact bodyPost_ret (v := val 3 x ⟨#[]⟩ 0) (by simp [results, Try.results6, go_sem]) rfl ⟨rfl, (Below.refl _ _).alloc (Nat.le_refl _) _⟩

theorem str_any (s : ByteArray) (w : World) :
    Calls Try.prog 7 #[.string s] w fun e w' => e = .returned (val 4 0 s 0) ∧ Below w.heap.size w w' := by
  go_enter Try.func7, Try.ntmps7
  go_wp2
  exact bodyPost_ret (v := val 4 0 s 0) (by simp [results, Try.results7, go_sem]) rfl ⟨rfl, (Below.refl _ _).alloc (Nat.le_refl _) _⟩

theorem refStr_any (s : ByteArray) (w : World) :
    Calls Try.prog 8 #[.string s] w fun e w' => e = .returned (val 4 0 s 0) ∧ Below w.heap.size w w' := by
  go_enter Try.func8, Try.ntmps8
  go_wp2
  exact bodyPost_ret (v := val 4 0 s 0) (by simp [results, Try.results8, go_sem]) rfl ⟨rfl, (Below.refl _ _).alloc (Nat.le_refl _) _⟩

/-- The number of a boolean, as bits. -/
def one (b : Bool) : Nat := if b then 4607182418800017408 else 0

theorem bool_any (b : Bool) (w : World) :
    Calls Try.prog 9 #[.bool b] w fun e w' => e = .returned (val 2 (one b) ⟨#[]⟩ 0) ∧ Below w.heap.size w w' := by
  cases b
  all_goals
    go_enter Try.func9, Try.ntmps9
    go_wp2
    exact bodyPost_ret (v := val 2 (one _) ⟨#[]⟩ 0) (by simp [results, Try.results9, go_sem, one]) rfl ⟨rfl, (Below.refl _ _).alloc (Nat.le_refl _) _⟩

theorem refBool_any (b : Bool) (w : World) :
    Calls Try.prog 10 #[.bool b] w fun e w' => e = .returned (val 2 (one b) ⟨#[]⟩ 0) ∧ Below w.heap.size w w' := by
  cases b
  all_goals
    go_enter Try.func10, Try.ntmps10
    go_wp2
    exact bodyPost_ret (v := val 2 (one _) ⟨#[]⟩ 0) (by simp [results, Try.results10, go_sem, one]) rfl ⟨rfl, (Below.refl _ _).alloc (Nat.le_refl _) _⟩

theorem alike_self (k : Int) (x : Nat) (s : ByteArray) (r : Int) (w : World) :
    Calls Try.prog 4 #[val k x s r, val k x s r] w fun e w' => e = .returned (.bool true) ∧ Below w.heap.size w w' := by
  go_enter Try.func4, Try.ntmps4
  go_wp2_with (go_at_call 11; refine (same_any _ _ _).mono ?_; rintro e w' ⟨rfl, rfl⟩)
  go_ret
  rw [Fl.same_self]
  exact ⟨rfl, ((Below.refl _ _).alloc (Nat.le_refl _) _).alloc (by simp) _⟩

theorem law_any (x : Nat) (s : ByteArray) (b : Bool) (w : World) :
    Calls Try.prog 3 #[.float .f64 x, .string s, .bool b] w fun e w' => e = .returned (.bool true) ∧ Below w.heap.size w w' := by
  go_enter Try.func3, Try.ntmps3
  go_wp2_with fail
  refine (num_any _ _).mono ?_; rintro e w1 ⟨rfl, hb1⟩
  go_wp2_with fail
  refine (refNum_any _ _).mono ?_; rintro e w2 ⟨rfl, hb2⟩
  go_wp2_with fail
  refine (alike_self _ _ _ _ _).mono ?_; rintro e w3 ⟨rfl, hb3⟩
  go_wp2_with fail
  refine (str_any _ _).mono ?_; rintro e w4 ⟨rfl, hb4⟩
  go_wp2_with fail
  refine (refStr_any _ _).mono ?_; rintro e w5 ⟨rfl, hb5⟩
  go_wp2_with fail
  refine (alike_self _ _ _ _ _).mono ?_; rintro e w6 ⟨rfl, hb6⟩
  go_wp2_with fail
  refine (bool_any _ _).mono ?_; rintro e w7 ⟨rfl, hb7⟩
  go_wp2_with fail
  refine (refBool_any _ _).mono ?_; rintro e w8 ⟨rfl, hb8⟩
  go_wp2_with fail
  refine (alike_self _ _ _ _ _).mono ?_; rintro e w9 ⟨rfl, hb9⟩
  go_wp2_with fail
  go_ret
  exact ⟨rfl, grow (grow (grow (grow (grow (grow (grow (grow hb1 hb2) hb3) hb4) hb5) hb6) hb7) hb8) hb9⟩

end Go.Proofs.Ytecadaoncpminaa
