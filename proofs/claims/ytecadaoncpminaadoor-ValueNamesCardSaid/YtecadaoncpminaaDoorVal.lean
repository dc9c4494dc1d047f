/-
  Values, as the walks have them; making them; which are objects, which can be called; which may be.
-/
import Derived.Test.YtecadaoncpminaaDoorMayWalk
import Derived.Test.YtecadaoncpminaaDoorLaw
import Derived.Test.YtecadaoncpminaaDoorStands
namespace Go.Proofs.YtecadaoncpminaaDoor
open Go.RowKit

@[go_sem] theorem run_equalIn_float {P : Program} (w : World) (d : Nat) (t : TypeId) (k k' : FloatKind) (a b : Nat) (h : P.underlying t = some (.float k')) : (Op.equalIn (d + 1) t (.float k a) (.float k b)).run P w = .ok (k.format.order a b == some .eq) w := by
  simp [Op.equalIn, run_underlying h, Op.floatEq]

/-- A value as the walk has it. -/
abbrev val (k : Int) (x : Nat) (s : ByteArray) (r : Int) : Value := .agg #[.int .u8 k, .float .f64 x, .string s, .int .i64 r]

theorem num_any (x : Nat) (w : World) :
    Calls Tryd.prog 20 #[.float .f64 x] w fun e w' => e = .returned (val 3 x ⟨#[]⟩ 0) ∧ Below w.heap.size w w' := by
  go_enter Tryd.func20, Tryd.ntmps20
  go_wp2
  exact bodyPost_ret (v := val 3 x ⟨#[]⟩ 0) (by simp [results, Tryd.results20, go_sem]) rfl ⟨rfl, (Below.refl _ _).alloc (Nat.le_refl _) _⟩

theorem refNum_any (x : Nat) (w : World) :
    Calls Tryd.prog 28 #[.float .f64 x] w fun e w' => e = .returned (val 3 x ⟨#[]⟩ 0) ∧ Below w.heap.size w w' := by
  go_enter Tryd.func28, Tryd.ntmps28
  go_wp2
  exact bodyPost_ret (v := val 3 x ⟨#[]⟩ 0) (by simp [results, Tryd.results28, go_sem]) rfl ⟨rfl, (Below.refl _ _).alloc (Nat.le_refl _) _⟩

/-- Is a kind an object's? Can it be called? -/
def isObj (k : Int) : Bool := decide (6 ≤ k) && decide (k ≤ 8)
def isCal (k : Int) : Bool := (k == 7) || (k == 8)

theorem isObj_any (k : Int) (x : Nat) (s : ByteArray) (r : Int) (w : World) :
    Calls Tryd.prog 19 #[val k x s r] w fun e w' => e = .returned (.bool (isObj k)) ∧ (w.alloc (.cells #[.int .u8 k, .float .f64 x, .string s, .int .i64 r] 24)) = w' := by
  by_cases h1 : 6 ≤ k
  · by_cases h2 : k ≤ 8
    · have e : isObj k = true := by simp [isObj, h1, h2]
      rw [e]
      clear e
      go_enter Tryd.func19, Tryd.ntmps19
      go_wp2
      go_ret
      exact ⟨rfl, rfl⟩
    · have e : isObj k = false := by simp [isObj, h2]
      rw [e]
      clear e
      go_enter Tryd.func19, Tryd.ntmps19
      go_wp2
      go_ret
      exact ⟨rfl, rfl⟩
  · have e : isObj k = false := by simp [isObj, h1]
    rw [e]
    clear e
    go_enter Tryd.func19, Tryd.ntmps19
    go_wp2
    go_ret
    exact ⟨rfl, rfl⟩

theorem refObj_any (k : Int) (x : Nat) (s : ByteArray) (r : Int) (w : World) :
    Calls Tryd.prog 27 #[val k x s r] w fun e w' => e = .returned (.bool (isObj k)) ∧ (w.alloc (.cells #[.int .u8 k, .float .f64 x, .string s, .int .i64 r] 24)) = w' := by
  by_cases h : k = 6 ∨ k = 7 ∨ k = 8
  · rcases h with rfl | rfl | rfl
    all_goals
      go_enter Tryd.func27, Tryd.ntmps27
      go_wp2
      go_ret
      exact ⟨rfl, rfl⟩
  · have e : isObj k = false := by
      unfold isObj
      rw [Bool.and_eq_false_iff, decide_eq_false_iff_not, decide_eq_false_iff_not]; omega
    have h6 : (k == 6) = false := by rw [beq_eq_false_iff_ne]; omega
    have h7 : (k == 7) = false := by rw [beq_eq_false_iff_ne]; omega
    have h8 : (k == 8) = false := by rw [beq_eq_false_iff_ne]; omega
    rw [e]
    clear e h
    go_enter Tryd.func27, Tryd.ntmps27
    go_wp2
    go_ret
    exact ⟨rfl, rfl⟩

end Go.Proofs.YtecadaoncpminaaDoor
