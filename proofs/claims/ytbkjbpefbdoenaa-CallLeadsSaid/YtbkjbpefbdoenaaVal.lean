/-
  Values, as the walks have them; making them; which are objects, which can be called; which may be.
-/
import Derived.Test.YtbkjbpefbdoenaaMayWalk
import Derived.Test.YtbkjbpefbdoenaaLaw
import Derived.Test.YtbkjbpefbdoenaaStands
namespace Go.Proofs.Ytbkjbpefbdoenaa
open Go.RowKit

@[go_sem] theorem run_equalIn_float {P : Program} (w : World) (d : Nat) (t : TypeId) (k k' : FloatKind) (a b : Nat) (h : P.underlying t = some (.float k')) : (Op.equalIn (d + 1) t (.float k a) (.float k b)).run P w = .ok (k.format.order a b == some .eq) w := by
  simp [Op.equalIn, run_underlying h, Op.floatEq]

/-- A value as the walk has it. -/
abbrev val (k : Int) (x : Nat) (s : ByteArray) (r : Int) : Value := .agg #[.int .u8 k, .float .f64 x, .string s, .int .i64 r]

theorem num_any (x : Nat) (w : World) :
    Calls Try.prog 17 #[.float .f64 x] w fun e w' => e = .returned (val 3 x ⟨#[]⟩ 0) ∧ Below w.heap.size w w' := by
  go_enter Try.func17, Try.ntmps17
  go_wp2
  exact bodyPost_ret (v := val 3 x ⟨#[]⟩ 0) (by simp [results, Try.results17, go_sem]) rfl ⟨rfl, (Below.refl _ _).alloc (Nat.le_refl _) _⟩

/-- Is a kind an object's? Can it be called? -/
def isObj (k : Int) : Bool := decide (6 ≤ k) && decide (k ≤ 8)
def isCal (k : Int) : Bool := (k == 7) || (k == 8)

theorem isObj_any (k : Int) (x : Nat) (s : ByteArray) (r : Int) (w : World) :
    Calls Try.prog 10 #[val k x s r] w fun e w' => e = .returned (.bool (isObj k)) ∧ (w.alloc (.cells #[.int .u8 k, .float .f64 x, .string s, .int .i64 r] 24)) = w' := by
  by_cases h1 : 6 ≤ k
  · by_cases h2 : k ≤ 8
    · have e : isObj k = true := by simp [isObj, h1, h2]
      rw [e]
      clear e
      go_enter Try.func10, Try.ntmps10
      go_wp2
      go_ret
      exact ⟨rfl, rfl⟩
    · have e : isObj k = false := by simp [isObj, h2]
      rw [e]
      clear e
      go_enter Try.func10, Try.ntmps10
      go_wp2
      go_ret
      exact ⟨rfl, rfl⟩
  · have e : isObj k = false := by simp [isObj, h1]
    rw [e]
    clear e
    go_enter Try.func10, Try.ntmps10
    go_wp2
    go_ret
    exact ⟨rfl, rfl⟩

end Go.Proofs.Ytbkjbpefbdoenaa
