/-
  Values, as the walks have them; making them; which are objects, which can be called; which may be.
-/
import Derived.Test.YtnidamkgfgddfaaMayWalk
import Derived.Test.YtnidamkgfgddfaaLaw
import Derived.Test.YtnidamkgfgddfaaStands
namespace Go.Proofs.Ytnidamkgfgddfaa
open Go.RowKit

@[go_sem] theorem run_equalIn_float {P : Program} (w : World) (d : Nat) (t : TypeId) (k k' : FloatKind) (a b : Nat) (h : P.underlying t = some (.float k')) : (Op.equalIn (d + 1) t (.float k a) (.float k b)).run P w = .ok (k.format.order a b == some .eq) w := by
  simp [Op.equalIn, run_underlying h, Op.floatEq]

/-- A value as the walk has it. -/
abbrev val (k : Int) (x : Nat) (s : ByteArray) (r : Int) : Value := .agg #[.int .u8 k, .float .f64 x, .string s, .int .i64 r]

/-- Is a kind an object's? Can it be called? -/
def isObj (k : Int) : Bool := decide (6 ≤ k) && decide (k ≤ 8)
def isCal (k : Int) : Bool := (k == 7) || (k == 8)

theorem isObj_any (k : Int) (x : Nat) (s : ByteArray) (r : Int) (w : World) :
    Calls Try.prog 33 #[val k x s r] w fun e w' => e = .returned (.bool (isObj k)) ∧ (w.alloc (.cells #[.int .u8 k, .float .f64 x, .string s, .int .i64 r] 46)) = w' := by
  by_cases h1 : 6 ≤ k
  · by_cases h2 : k ≤ 8
    · have e : isObj k = true := by simp [isObj, h1, h2]
      rw [e]
      clear e
      go_enter Try.func33, Try.ntmps33
      go_wp2
      go_ret
      exact ⟨rfl, rfl⟩
    · have e : isObj k = false := by simp [isObj, h2]
      rw [e]
      clear e
      go_enter Try.func33, Try.ntmps33
      go_wp2
      go_ret
      exact ⟨rfl, rfl⟩
  · have e : isObj k = false := by simp [isObj, h1]
    rw [e]
    clear e
    go_enter Try.func33, Try.ntmps33
    go_wp2
    go_ret
    exact ⟨rfl, rfl⟩

end Go.Proofs.Ytnidamkgfgddfaa
