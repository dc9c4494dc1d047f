/-
  Plain facts on numerals: what a text's number is.
-/
import Derived.Test.YtkomjmgmancinaaDoorStands
import Derived.Test.YtkomjmgmancinaaDoorBytes
import Derived.Lib.ItoaNum
import Derived.Lib.ItoaMem
import Derived.Lib.SlTrimSet
import Derived.Lib.ItoaLen
namespace Go.Proofs.YtkomjmgmancinaaDoor

/-- Is a byte a digit? -/
def isDig (b : UInt8) : Bool := decide (48 ≤ b.toNat) && decide (b.toNat ≤ 57)
/-- The number that digits tell. -/
def worth (l : List UInt8) : Nat := l.foldl (fun n b => 10 * n + (b.toNat - 48)) 0

theorem worth_snoc (l : List UInt8) (b : UInt8) : worth (l ++ [b]) = 10 * worth l + (b.toNat - 48) := by
  unfold worth; rw [List.foldl_append]; rfl

theorem foldl_ge (l : List UInt8) : ∀ n : Nat, n ≤ l.foldl (fun n b => 10 * n + (b.toNat - 48)) n := by
  induction l with
  | nil => intro n; exact Nat.le_refl _
  | cons b l ih => intro n; rw [List.foldl_cons]; exact Nat.le_trans (by omega) (ih _)

theorem worth_mono (l m : List UInt8) : worth l ≤ worth (l ++ m) := by
  unfold worth; rw [List.foldl_append]; exact foldl_ge m _

theorem worth_take_le (l : List UInt8) (k : Nat) : worth (l.take k) ≤ worth l := by
  have := worth_mono (l.take k) (l.drop k)
  rwa [List.take_append_drop] at this

/-- The sign struck. -/
def unsigned (t : List UInt8) : List UInt8 := if t.head? = some 45 ∨ t.head? = some 43 then t.tail else t

/-- What a text without blanks tells. -/
def bareR (t : List UInt8) : Int × Option Int :=
  if t = [] then (0, some 0)
  else if unsigned t = [] then (0, none)
  else if (unsigned t).all isDig = false then (0, none)
  else if 9007199254740991 < worth (unsigned t) ∨ (t.head? = some 45 ∧ worth (unsigned t) = 0) then (10, some 0)
  else (0, some (if t.head? = some 45 then -(worth (unsigned t) : Int) else (worth (unsigned t) : Int)))
/-- What a text tells. -/
def readR (s : List UInt8) : Int × Option Int := bareR (Lib.trimS s blanks)

theorem decDigits_step (k : Nat) (h : ¬ k < 10) : Lib.decDigits k = Lib.decDigits (k / 10) ++ [UInt8.ofNat (48 + k % 10)] := by
  rw [Lib.decDigits, dif_neg h]

theorem decDigits_le (k : Nat) (h : k ≤ 9007199254740991) : (Lib.decDigits k).length ≤ 21 := by
  have := Lib.itoa_length_le (k : Int) (by omega) (by omega)
  rwa [Lib.itoa_nonneg] at this

end Go.Proofs.YtkomjmgmancinaaDoor
