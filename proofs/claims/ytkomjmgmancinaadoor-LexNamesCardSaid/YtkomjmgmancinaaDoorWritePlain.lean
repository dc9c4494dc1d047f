/-
  What tokens are written as: plain.
-/
import Derived.Test.YtkomjmgmancinaaDoorTokensPlain
import Derived.Test.YtkomjmgmancinaaDoorTextPlain
import Derived.Test.YtkomjmgmancinaaDoorQuotePlain
namespace Go.Proofs.YtkomjmgmancinaaDoor
open Go.RowKit

/-- A token as it lies in memory, whatever it be. -/
structure TI where
  k : Int
  p : Int
  text : ByteArray
  num : Nat
def TI.cells (t : TI) : List Value := [.int .u8 t.k, .int .i64 t.p, .string t.text, .float .f64 t.num]
def TI.agg (t : TI) : Value := .agg #[.int .u8 t.k, .int .i64 t.p, .string t.text, .float .f64 t.num]
def ge0 (x : Nat) : Bool := FloatKind.f64.format.order x 0 == some .gt || FloatKind.f64.format.order x 0 == some .eq
def eq0 (x : Nat) : Bool := FloatKind.f64.format.order x 0 == some .eq
/-- May a text be a name, but for its length? -/
def nameB (l : List UInt8) : Bool := (l.take 1).any isLet && decide (runN l = l.length)
/-- May a token be that is not the end? -/
def mayB (t : TI) : Bool :=
  if t.k = 3 then t.text.data.toList.isEmpty && (ge0 t.num && Fl.may t.num)
  else if t.k = 4 then eq0 t.num && decide (t.text.size ≤ 4096)
  else if t.k = 5 then eq0 t.num && signB t.text.data.toList
  else if t.k = 1 ∨ t.k = 2 then eq0 t.num && (!t.text.data.toList.isEmpty && (decide (t.text.size ≤ 4096) && (nameB t.text.data.toList && (wordB t.text.data.toList == decide (t.k = 2)))))
  else false
/-- Is a token an end? -/
def endB (t : TI) : Bool := decide (t.k = 0) && (t.text.data.toList.isEmpty && eq0 t.num)
/-- What a token is written as. -/
def pieceR (t : TI) : List UInt8 := if t.k = 3 then textR t.num else if t.k = 4 then quoted t.text.data.toList ++ [34] else t.text.data.toList
/-- Tokens written behind what is written already (not yet the first one: no blank ahead of it). -/
def writeGo : List TI → Bool → List UInt8 → Option (List UInt8)
  | [], _, acc => some acc
  | t :: ts, first, acc =>
    let a2 := acc ++ (if first then [] else [32]) ++ pieceR t
    if 65536 < a2.length then none else writeGo ts false a2
/-- Tokens written: the text, the error. -/
def writeR (l : List TI) : List UInt8 × Int :=
  if 16385 < l.length then ([], 4)
  else if (l.getLast?.map endB).getD false = false then ([], 5)
  else if l.dropLast.all mayB = false then ([], 5)
  else match writeGo l.dropLast true [] with
    | none => ([], 3)
    | some s => (s, 0)

end Go.Proofs.YtkomjmgmancinaaDoor
