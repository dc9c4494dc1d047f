/-
  The properties of the first objects (plain lists).
-/
import Derived.Test.YtchpkopeblgifaaHosts
import Derived.Test.YtchpkopeblgifaaShelf
namespace Go.Proofs.Ytchpkopeblgifaa
open Go.RowKit

/-- A property as the tables tell it: its name, its value's kind, text and number, and whether it is free. -/
structure PR where
  name : ByteArray
  k : Int
  s : ByteArray
  r : Int
  free : Bool

def PR.cells (p : PR) : List Value := [.string p.name, .int .i64 0, .int .u8 51, .int .u8 p.k, .float .f64 0, .string p.s, .int .i64 p.r, .int .u8 0, .float .f64 0, .string ⟨#[]⟩, .int .i64 0, .int .u8 0, .float .f64 0, .string ⟨#[]⟩, .int .i64 0, .bool p.free, .bool false, .bool p.free]
theorem PR.cells_length (p : PR) : p.cells.length = 18 := rfl
theorem PR.cells_one (p : PR) (u : Value) (h : u ∈ p.cells) : u.oneCell' = true := by
  simp only [PR.cells, List.mem_cons, List.not_mem_nil, or_false] at h
  rcases h with rfl | rfl | rfl | rfl | rfl | rfl | rfl | rfl | rfl | rfl | rfl | rfl | rfl | rfl | rfl | rfl | rfl | rfl <;> rfl
def prC (l : List PR) : List Value := l.flatMap PR.cells
theorem prC_length (l : List PR) : (prC l).length = l.length * 18 := by
  induction l with
  | nil => rfl
  | cons a l ih => simp [prC, List.flatMap_cons, PR.cells_length] at ih ⊢; omega
theorem prC_append (l m : List PR) : prC (l ++ m) = prC l ++ prC m := by simp [prC]
theorem prC_one (p : PR) : prC [p] = p.cells := by simp [prC]
theorem prC_get (l : List PR) (i f : Nat) (hi : i < l.length) (hf : f < 18) : (prC l)[i * 18 + f]? = l[i].cells[f]? := by
  induction l generalizing i with
  | nil => simp at hi
  | cons a l ih =>
    have e : prC (a :: l) = a.cells ++ prC l := rfl
    rw [e]
    match i with
    | 0 => rw [List.getElem?_append_left (by rw [PR.cells_length]; omega)]; simp
    | i + 1 =>
      rw [List.getElem?_append_right (by rw [PR.cells_length]; omega), PR.cells_length, show (i + 1) * 18 + f - 18 = i * 18 + f by omega]
      simpa using ih i (by simpa using hi)

def wConstructor : ByteArray := ⟨#[99, 111, 110, 115, 116, 114, 117, 99, 116, 111, 114]⟩
def wName : ByteArray := ⟨#[110, 97, 109, 101]⟩
def wMessage : ByteArray := ⟨#[109, 101, 115, 115, 97, 103, 101]⟩
def wPrototype : ByteArray := ⟨#[112, 114, 111, 116, 111, 116, 121, 112, 101]⟩
def wPrimitive : ByteArray := ⟨#[116, 111, 80, 114, 105, 109, 105, 116, 105, 118, 101]⟩
def wDotProto : ByteArray := ⟨#[46, 112, 114, 111, 116, 111, 116, 121, 112, 101]⟩
def wError : ByteArray := ⟨#[69, 114, 114, 111, 114]⟩
def wSymbol : ByteArray := ⟨#[83, 121, 109, 98, 111, 108]⟩

/-- Whose prototype a first object is; which is whose prototype. -/
def mkL : List Nat := [0, 0, 0, 15, 20, 21, 22, 16, 17, 18, 19]
def mk (n : Nat) : Nat := mkL.getD n 0
def ptL : List Nat := [0, 0, 0, 0, 0, 0, 0, 0, 0, 0, 0, 0, 0, 0, 0, 3, 7, 8, 9, 10, 4, 5, 6]
def pt (n : Nat) : Nat := ptL.getD n 0
def isMk (n : Nat) : Bool := decide (3 ≤ n) && decide (n ≤ 10)
def isEr (n : Nat) : Bool := decide (7 ≤ n) && decide (n ≤ 10)
def isPt (n : Nat) : Bool := decide (15 ≤ n) && decide (n ≤ 22)
def isSy (n : Nat) : Bool := n == 22

/-- A function's name, but for its last word; that. -/
def ldN (i : Nat) : Nat := (Lib.lastIndexByte (nm (24 + i)) 46).toNat
def ow (i : Nat) : ByteArray := (nm (24 + i)).extract 0 (ldN i)
def wd (i : Nat) : ByteArray := (nm (24 + i)).extract (ldN i + 1) (nm (24 + i)).size

def pr0 (n : Nat) : List PR := if isMk n then [⟨wConstructor, kd (mk n), ⟨#[]⟩, mk n, true⟩] else []
def pr1 (n : Nat) : List PR := if isEr n then [⟨wName, 4, nm (mk n), 0, true⟩, ⟨wMessage, 4, ⟨#[]⟩, 0, true⟩] else []
def pr2 (n : Nat) : List PR := if isPt n then [⟨wPrototype, kd (pt n), ⟨#[]⟩, pt n, false⟩] else []
def pr3 (n : Nat) : List PR := if isSy n then [⟨wPrimitive, 5, ⟨#[]⟩, 0, false⟩] else []
def fnP (n i : Nat) : List PR := if ow i = nm n then [⟨wd i, kd (24 + (i : Int)), ⟨#[]⟩, 24 + (i : Int), true⟩] else []
def fns (n : Nat) : Nat → List PR
  | 0 => []
  | i + 1 => fns n i ++ fnP n i
def pr (n : Nat) : List PR := pr0 n ++ pr1 n ++ pr2 n ++ pr3 n
/-- The properties of a first object. -/
def pl (n : Nat) : List PR := if n < 24 then pr n ++ fns n 48 else []

theorem fns_length (n i : Nat) : (fns n i).length ≤ i := by
  induction i with
  | zero => simp [fns]
  | succ i ih =>
    have : (fnP n i).length ≤ 1 := by unfold fnP; split <;> simp
    simp [fns]; omega
theorem pr_length (n : Nat) : (pr n).length ≤ 5 := by
  have h0 : (pr0 n).length ≤ 1 := by unfold pr0; split <;> simp
  have h1 : (pr1 n).length ≤ 2 := by unfold pr1; split <;> simp
  have h2 : (pr2 n).length ≤ 1 := by unfold pr2; split <;> simp
  have h3 : (pr3 n).length ≤ 1 := by unfold pr3; split <;> simp
  simp [pr]; omega
theorem pl_length (n : Nat) : (pl n).length ≤ 53 := by
  unfold pl
  split
  · have := fns_length n 48; have := pr_length n; simp; omega
  · simp

/-- What the program's own way comes to, name by name. -/
def bsN (n : Nat) : ByteArray := ⟨(Lib.trimSuffix (nm n).data.toList wDotProto.data.toList).toArray⟩
def spN (n : Nat) : Bool := Lib.hasSuffix (nm n).data.toList wDotProto.data.toList
def plN (s : ByteArray) : Int := match (List.range 24).find? fun i => decide ((nm i).data = s.data) with | some i => i | none => -1
theorem tab1 : ((List.range 24).all fun n => (spN n && decide (14 ≤ plN (bsN n))) == isMk n) = true := by decide +kernel
theorem tab2 : ((List.range 24).all fun n => !isMk n || (plN (bsN n) == (mk n : Int))) = true := by decide +kernel
theorem tab3 : ((List.range 24).all fun n => (isMk n && Lib.hasSuffix (bsN n).data.toList wError.data.toList) == isEr n) = true := by decide +kernel
theorem tab4 : ((List.range 24).all fun n => !isMk n || decide ((bsN n).data = (nm (mk n)).data)) = true := by decide +kernel
theorem tab5 : ((List.range 24).all fun n => (decide (0 ≤ plN (nm n ++ wDotProto)) && decide (14 ≤ plN (nm n))) == isPt n) = true := by decide +kernel
theorem tab6 : ((List.range 24).all fun n => !isPt n || (plN (nm n ++ wDotProto) == (pt n : Int))) = true := by decide +kernel
theorem tab7 : ((List.range 24).all fun n => ((nm n).data == wSymbol.data) == isSy n) = true := by decide +kernel
theorem tab8 : ((List.range 24).all fun n => decide ((nm n).data.size ≤ 100) && decide ((nm n ++ wDotProto).data.size ≤ 200)) = true := by decide +kernel
theorem tab9 : ((List.range 24).all fun n => (plN (nm n)) == (n : Int)) = true := by decide +kernel
theorem tab10 : ((List.range 48).all fun i => decide (Lib.lastIndexByte (nm (24 + i)) 46 = (ldN i : Int)) && decide (ldN i + 1 ≤ (nm (24 + i)).size) && decide ((nm (24 + i)).size ≤ 100)) = true := by decide +kernel

theorem at24 {f : Nat → Bool} {m : Nat} (h : ((List.range m).all f) = true) {n : Nat} (hn : n < m) : f n = true := List.all_eq_true.1 h n (by simpa using hn)

end Go.Proofs.Ytchpkopeblgifaa
