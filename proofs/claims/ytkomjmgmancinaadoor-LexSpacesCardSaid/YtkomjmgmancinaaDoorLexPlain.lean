/-
  What a text is cut into (plain lists of bytes): rows of words and signs, kinds of bytes, where a string ends.
-/
import Derived.Test.YtkomjmgmancinaaDoorLxA
import Derived.Test.YtkomjmgmancinaaDoorLxE
import Derived.Lib.IndexMore
import Derived.Lib.IndexLaws
namespace Go.Proofs.YtkomjmgmancinaaDoor
open Go.RowKit

/-- Does a text without blanks stand between blanks in a row? -/
def amongB (row s : List UInt8) : Bool := !s.isEmpty && (!Lib.contains s [32] && Lib.contains row ([32] ++ s ++ [32]))
def wordsL : List UInt8 := [32, 98, 114, 101, 97, 107, 32, 99, 97, 115, 101, 32, 99, 97, 116, 99, 104, 32, 99, 108, 97, 115, 115, 32, 99, 111, 110, 115, 116, 32, 99, 111, 110, 116, 105, 110, 117, 101, 32, 100, 101, 98, 117, 103, 103, 101, 114, 32, 100, 101, 102, 97, 117, 108, 116, 32, 100, 101, 108, 101, 116, 101, 32, 100, 111, 32, 101, 108, 115, 101, 32, 101, 110, 117, 109, 32, 101, 120, 112, 111, 114, 116, 32, 101, 120, 116, 101, 110, 100, 115, 32, 102, 97, 108, 115, 101, 32, 102, 105, 110, 97, 108, 108, 121, 32, 102, 111, 114, 32, 102, 117, 110, 99, 116, 105, 111, 110, 32, 105, 102, 32, 105, 109, 112, 111, 114, 116, 32, 105, 110, 32, 105, 110, 115, 116, 97, 110, 99, 101, 111, 102, 32, 108, 101, 116, 32, 110, 101, 119, 32, 110, 117, 108, 108, 32, 114, 101, 116, 117, 114, 110, 32, 115, 117, 112, 101, 114, 32, 115, 119, 105, 116, 99, 104, 32, 116, 104, 105, 115, 32, 116, 104, 114, 111, 119, 32, 116, 114, 117, 101, 32, 116, 114, 121, 32, 116, 121, 112, 101, 111, 102, 32, 118, 97, 114, 32, 118, 111, 105, 100, 32, 119, 104, 105, 108, 101, 32, 119, 105, 116, 104, 32, 121, 105, 101, 108, 100, 32]
def signsL : List UInt8 := [32, 123, 32, 125, 32, 40, 32, 41, 32, 91, 32, 93, 32, 46, 32, 59, 32, 44, 32, 63, 32, 58, 32, 60, 32, 62, 32, 60, 61, 32, 62, 61, 32, 61, 61, 32, 33, 61, 32, 61, 61, 61, 32, 33, 61, 61, 32, 43, 32, 45, 32, 42, 32, 47, 32, 37, 32, 38, 32, 124, 32, 94, 32, 33, 32, 126, 32, 38, 38, 32, 124, 124, 32, 61, 32, 43, 61, 32, 45, 61, 32, 42, 61, 32, 47, 61, 32, 37, 61, 32, 60, 60, 32, 62, 62, 32, 62, 62, 62, 32]
def wordB (s : List UInt8) : Bool := amongB wordsL s
def signB (s : List UInt8) : Bool := amongB signsL s

/-- Is a byte one of a name's first ones; one of a name's? (isDig: a digit.) -/
def isLet (b : UInt8) : Bool := (97 ≤ b && b ≤ 122) || (65 ≤ b && b ≤ 90) || b == 95 || b == 36
def isNm (b : UInt8) : Bool := isLet b || isDig b
def isQu (b : UInt8) : Bool := b == 34 || b == 39
/-- The kind of a byte. -/
def kindN (b : UInt8) : Nat := if isLet b then 1 else if isDig b then 2 else if isQu b then 3 else 0
/-- How many bytes of a text are a name's. -/
def runN (l : List UInt8) : Nat := (l.takeWhile isNm).length
/-- Where a string that has begun ends: its closing quote. -/
def closeAt (q : UInt8) : List UInt8 → Option Nat
  | [] => none
  | [c] => if c = q then some 0 else none
  | c :: d :: r => if c = q then some 0 else if c = 10 ∨ c = 13 then none
    else if c = 92 ∧ ¬ (d = 10 ∨ d = 13) then (closeAt q r).map (· + 2) else (closeAt q (d :: r)).map (· + 1)

/-- A token: its kind, text and number; how many bytes; or (not ok) the place that is wrong. -/
structure TR where
  ok : Bool
  k : Int
  text : List UInt8
  num : Int
  n : Nat

def TR.bad (n : Nat) : TR := ⟨false, 0, [], 0, n⟩
def signOf (l : List UInt8) : Nat → TR
  | 0 => .bad 0
  | n + 1 => if n + 1 ≤ l.length ∧ signB (l.take (n + 1)) = true then ⟨true, 5, l.take (n + 1), 0, n + 1⟩ else signOf l n
/-- The token at the front of a text. -/
def tokR : List UInt8 → TR
  | [] => .bad 0
  | c :: r =>
    if isLet c then (if 4096 < runN (c :: r) then .bad 0 else ⟨true, if wordB ((c :: r).take (runN (c :: r))) then 2 else 1, (c :: r).take (runN (c :: r)), 0, runN (c :: r)⟩)
    else if isDig c then
      (if ((c :: r).take (runN (c :: r))).all isDig = false ∨ (c = 48 ∧ 1 < runN (c :: r)) ∨ 16 < runN (c :: r) ∨ 9007199254740991 < worth ((c :: r).take (runN (c :: r))) then .bad 0
       else ⟨true, 3, [], worth ((c :: r).take (runN (c :: r))), runN (c :: r)⟩)
    else if isQu c then
      match closeAt c r with
      | none => .bad 0
      | some e => if (plainR (r.take e)).2.2 = 5 then .bad (1 + (plainR (r.take e)).2.1) else if (plainR (r.take e)).2.2 ≠ 0 then .bad 0 else ⟨true, 4, (plainR (r.take e)).1, 0, e + 2⟩
    else signOf (c :: r) 3

/-- What stands at a place: so many bytes to be passed over; a comment that does not end; or a token. -/
inductive Hd where
  | skip (n : Nat)
  | unclosed
  | tok

def headR : List UInt8 → Hd
  | [] => .tok
  | c :: r => if isBl c then .skip 1
    else if c = 47 ∧ r.head? = some 47 then .skip ((c :: r).takeWhile (· != 10)).length
    else if c = 47 ∧ r.head? = some 42 then (if 0 ≤ Lib.index (r.drop 1) [42, 47] then .skip ((Lib.index (r.drop 1) [42, 47]).toNat + 4) else .unclosed)
    else .tok

/-- A token in a list: kind, place, text, number. -/
structure Tk where
  k : Int
  p : Nat
  text : List UInt8
  num : Int

/-- A text cut, from a place on: the tokens, the place that is wrong, the error. -/
def lexGo : Nat → List UInt8 → Nat → List Tk → List Tk × Nat × Int
  | 0, _, _, _ => ([], 0, 0)
  | f + 1, l, p, acc =>
    match l with
    | [] => (acc ++ [⟨0, p, [], 0⟩], 0, 0)
    | c :: r => match headR (c :: r) with
      | .skip n => lexGo f ((c :: r).drop n) (p + n) acc
      | .unclosed => ([], p, 5)
      | .tok => if (tokR (c :: r)).ok = false then ([], p + (tokR (c :: r)).n, 5)
        else if acc.length = 16384 then ([], p, 4)
        else lexGo f ((c :: r).drop (tokR (c :: r)).n) (p + (tokR (c :: r)).n) (acc ++ [⟨(tokR (c :: r)).k, p, (tokR (c :: r)).text, (tokR (c :: r)).num⟩])
/-- A text cut into tokens. -/
def lexR (l : List UInt8) : List Tk × Nat × Int := if 65536 < l.length then ([], 0, 3) else lexGo (l.length + 1) l 0 []

/-! ### rows -/

theorem occ3 (row s : List UInt8) (i : Nat) (h : i + s.length + 2 ≤ row.length) : Lib.occAt row ([32] ++ s ++ [32]) i = (row[i] == 32 && (((row.drop (i + 1)).take s.length == s) && row[i + 1 + s.length] == 32)) := by
  unfold Lib.occAt
  rw [List.drop_eq_getElem_cons (show i < row.length by omega), List.append_assoc, List.singleton_append, List.isPrefixOf_cons_cons]
  have hx : s.length < (row.drop (i + 1)).length := by rw [List.length_drop]; omega
  have e1 : (row.drop (i + 1)).take (s.length + 1) = (row.drop (i + 1)).take s.length ++ [(row.drop (i + 1))[s.length]] := List.take_succ_eq_append_getElem hx
  have e2 : (row.drop (i + 1))[s.length] = row[i + 1 + s.length] := List.getElem_drop
  have e3 : (s ++ [32]).isPrefixOf (row.drop (i + 1)) = (((row.drop (i + 1)).take s.length == s) && row[i + 1 + s.length] == 32) := by
    rw [Bool.eq_iff_iff, List.isPrefixOf_iff_prefix, List.prefix_iff_eq_take, List.length_append, List.length_singleton, e1, e2, Bool.and_eq_true, beq_iff_eq, beq_iff_eq]
    constructor
    · intro hh
      obtain ⟨h1, h2⟩ := List.append_inj hh (by rw [List.length_take]; omega)
      exact ⟨h1.symm, by simpa using h2.symm⟩
    · rintro ⟨h1, h2⟩; rw [h1, h2]
  rw [e3, Bool.eq_iff_iff]
  simp only [Bool.and_eq_true, beq_iff_eq]
  constructor
  · rintro ⟨h1, h2⟩; exact ⟨h1.symm, h2⟩
  · rintro ⟨h1, h2⟩; exact ⟨h1.symm, h2⟩

theorem occ1 (l : List UInt8) (c : UInt8) (j : Nat) (hj : j < l.length) : Lib.occAt l [c] j = (l[j] == c) := by
  unfold Lib.occAt
  rw [List.drop_eq_getElem_cons hj, List.isPrefixOf_cons_cons, List.isPrefixOf_nil_left, Bool.and_true, Bool.eq_iff_iff, beq_iff_eq, beq_iff_eq]
  exact eq_comm
theorem contains_one (l : List UInt8) (c : UInt8) : Lib.contains l [c] = l.contains c := by
  unfold Lib.contains
  rw [Bool.eq_iff_iff, decide_eq_true_eq, List.contains_iff_mem]
  rcases Lib.index_spec l [c] with ⟨h1, h2⟩ | ⟨i, h1, h2, h3, _⟩
  · rw [h1]
    refine ⟨fun h => absurd h (by decide), fun h => ?_⟩
    obtain ⟨j, hj, e⟩ := List.getElem_of_mem h
    have := h2 j (by omega)
    rw [occ1 l c j hj, e] at this
    simp at this
  · rw [h1]
    refine ⟨fun _ => ?_, fun _ => by omega⟩
    have hr := Lib.index_room l [c] (by rw [h1]; omega)
    rw [h1] at hr
    have hi : i < l.length := by simp at hr; omega
    rw [occ1 l c i hi, beq_iff_eq] at h3
    rw [← h3]; exact List.getElem_mem hi
theorem contains_hit {row t : List UInt8} {i : Nat} (hi : i ≤ row.length) (ho : Lib.occAt row t i = true) : Lib.contains row t = true := by
  unfold Lib.contains
  rw [decide_eq_true_eq]
  rcases Lib.index_spec row t with ⟨_, h2⟩ | ⟨j, h1, _⟩
  · rw [h2 i hi] at ho; cases ho
  · rw [h1]; omega
theorem contains_none {row t : List UInt8} {i : Nat} (ht : t ≠ []) (h : Lib.NoOcc row t i) (hi : row.length < i + t.length) : Lib.contains row t = false := by
  unfold Lib.contains
  rw [Lib.index_past ht h hi]; decide

/-- A text that stands in a row of short words is short. -/
def gapB (m : Nat) (row : List UInt8) : Bool := (List.range row.length).all fun i => ((row.drop (i + 1)).take m).contains 32 || decide (row.length ≤ i + m)
theorem among_short {row s : List UInt8} {m : Nat} (hg : gapB m row = true) (h : amongB row s = true) : s.length < m := by
  rcases Nat.lt_or_ge s.length m with hl | hl
  · exact hl
  · exfalso
    unfold amongB at h
    simp only [Bool.and_eq_true, Bool.not_eq_true', contains_one] at h
    obtain ⟨_, h1, h2⟩ := h
    unfold Lib.contains at h2
    rw [decide_eq_true_eq] at h2
    rcases Lib.index_spec row ([32] ++ s ++ [32]) with ⟨e, _⟩ | ⟨i, e, _, ho, _⟩
    · rw [e] at h2; exact absurd h2 (by decide)
    · have hr := Lib.index_room _ _ h2
      rw [e] at hr
      simp only [List.length_append, List.length_singleton] at hr
      have h3 := occ3 row s i (by omega)
      rw [ho] at h3
      have h4 := h3.symm
      simp only [Bool.and_eq_true, beq_iff_eq] at h4
      have hx := List.all_eq_true.1 hg i (by simp; omega)
      rw [Bool.or_eq_true] at hx
      rcases hx with hx | hx
      · have : ((row.drop (i + 1)).take m) = s.take m := by
          rw [← h4.2.1, List.take_take, Nat.min_eq_left hl]
        rw [this] at hx
        rw [List.contains_iff_mem] at hx
        have hm := List.mem_of_mem_take hx
        rw [← List.contains_iff_mem, h1] at hm
        cases hm
      · rw [decide_eq_true_eq] at hx; omega
theorem word_short {s : List UInt8} (h : wordB s = true) : s.length < 20 := among_short (by decide +kernel) h
theorem sign_short {s : List UInt8} (h : signB s = true) : s.length < 4 := among_short (by decide +kernel) h

end Go.Proofs.YtkomjmgmancinaaDoor
