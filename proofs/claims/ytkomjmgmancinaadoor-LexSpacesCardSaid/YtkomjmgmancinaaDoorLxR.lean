/-
  Plain laws on the cutting of a text: one step at a time; what lists of tokens in memory stand for.
  What tokens are written as: plain.
-/
import Derived.Test.YtkomjmgmancinaaDoorTokWalk2
import Derived.Test.YtkomjmgmancinaaDoorLxE
namespace Go.Proofs.YtkomjmgmancinaaDoor
open Go.RowKit

/-! ### steps -/

theorem lexGo_nil (f p : Nat) (acc : List Tk) : lexGo (f + 1) [] p acc = (acc ++ [⟨0, p, [], 0⟩], 0, 0) := rfl
theorem lexGo_skip {L : List UInt8} (h0 : 0 < L.length) {n : Nat} (h : headR L = .skip n) (f p : Nat) (acc : List Tk) : lexGo (f + 1) L p acc = lexGo f (L.drop n) (p + n) acc := by
  cases L with
  | nil => simp at h0
  | cons c r => rw [lexGo]; simp only [h]
theorem lexGo_unclosed {L : List UInt8} (h0 : 0 < L.length) (h : headR L = .unclosed) (f p : Nat) (acc : List Tk) : lexGo (f + 1) L p acc = ([], p, 5) := by
  cases L with
  | nil => simp at h0
  | cons c r => rw [lexGo]; simp only [h]
theorem lexGo_bad {L : List UInt8} (h0 : 0 < L.length) (h : headR L = .tok) (hk : (tokR L).ok = false) (f p : Nat) (acc : List Tk) : lexGo (f + 1) L p acc = ([], p + (tokR L).n, 5) := by
  cases L with
  | nil => simp at h0
  | cons c r => rw [lexGo]; simp only [h, hk, if_true]
theorem lexGo_many {L : List UInt8} (h0 : 0 < L.length) (h : headR L = .tok) (hk : (tokR L).ok = true) (f p : Nat) (acc : List Tk) (ha : acc.length = 16384) : lexGo (f + 1) L p acc = ([], p, 4) := by
  cases L with
  | nil => simp at h0
  | cons c r => rw [lexGo]; simp only [h, hk, ha, if_true, Bool.true_eq_false, if_false]
theorem lexGo_tok {L : List UInt8} (h0 : 0 < L.length) (h : headR L = .tok) (hk : (tokR L).ok = true) (f p : Nat) (acc : List Tk) (ha : acc.length ≠ 16384) : lexGo (f + 1) L p acc = lexGo f (L.drop (tokR L).n) (p + (tokR L).n) (acc ++ [⟨(tokR L).k, p, (tokR L).text, (tokR L).num⟩]) := by
  cases L with
  | nil => simp at h0
  | cons c r => rw [lexGo]; simp only [h, hk, ha, Bool.true_eq_false, if_false]

theorem headR_blank {L : List UInt8} (h0 : 0 < L.length) (h : isBl L[0] = true) : headR L = .skip 1 := by
  cases L with
  | nil => simp at h0
  | cons c r => rw [headR, if_pos (by simpa using h)]
/-- Does a text begin with a slash and another byte? -/
def slash (L : List UInt8) (d : UInt8) : Bool := Lib.hasPrefix L [47, d]
theorem slash_eq (c : UInt8) (r : List UInt8) (d : UInt8) : slash (c :: r) d = true ↔ (c = 47 ∧ r.head? = some d) := by
  unfold slash Lib.hasPrefix
  rw [List.isPrefixOf_cons_cons, Bool.and_eq_true, beq_iff_eq]
  cases r with
  | nil => simp
  | cons x r => rw [List.isPrefixOf_cons_cons, List.isPrefixOf_nil_left, Bool.and_true, beq_iff_eq, List.head?_cons, Option.some.injEq]; constructor <;> rintro ⟨h1, h2⟩ <;> exact ⟨h1.symm, h2.symm⟩
theorem headR_line {L : List UInt8} (h0 : 0 < L.length) (h : isBl L[0] = false) (hs : slash L 47 = true) : headR L = .skip (L.takeWhile (· != 10)).length := by
  cases L with
  | nil => simp at h0
  | cons c r => rw [headR, if_neg (by simpa using h), if_pos ((slash_eq c r 47).1 hs)]
theorem headR_note {L : List UInt8} (h0 : 0 < L.length) (h : isBl L[0] = false) (hs : slash L 47 = false) (ht : slash L 42 = true) : headR L = if 0 ≤ Lib.index (L.drop 2) [42, 47] then .skip ((Lib.index (L.drop 2) [42, 47]).toNat + 4) else .unclosed := by
  cases L with
  | nil => simp at h0
  | cons c r =>
    rw [headR, if_neg (by simpa using h), if_neg (by rw [← slash_eq, hs]; decide), if_pos ((slash_eq c r 42).1 ht)]
    rfl
theorem headR_tok {L : List UInt8} (h0 : 0 < L.length) (h : isBl L[0] = false) (hs : slash L 47 = false) (ht : slash L 42 = false) : headR L = .tok := by
  cases L with
  | nil => simp at h0
  | cons c r => rw [headR, if_neg (by simpa using h), if_neg (by rw [← slash_eq, hs]; decide), if_neg (by rw [← slash_eq, ht]; decide)]
theorem slash_first {L : List UInt8} (h0 : 0 < L.length) (h : L[0] ≠ 47) (d : UInt8) : slash L d = false := by
  cases L with
  | nil => simp at h0
  | cons c r =>
    rw [Bool.eq_false_iff, ne_eq, slash_eq]
    rintro ⟨h1, _⟩; exact h h1

theorem takeWhile_pos {L : List UInt8} (h0 : 0 < L.length) (h : isBl L[0] = false) : 0 < (L.takeWhile (· != 10)).length := by
  cases L with
  | nil => simp at h0
  | cons c r =>
    have hc : c ≠ 10 := fun e => by
      have h2 : isBl c = false := by simpa using h
      rw [e] at h2
      exact absurd h2 (by decide)
    rw [List.takeWhile_cons, if_pos (by simpa using hc)]; simp
theorem cut_line (l : List UInt8) : (Lib.cut l [10]).1 = l.takeWhile (· != 10) := by
  have key : (Lib.indexByte l 10 = -1 ∧ l.takeWhile (· != 10) = l) ∨ (Lib.indexByte l 10 = ((l.takeWhile (· != 10)).length : Int) ∧ l.take (l.takeWhile (· != 10)).length = l.takeWhile (· != 10)) := by
    induction l with
    | nil => exact Or.inl ⟨rfl, rfl⟩
    | cons b l ih =>
      unfold Lib.indexByte
      by_cases hb : b = 10
      · subst hb; right; simp
      · have h1 : (b == 10) = false := by simpa using hb
        have h2 : (b != 10) = true := by simpa using hb
        rw [h1, List.takeWhile_cons, if_pos h2]
        simp only [Bool.false_eq_true, if_false]
        rcases ih with ⟨e1, e2⟩ | ⟨e1, e2⟩
        · left; rw [e1, e2]; exact ⟨rfl, rfl⟩
        · right
          rw [e1, if_neg (by rw [beq_iff_eq]; omega)]
          refine ⟨by simp, ?_⟩
          rw [List.length_cons, List.take_succ_cons, e2]
  unfold Lib.cut
  rw [Lib.index_one]
  rcases key with ⟨e1, e2⟩ | ⟨e1, e2⟩
  · rw [e1, if_neg (by decide), e2]
  · rw [e1, if_pos (by omega)]
    show l.take ((l.takeWhile (· != 10)).length : Int).toNat = _
    rw [Int.toNat_natCast, e2]

theorem signOf_bounds (l : List UInt8) : ∀ n : Nat, (signOf l n).ok = true → 1 ≤ (signOf l n).n ∧ (signOf l n).n ≤ l.length := by
  intro n
  induction n with
  | zero => intro h; rw [signOf] at h; cases h
  | succ n ih =>
    intro h
    rw [signOf] at h ⊢
    split at h
    · rename_i hc; rw [if_pos hc]; exact ⟨by show 1 ≤ n + 1; omega, hc.1⟩
    · rename_i hc; rw [if_neg hc]; exact ih h
theorem tokR_bounds {L : List UInt8} (h0 : 0 < L.length) (h : (tokR L).ok = true) : 1 ≤ (tokR L).n ∧ (tokR L).n ≤ L.length := by
  rcases kind_cases L[0] with ⟨h1, hn, _⟩ | ⟨h1, h3, hn, _⟩ | ⟨h1, h3, _, h4, _⟩ | ⟨h1, h3, _, h4, _⟩
  · have e := tokR_let L h0 h1
    rw [e] at h ⊢
    split at h
    · cases h
    · rename_i hc; rw [if_neg hc]; exact ⟨run_pos L h0 hn, runN_le L⟩
  · have e := tokR_dig L h0 h1 h3
    rw [e] at h ⊢
    split at h
    · cases h
    · rename_i hc; rw [if_neg hc]; exact ⟨run_pos L h0 hn, runN_le L⟩
  · have e := tokR_qu L h0 h1 h3 h4
    rw [e] at h ⊢
    cases hx : CloseAt L[0] L 1 with
    | none => rw [hx] at h; cases h
    | some en =>
      rw [hx] at h
      simp only at h ⊢
      obtain ⟨b1, b2⟩ := close_bounds hx
      split at h
      · cases h
      · rename_i c1
        split at h
        · cases h
        · rename_i c2
          rw [if_neg c1, if_neg c2]
          exact ⟨by show 1 ≤ en + 1; omega, by show en + 1 ≤ _; omega⟩
  · have e := tokR_other L h0 h1 h3 h4
    rw [e] at h ⊢
    exact signOf_bounds L 3 h

/-! ### tokens in memory -/

structure TC where
  k : Int
  p : Nat
  text : ByteArray
  num : Nat
def TC.cells (c : TC) : List Value := [.int .u8 c.k, .int .i64 c.p, .string c.text, .float .f64 c.num]
def cellsT (l : List TC) : List Value := l.flatMap TC.cells
theorem cellsT_length (l : List TC) : (cellsT l).length = l.length * 4 := by
  induction l with
  | nil => rfl
  | cons a l ih => unfold cellsT at *; rw [List.flatMap_cons, List.length_append, ih]; simp [TC.cells]; omega
theorem cellsT_append (l m : List TC) : cellsT (l ++ m) = cellsT l ++ cellsT m := by unfold cellsT; rw [List.flatMap_append]
theorem cellsT_get (l : List TC) (i f : Nat) (hi : i < l.length) (hf : f < 4) : (cellsT l)[i * 4 + f]? = l[i].cells[f]? := by
  induction l generalizing i with
  | nil => simp at hi
  | cons a l ih =>
    have e : cellsT (a :: l) = a.cells ++ cellsT l := rfl
    rw [e]
    match i with
    | 0 => rw [List.getElem?_append_left (by simp [TC.cells]; omega)]; simp
    | i + 1 =>
      rw [List.getElem?_append_right (by simp [TC.cells]; omega), show (i + 1) * 4 + f - a.cells.length = i * 4 + f by simp [TC.cells]; omega]
      simpa using ih i (by simpa using hi)
/-- A token in memory is this one. -/
def Mt (t : Tk) (c : TC) : Prop := c.k = t.k ∧ c.p = t.p ∧ c.text.data.toList = t.text ∧ Fl.Is c.num t.num
def Mts : List Tk → List TC → Prop
  | [], [] => True
  | t :: ts, c :: cs => Mt t c ∧ Mts ts cs
  | _, _ => False
theorem mts_length : ∀ {ts : List Tk} {cs : List TC}, Mts ts cs → ts.length = cs.length
  | [], [], _ => rfl
  | _ :: _, _ :: _, h => by simp [mts_length h.2]
  | [], _ :: _, h => h.elim
  | _ :: _, [], h => h.elim
theorem mts_snoc : ∀ {ts : List Tk} {cs : List TC} {t : Tk} {c : TC}, Mts ts cs → Mt t c → Mts (ts ++ [t]) (cs ++ [c])
  | [], [], _, _, _, h => ⟨h, trivial⟩
  | _ :: _, _ :: _, _, _, h, k => ⟨h.1, mts_snoc h.2 k⟩
  | [], _ :: _, _, _, h, _ => h.elim
  | _ :: _, [], _, _, h, _ => h.elim
theorem mts_get : ∀ {ts : List Tk} {cs : List TC} (_ : Mts ts cs) (i : Nat) (hi : i < ts.length) (hj : i < cs.length), Mt ts[i] cs[i]
  | t :: ts, c :: cs, h, 0, _, _ => h.1
  | t :: ts, c :: cs, h, i + 1, hi, hj => by simpa using mts_get h.2 i (by simpa using hi) (by simpa using hj)
  | [], _, _, i, hi, _ => by simp at hi
  | _ :: _, [], h, _, _, _ => h.elim

/-- A slice of tokens in memory of the call's own. -/
abbrev RowT (B : Nat) (cs : List TC) (v : Value) (w : World) : Prop := w.ownsRow B 25 4 v cs.length (cellsT cs)
def TokensQ (l : List UInt8) (w : World) (e : Ending) (w' : World) : Prop := ∃ v cs, e = .returned (.tuple #[v, .int .i64 ((lexR l).2.1 : Nat), .int .i64 (lexR l).2.2]) ∧ RowT w.heap.size cs v w' ∧ Mts (lexR l).1 cs ∧ Below w.heap.size w w'
/-- Where a cutting stands. -/
def LexAt (l : List UInt8) (w : World) (v : Value) (p : Nat) (wr : World) : Prop := ∃ (cs : List TC) (acc : List Tk) (f : Nat), RowT w.heap.size cs v wr ∧ Mts acc cs ∧ acc.length ≤ 16384 ∧ lexR l = lexGo f (l.drop p) p acc ∧ l.length < p + f ∧ Below w.heap.size w wr
theorem lexAt_skip {l : List UInt8} {w wr w2 : World} {p n f : Nat} {cs : List TC} {acc : List Tk} {v : Value} (hr : RowT w.heap.size cs v wr) (hm : Mts acc cs) (ha : acc.length ≤ 16384) (hl : lexR l = lexGo (f + 1) (l.drop p) p acc) (hf : l.length < p + (f + 1)) (_hb : Below w.heap.size w wr)
    (h0 : 0 < (l.drop p).length) (hh : headR (l.drop p) = .skip n) (hn : 0 < n) (hr2 : RowT w.heap.size cs v wr → RowT w.heap.size cs v w2) (hb2 : Below w.heap.size w w2) : LexAt l w v (p + n) w2 :=
  ⟨cs, acc, f, hr2 hr, hm, ha, by rw [hl, lexGo_skip h0 hh, List.drop_drop], by omega, hb2⟩

end Go.Proofs.YtkomjmgmancinaaDoor

namespace Go.Proofs.YtkomjmgmancinaaDoor
open Go.RowKit

/-- A token as it lies in memory, whatever it be. -/
structure TI where
  k : Int
  p : Int
  text : ByteArray
  num : Nat
def TI.cells (t : TI) : List Value := [.int .u8 t.k, .int .i64 t.p, .string t.text, .float .f64 t.num]
def TI.agg (t : TI) : Value := .agg #[.int .u8 t.k, .int .i64 t.p, .string t.text, .float .f64 t.num]
def ge0 (x : Nat) : Bool := FloatKind.f64.format.order x 0 == some .gt || FloatKind.f64.format.order x 0 == some .eq
def eq0 (x : Nat) : Bool := FloatKind.f64.format.order x 0 == some .eq
/-- May a text be a name, but for its length? -/
def nameB (l : List UInt8) : Bool := (l.take 1).any isLet && decide (runN l = l.length)
/-- May a token be that is not the end? -/
def mayB (t : TI) : Bool :=
  if t.k = 3 then t.text.data.toList.isEmpty && (ge0 t.num && Fl.may t.num)
  else if t.k = 4 then eq0 t.num && decide (t.text.size ≤ 4096)
  else if t.k = 5 then eq0 t.num && signB t.text.data.toList
  else if t.k = 1 ∨ t.k = 2 then eq0 t.num && (!t.text.data.toList.isEmpty && (decide (t.text.size ≤ 4096) && (nameB t.text.data.toList && (wordB t.text.data.toList == decide (t.k = 2)))))
  else false
/-- Is a token an end? -/
def endB (t : TI) : Bool := decide (t.k = 0) && (t.text.data.toList.isEmpty && eq0 t.num)
/-- What a token is written as. -/
def pieceR (t : TI) : List UInt8 := if t.k = 3 then textR t.num else if t.k = 4 then quoted t.text.data.toList ++ [34] else t.text.data.toList
/-- Tokens written behind what is written already (not yet the first one: no blank ahead of it). -/
def writeGo : List TI → Bool → List UInt8 → Option (List UInt8)
  | [], _, acc => some acc
  | t :: ts, first, acc =>
    let a2 := acc ++ (if first then [] else [32]) ++ pieceR t
    if 65536 < a2.length then none else writeGo ts false a2
/-- Tokens written: the text, the error. -/
def writeR (l : List TI) : List UInt8 × Int :=
  if 16385 < l.length then ([], 4)
  else if (l.getLast?.map endB).getD false = false then ([], 5)
  else if l.dropLast.all mayB = false then ([], 5)
  else match writeGo l.dropLast true [] with
    | none => ([], 3)
    | some s => (s, 0)

end Go.Proofs.YtkomjmgmancinaaDoor
