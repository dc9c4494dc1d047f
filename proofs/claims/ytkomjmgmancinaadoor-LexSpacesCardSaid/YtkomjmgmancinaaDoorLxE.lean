/-
  What a word of an answer stands for.
  Plain facts on numerals: what a text's number is.
  A string quoted, as lists of bytes (plain): what each byte becomes.
  What stands between two quotes, read (plain, on lists of bytes); and that a quoted string is read back.
-/
import Derived.Test.YtkomjmgmancinaaDoorLxD
import Derived.Test.YtkomjmgmancinaaDoorLxA
import Derived.Lib.ItoaNum
import Derived.Lib.ItoaMem
import Derived.Lib.SlTrimSet
import Derived.Lib.ItoaLen
namespace Go.Proofs.YtkomjmgmancinaaDoor
open Go.RowKit

/-- What a word of an answer stands for: no number, or a whole number. -/
def Stands (v : Nat) : Option Int → Prop
  | none => Fl.isNaN v = true
  | some n => Fl.Is v n

theorem stands_same {v u : Nat} {c : Option Int} (h : Stands v c) (k : Stands u c) : Fl.same v u = true := by
  cases c with
  | none => exact Fl.same_of_nan h k
  | some n => exact Fl.same_of_is h k

def finN (n : Int) : Int × Option Int := if n.natAbs ≤ 9007199254740991 then (0, some n) else (10, some 0)
def Tells (r : Int × Option Int) (w : World) (e : Ending) (w' : World) : Prop :=
  (∃ v, e = .returned (.tuple #[.float .f64 v, .int .i64 r.1]) ∧ Stands v r.2) ∧ Below w.heap.size w w'

theorem may_cases {x : Nat} (h : Fl.may x = true) : Fl.isNaN x = true ∨ (Fl.isNaN x = false ∧ Fl.Is x (Fl.toW x) ∧ (Fl.toW x).natAbs ≤ 9007199254740991) := by
  cases hn : Fl.isNaN x
  · right
    have hw : Fl.isW x = true := by unfold Fl.may at h; rw [hn] at h; simpa using h
    obtain ⟨h1, h2, h3⟩ := (Fl.isW_iff x).1 hw
    unfold Fl.safe at h2 h3
    exact ⟨rfl, h1, by omega⟩
  · exact Or.inl rfl

end Go.Proofs.YtkomjmgmancinaaDoor

namespace Go.Proofs.YtkomjmgmancinaaDoor

/-- Is a byte a digit? -/
def isDig (b : UInt8) : Bool := decide (48 ≤ b.toNat) && decide (b.toNat ≤ 57)
/-- The number that digits tell. -/
def worth (l : List UInt8) : Nat := l.foldl (fun n b => 10 * n + (b.toNat - 48)) 0

theorem worth_snoc (l : List UInt8) (b : UInt8) : worth (l ++ [b]) = 10 * worth l + (b.toNat - 48) := by
  unfold worth; rw [List.foldl_append]; rfl

theorem foldl_ge (l : List UInt8) : ∀ n : Nat, n ≤ l.foldl (fun n b => 10 * n + (b.toNat - 48)) n := by
  induction l with
  | nil => intro n; exact Nat.le_refl _
  | cons b l ih => intro n; rw [List.foldl_cons]; exact Nat.le_trans (by omega) (ih _)

theorem worth_mono (l m : List UInt8) : worth l ≤ worth (l ++ m) := by
  unfold worth; rw [List.foldl_append]; exact foldl_ge m _

theorem worth_take_le (l : List UInt8) (k : Nat) : worth (l.take k) ≤ worth l := by
  have := worth_mono (l.take k) (l.drop k)
  rwa [List.take_append_drop] at this

/-- The sign struck. -/
def unsigned (t : List UInt8) : List UInt8 := if t.head? = some 45 ∨ t.head? = some 43 then t.tail else t

/-- What a text without blanks tells. -/
def bareR (t : List UInt8) : Int × Option Int :=
  if t = [] then (0, some 0)
  else if unsigned t = [] then (0, none)
  else if (unsigned t).all isDig = false then (0, none)
  else if 9007199254740991 < worth (unsigned t) ∨ (t.head? = some 45 ∧ worth (unsigned t) = 0) then (10, some 0)
  else (0, some (if t.head? = some 45 then -(worth (unsigned t) : Int) else (worth (unsigned t) : Int)))
/-- What a text tells. -/
def readR (s : List UInt8) : Int × Option Int := bareR (Lib.trimS s blanks)

theorem decDigits_step (k : Nat) (h : ¬ k < 10) : Lib.decDigits k = Lib.decDigits (k / 10) ++ [UInt8.ofNat (48 + k % 10)] := by
  rw [Lib.decDigits, dif_neg h]

theorem decDigits_le (k : Nat) (h : k ≤ 9007199254740991) : (Lib.decDigits k).length ≤ 21 := by
  have := Lib.itoa_length_le (k : Int) (by omega) (by omega)
  rwa [Lib.itoa_nonneg] at this

end Go.Proofs.YtkomjmgmancinaaDoor

namespace Go.Proofs.YtkomjmgmancinaaDoor

/-- A sixteen's sign. -/
def hexd (n : Nat) : UInt8 := if n < 10 then UInt8.ofNat (48 + n) else UInt8.ofNat (87 + n)
/-- A byte between quotes. -/
def qc (c : UInt8) : List UInt8 :=
  if c.toNat = 34 then [92, c] else if c.toNat = 92 then [92, c] else if c.toNat = 10 then [92, 110] else if c.toNat = 9 then [92, 116] else if c.toNat = 13 then [92, 114]
  else if c.toNat < 32 then [92, 120, hexd (c.toNat / 16), hexd (c.toNat % 16)] else if 126 < c.toNat then [92, 120, hexd (c.toNat / 16), hexd (c.toNat % 16)] else [c]
def quoted (l : List UInt8) : List UInt8 := 34 :: l.flatMap qc

theorem qc_length (c : UInt8) : 1 ≤ (qc c).length ∧ (qc c).length ≤ 4 := by
  unfold qc
  repeat' split
  all_goals simp

theorem flat_length (l : List UInt8) : l.length ≤ (l.flatMap qc).length ∧ (l.flatMap qc).length ≤ 4 * l.length := by
  induction l with
  | nil => simp
  | cons c r ih =>
    have := qc_length c
    simp only [List.flatMap_cons, List.length_append, List.length_cons]
    omega

theorem quoted_length (l : List UInt8) : (quoted l).length ≤ 4 * l.length + 1 := by
  have := flat_length l
  simp only [quoted, List.length_cons]; omega

theorem take_snoc (l : List UInt8) (k : Nat) (h : k < l.length) : l.take (k + 1) = l.take k ++ [l[k]] := by
  rw [List.take_succ_eq_append_getElem h]

theorem quoted_snoc (l : List UInt8) (k : Nat) (h : k < l.length) : quoted (l.take (k + 1)) = quoted (l.take k) ++ qc l[k] := by
  unfold quoted
  rw [take_snoc l k h, List.flatMap_append]
  simp [List.flatMap_cons]

/-- The kinds of bytes. -/
theorem byte_kinds (c : UInt8) : (c.toNat = 34 ∧ qc c = [92, 34]) ∨ (c.toNat = 92 ∧ qc c = [92, 92]) ∨ (c.toNat = 10 ∧ qc c = [92, 110]) ∨ (c.toNat = 9 ∧ qc c = [92, 116]) ∨ (c.toNat = 13 ∧ qc c = [92, 114]) ∨
    ((c.toNat < 32 ∧ c.toNat ≠ 10 ∧ c.toNat ≠ 9 ∧ c.toNat ≠ 13) ∧ qc c = [92, 120, hexd (c.toNat / 16), hexd (c.toNat % 16)]) ∨
    (126 < c.toNat ∧ qc c = [92, 120, hexd (c.toNat / 16), hexd (c.toNat % 16)]) ∨
    ((32 ≤ c.toNat ∧ c.toNat ≤ 126 ∧ c.toNat ≠ 34 ∧ c.toNat ≠ 92) ∧ qc c = [c]) := by
  by_cases h1 : c.toNat = 34
  · have : c = 34 := UInt8.toNat_inj.1 h1
    subst this; exact Or.inl ⟨h1, rfl⟩
  by_cases h2 : c.toNat = 92
  · have : c = 92 := UInt8.toNat_inj.1 h2
    subst this; exact Or.inr (Or.inl ⟨h2, rfl⟩)
  by_cases h3 : c.toNat = 10
  · exact Or.inr (Or.inr (Or.inl ⟨h3, by simp [qc, h3]⟩))
  by_cases h4 : c.toNat = 9
  · exact Or.inr (Or.inr (Or.inr (Or.inl ⟨h4, by simp [qc, h4]⟩)))
  by_cases h5 : c.toNat = 13
  · exact Or.inr (Or.inr (Or.inr (Or.inr (Or.inl ⟨h5, by simp [qc, h5]⟩))))
  by_cases h6 : c.toNat < 32
  · exact Or.inr (Or.inr (Or.inr (Or.inr (Or.inr (Or.inl ⟨⟨h6, h3, h4, h5⟩, by simp [qc, h1, h2, h3, h4, h5, h6]⟩)))))
  by_cases h7 : 126 < c.toNat
  · exact Or.inr (Or.inr (Or.inr (Or.inr (Or.inr (Or.inr (Or.inl ⟨h7, by simp [qc, h1, h2, h3, h4, h5, h6, h7]⟩))))))
  · exact Or.inr (Or.inr (Or.inr (Or.inr (Or.inr (Or.inr (Or.inr ⟨⟨by omega, by omega, h1, h2⟩, by simp [qc, h1, h2, h3, h4, h5, h6, h7]⟩))))))

end Go.Proofs.YtkomjmgmancinaaDoor

namespace Go.Proofs.YtkomjmgmancinaaDoor

/-- A sixteen's worth. -/
def hexv (c : UInt8) : Option Nat := if 48 ≤ c.toNat ∧ c.toNat ≤ 57 then some (c.toNat - 48) else if 97 ≤ c.toNat ∧ c.toNat ≤ 102 then some (c.toNat - 87) else none

/-- What stands behind a backslash and an x. -/
def escX : List UInt8 → Option (UInt8 × Nat)
  | a :: b :: _ => match hexv a, hexv b with
    | some x, some y => some (UInt8.ofNat (16 * x + y), 3)
    | _, _ => none
  | _ => none

/-- What stands behind a backslash: the byte, and how long it is. -/
def esc : List UInt8 → Option (UInt8 × Nat)
  | [] => none
  | c :: r =>
    if c.toNat = 92 ∨ c.toNat = 34 ∨ c.toNat = 39 then some (c, 1)
    else if c.toNat = 110 then some (10, 1)
    else if c.toNat = 116 then some (9, 1)
    else if c.toNat = 114 then some (13, 1)
    else if c.toNat = 120 then escX r
    else none

theorem esc_cons (c : UInt8) (r : List UInt8) : esc (c :: r) = if c.toNat = 92 ∨ c.toNat = 34 ∨ c.toNat = 39 then some (c, 1) else if c.toNat = 110 then some (10, 1) else if c.toNat = 116 then some (9, 1)
    else if c.toNat = 114 then some (13, 1) else if c.toNat = 120 then escX r else none := rfl

theorem escX_len {l : List UInt8} {b : UInt8} {n : Nat} (h : escX l = some (b, n)) : n = 3 ∧ 2 ≤ l.length := by
  match l, h with
  | a :: c :: r, h =>
    simp only [escX] at h
    split at h
    · cases h; simp
    · cases h
  | [a], h => cases h
  | [], h => cases h

theorem esc_len {l : List UInt8} {b : UInt8} {n : Nat} (h : esc l = some (b, n)) : 1 ≤ n ∧ n ≤ l.length := by
  match l, h with
  | [], h => cases h
  | c :: r, h =>
    rw [esc_cons] at h
    split at h
    · cases h; simp
    split at h
    · cases h; simp
    split at h
    · cases h; simp
    split at h
    · cases h; simp
    split at h
    · have := escX_len h
      simp only [List.length_cons]; omega
    · cases h

/-- The reading, step by step: the rest, where it stands, what was read. -/
def scan : Nat → List UInt8 → Nat → List UInt8 → Nat ⊕ List UInt8
  | 0, _, _, out => .inr out
  | _ + 1, [], _, out => .inr out
  | f + 1, c :: r, i, out =>
    if c.toNat = 92 then
      match esc r with
      | none => .inl i
      | some (b, n) => scan f (r.drop n) (i + 1 + n) (out ++ [b])
    else scan f r (i + 1) (out ++ [c])

def scanAll (l : List UInt8) : Nat ⊕ List UInt8 := scan (l.length + 1) l 0 []

/-- What Plain tells: the text, the place, the error. -/
def plainR (l : List UInt8) : List UInt8 × Nat × Int :=
  if 65536 < l.length then ([], 0, 3) else
  match scanAll l with
  | .inl i => ([], i, 5)
  | .inr out => if 4096 < out.length then ([], 0, 20) else (out, 0, 0)

/-- Where a reading stands: the whole is what the rest comes to. -/
def At (l : List UInt8) (i : Nat) (out : List UInt8) : Prop := i ≤ l.length ∧ out.length ≤ i ∧ ∃ f, l.length - i < f ∧ scanAll l = scan f (l.drop i) i out

theorem at_0 (l : List UInt8) : At l 0 [] := ⟨by omega, by simp, l.length + 1, by omega, rfl⟩

theorem at_end {l : List UInt8} {out : List UInt8} (h : At l l.length out) : scanAll l = .inr out := by
  obtain ⟨_, _, f, hf, e⟩ := h
  rw [e, List.drop_length]
  cases f <;> rfl

theorem at_byte {l : List UInt8} {i : Nat} {out : List UInt8} (h : At l i out) (hi : i < l.length) (hc : l[i].toNat ≠ 92) : At l (i + 1) (out ++ [l[i]]) := by
  obtain ⟨h1, h2, f, hf, e⟩ := h
  obtain ⟨g, rfl⟩ : ∃ g, f = g + 1 := ⟨f - 1, by omega⟩
  refine ⟨by omega, by simp; omega, g, by omega, ?_⟩
  rw [e, List.drop_eq_getElem_cons hi, scan, if_neg hc]

theorem at_none {l : List UInt8} {i : Nat} {out : List UInt8} (h : At l i out) (hi : i < l.length) (hc : l[i].toNat = 92) (he : esc (l.drop (i + 1)) = none) : scanAll l = .inl i := by
  obtain ⟨h1, h2, f, hf, e⟩ := h
  obtain ⟨g, rfl⟩ : ∃ g, f = g + 1 := ⟨f - 1, by omega⟩
  rw [e, List.drop_eq_getElem_cons hi, scan, if_pos hc, he]

theorem at_some {l : List UInt8} {i : Nat} {out : List UInt8} (h : At l i out) (hi : i < l.length) (hc : l[i].toNat = 92) {b : UInt8} {n : Nat} (he : esc (l.drop (i + 1)) = some (b, n)) : At l (i + 1 + n) (out ++ [b]) := by
  obtain ⟨h1, h2, f, hf, e⟩ := h
  obtain ⟨g, rfl⟩ : ∃ g, f = g + 1 := ⟨f - 1, by omega⟩
  have hn := esc_len he
  rw [List.length_drop] at hn
  refine ⟨by omega, by simp; omega, g, by omega, ?_⟩
  rw [e, List.drop_eq_getElem_cons hi, scan, if_pos hc, he]
  simp only
  rw [List.drop_drop]

end Go.Proofs.YtkomjmgmancinaaDoor
