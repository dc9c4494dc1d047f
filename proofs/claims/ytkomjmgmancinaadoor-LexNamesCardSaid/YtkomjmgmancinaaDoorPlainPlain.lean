/-
  What stands between two quotes, read (plain, on lists of bytes); and that a quoted string is read back.
-/
import Derived.Test.YtkomjmgmancinaaDoorQuotePlain
namespace Go.Proofs.YtkomjmgmancinaaDoor

/-- A sixteen's worth. -/
def hexv (c : UInt8) : Option Nat := if 48 ≤ c.toNat ∧ c.toNat ≤ 57 then some (c.toNat - 48) else if 97 ≤ c.toNat ∧ c.toNat ≤ 102 then some (c.toNat - 87) else none

/-- What stands behind a backslash and an x. -/
def escX : List UInt8 → Option (UInt8 × Nat)
  | a :: b :: _ => match hexv a, hexv b with
    | some x, some y => some (UInt8.ofNat (16 * x + y), 3)
    | _, _ => none
  | _ => none

/-- What stands behind a backslash: the byte, and how long it is. -/
def esc : List UInt8 → Option (UInt8 × Nat)
  | [] => none
  | c :: r =>
    if c.toNat = 92 ∨ c.toNat = 34 ∨ c.toNat = 39 then some (c, 1)
    else if c.toNat = 110 then some (10, 1)
    else if c.toNat = 116 then some (9, 1)
    else if c.toNat = 114 then some (13, 1)
    else if c.toNat = 120 then escX r
    else none

theorem esc_cons (c : UInt8) (r : List UInt8) : esc (c :: r) = if c.toNat = 92 ∨ c.toNat = 34 ∨ c.toNat = 39 then some (c, 1) else if c.toNat = 110 then some (10, 1) else if c.toNat = 116 then some (9, 1)
    else if c.toNat = 114 then some (13, 1) else if c.toNat = 120 then escX r else none := rfl

theorem escX_len {l : List UInt8} {b : UInt8} {n : Nat} (h : escX l = some (b, n)) : n = 3 ∧ 2 ≤ l.length := by
  match l, h with
  | a :: c :: r, h =>
    simp only [escX] at h
    split at h
    · cases h; simp
    · cases h
  | [a], h => cases h
  | [], h => cases h

theorem esc_len {l : List UInt8} {b : UInt8} {n : Nat} (h : esc l = some (b, n)) : 1 ≤ n ∧ n ≤ l.length := by
  match l, h with
  | [], h => cases h
  | c :: r, h =>
    rw [esc_cons] at h
    split at h
    · cases h; simp
    split at h
    · cases h; simp
    split at h
    · cases h; simp
    split at h
    · cases h; simp
    split at h
    · have := escX_len h
      simp only [List.length_cons]; omega
    · cases h

/-- The reading, step by step: the rest, where it stands, what was read. -/
def scan : Nat → List UInt8 → Nat → List UInt8 → Nat ⊕ List UInt8
  | 0, _, _, out => .inr out
  | _ + 1, [], _, out => .inr out
  | f + 1, c :: r, i, out =>
    if c.toNat = 92 then
      match esc r with
      | none => .inl i
      | some (b, n) => scan f (r.drop n) (i + 1 + n) (out ++ [b])
    else scan f r (i + 1) (out ++ [c])

def scanAll (l : List UInt8) : Nat ⊕ List UInt8 := scan (l.length + 1) l 0 []

/-- What Plain tells: the text, the place, the error. -/
def plainR (l : List UInt8) : List UInt8 × Nat × Int :=
  if 65536 < l.length then ([], 0, 3) else
  match scanAll l with
  | .inl i => ([], i, 5)
  | .inr out => if 4096 < out.length then ([], 0, 20) else (out, 0, 0)

/-- Where a reading stands: the whole is what the rest comes to. -/
def At (l : List UInt8) (i : Nat) (out : List UInt8) : Prop := i ≤ l.length ∧ out.length ≤ i ∧ ∃ f, l.length - i < f ∧ scanAll l = scan f (l.drop i) i out

theorem at_0 (l : List UInt8) : At l 0 [] := ⟨by omega, by simp, l.length + 1, by omega, rfl⟩

theorem at_end {l : List UInt8} {out : List UInt8} (h : At l l.length out) : scanAll l = .inr out := by
  obtain ⟨_, _, f, hf, e⟩ := h
  rw [e, List.drop_length]
  cases f <;> rfl

theorem at_byte {l : List UInt8} {i : Nat} {out : List UInt8} (h : At l i out) (hi : i < l.length) (hc : l[i].toNat ≠ 92) : At l (i + 1) (out ++ [l[i]]) := by
  obtain ⟨h1, h2, f, hf, e⟩ := h
  obtain ⟨g, rfl⟩ : ∃ g, f = g + 1 := ⟨f - 1, by omega⟩
  refine ⟨by omega, by simp; omega, g, by omega, ?_⟩
  rw [e, List.drop_eq_getElem_cons hi, scan, if_neg hc]

theorem at_none {l : List UInt8} {i : Nat} {out : List UInt8} (h : At l i out) (hi : i < l.length) (hc : l[i].toNat = 92) (he : esc (l.drop (i + 1)) = none) : scanAll l = .inl i := by
  obtain ⟨h1, h2, f, hf, e⟩ := h
  obtain ⟨g, rfl⟩ : ∃ g, f = g + 1 := ⟨f - 1, by omega⟩
  rw [e, List.drop_eq_getElem_cons hi, scan, if_pos hc, he]

theorem at_some {l : List UInt8} {i : Nat} {out : List UInt8} (h : At l i out) (hi : i < l.length) (hc : l[i].toNat = 92) {b : UInt8} {n : Nat} (he : esc (l.drop (i + 1)) = some (b, n)) : At l (i + 1 + n) (out ++ [b]) := by
  obtain ⟨h1, h2, f, hf, e⟩ := h
  obtain ⟨g, rfl⟩ : ∃ g, f = g + 1 := ⟨f - 1, by omega⟩
  have hn := esc_len he
  rw [List.length_drop] at hn
  refine ⟨by omega, by simp; omega, g, by omega, ?_⟩
  rw [e, List.drop_eq_getElem_cons hi, scan, if_pos hc, he]
  simp only
  rw [List.drop_drop]

end Go.Proofs.YtkomjmgmancinaaDoor
