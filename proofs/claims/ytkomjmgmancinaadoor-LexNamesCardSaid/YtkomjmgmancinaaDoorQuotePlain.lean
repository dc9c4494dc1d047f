/-
  A string quoted, as lists of bytes (plain): what each byte becomes.
-/
namespace Go.Proofs.YtkomjmgmancinaaDoor

/-- A sixteen's sign. -/
def hexd (n : Nat) : UInt8 := if n < 10 then UInt8.ofNat (48 + n) else UInt8.ofNat (87 + n)
/-- A byte between quotes. -/
def qc (c : UInt8) : List UInt8 :=
  if c.toNat = 34 then [92, c] else if c.toNat = 92 then [92, c] else if c.toNat = 10 then [92, 110] else if c.toNat = 9 then [92, 116] else if c.toNat = 13 then [92, 114]
  else if c.toNat < 32 then [92, 120, hexd (c.toNat / 16), hexd (c.toNat % 16)] else if 126 < c.toNat then [92, 120, hexd (c.toNat / 16), hexd (c.toNat % 16)] else [c]
def quoted (l : List UInt8) : List UInt8 := 34 :: l.flatMap qc

theorem qc_length (c : UInt8) : 1 ≤ (qc c).length ∧ (qc c).length ≤ 4 := by
  unfold qc
  repeat' split
  all_goals simp

theorem flat_length (l : List UInt8) : l.length ≤ (l.flatMap qc).length ∧ (l.flatMap qc).length ≤ 4 * l.length := by
  induction l with
  | nil => simp
  | cons c r ih =>
    have := qc_length c
    simp only [List.flatMap_cons, List.length_append, List.length_cons]
    omega

theorem quoted_length (l : List UInt8) : (quoted l).length ≤ 4 * l.length + 1 := by
  have := flat_length l
  simp only [quoted, List.length_cons]; omega

theorem take_snoc (l : List UInt8) (k : Nat) (h : k < l.length) : l.take (k + 1) = l.take k ++ [l[k]] := by
  rw [List.take_succ_eq_append_getElem h]

theorem quoted_snoc (l : List UInt8) (k : Nat) (h : k < l.length) : quoted (l.take (k + 1)) = quoted (l.take k) ++ qc l[k] := by
  unfold quoted
  rw [take_snoc l k h, List.flatMap_append]
  simp [List.flatMap_cons]

/-- The kinds of bytes. -/
theorem byte_kinds (c : UInt8) : (c.toNat = 34 ∧ qc c = [92, 34]) ∨ (c.toNat = 92 ∧ qc c = [92, 92]) ∨ (c.toNat = 10 ∧ qc c = [92, 110]) ∨ (c.toNat = 9 ∧ qc c = [92, 116]) ∨ (c.toNat = 13 ∧ qc c = [92, 114]) ∨
    ((c.toNat < 32 ∧ c.toNat ≠ 10 ∧ c.toNat ≠ 9 ∧ c.toNat ≠ 13) ∧ qc c = [92, 120, hexd (c.toNat / 16), hexd (c.toNat % 16)]) ∨
    (126 < c.toNat ∧ qc c = [92, 120, hexd (c.toNat / 16), hexd (c.toNat % 16)]) ∨
    ((32 ≤ c.toNat ∧ c.toNat ≤ 126 ∧ c.toNat ≠ 34 ∧ c.toNat ≠ 92) ∧ qc c = [c]) := by
  by_cases h1 : c.toNat = 34
  · have : c = 34 := UInt8.toNat_inj.1 h1
    subst this; exact Or.inl ⟨h1, rfl⟩
  by_cases h2 : c.toNat = 92
  · have : c = 92 := UInt8.toNat_inj.1 h2
    subst this; exact Or.inr (Or.inl ⟨h2, rfl⟩)
  by_cases h3 : c.toNat = 10
  · exact Or.inr (Or.inr (Or.inl ⟨h3, by simp [qc, h3]⟩))
  by_cases h4 : c.toNat = 9
  · exact Or.inr (Or.inr (Or.inr (Or.inl ⟨h4, by simp [qc, h4]⟩)))
  by_cases h5 : c.toNat = 13
  · exact Or.inr (Or.inr (Or.inr (Or.inr (Or.inl ⟨h5, by simp [qc, h5]⟩))))
  by_cases h6 : c.toNat < 32
  · exact Or.inr (Or.inr (Or.inr (Or.inr (Or.inr (Or.inl ⟨⟨h6, h3, h4, h5⟩, by simp [qc, h1, h2, h3, h4, h5, h6]⟩)))))
  by_cases h7 : 126 < c.toNat
  · exact Or.inr (Or.inr (Or.inr (Or.inr (Or.inr (Or.inr (Or.inl ⟨h7, by simp [qc, h1, h2, h3, h4, h5, h6, h7]⟩))))))
  · exact Or.inr (Or.inr (Or.inr (Or.inr (Or.inr (Or.inr (Or.inr ⟨⟨by omega, by omega, h1, h2⟩, by simp [qc, h1, h2, h3, h4, h5, h6, h7]⟩))))))

end Go.Proofs.YtkomjmgmancinaaDoor
