/-
  Plain laws: a text that is quoted and read is itself; a quoted text's bytes are printable.
-/
import Derived.Test.YtnlaolehpofmlaaQuotePlain
import Derived.Test.YtnlaolehpofmlaaPlainPlain
namespace Go.Proofs.Ytnlaolehpofmlaa

theorem hexd_ok : ∀ n : Fin 16, hexv (hexd n) = some n.val ∧ 32 ≤ (hexd n).toNat ∧ (hexd n).toNat ≤ 126 := by decide

theorem qc_esc (c : UInt8) : (qc c = [c] ∧ c.toNat ≠ 92) ∨ ∃ t, qc c = 92 :: t ∧ ∀ r, esc (t ++ r) = some (c, t.length) := by
  have h256 : c.toNat < 256 := c.toNat_lt
  have hh : ∀ r, esc ([120, hexd (c.toNat / 16), hexd (c.toNat % 16)] ++ r) = some (c, 3) := by
    intro r
    have e1 := (hexd_ok ⟨c.toNat / 16, by omega⟩).1
    have e2 := (hexd_ok ⟨c.toNat % 16, by omega⟩).1
    show esc (120 :: hexd (c.toNat / 16) :: hexd (c.toNat % 16) :: r) = _
    rw [esc_cons, if_neg (by decide), if_neg (by decide), if_neg (by decide), if_neg (by decide), if_pos (by decide), escX]
    simp only at e1 e2
    rw [e1, e2]
    simp only
    have e3 : UInt8.ofNat (16 * (c.toNat / 16) + c.toNat % 16) = c := by
      apply UInt8.toNat_inj.1
      rw [UInt8.toNat_ofNat']; omega
    rw [e3]
  rcases byte_kinds c with ⟨h, hq⟩ | ⟨h, hq⟩ | ⟨h, hq⟩ | ⟨h, hq⟩ | ⟨h, hq⟩ | ⟨h, hq⟩ | ⟨h, hq⟩ | ⟨h, hq⟩
  · obtain rfl : c = 34 := UInt8.toNat_inj.1 h
    exact Or.inr ⟨_, hq, fun r => rfl⟩
  · obtain rfl : c = 92 := UInt8.toNat_inj.1 h
    exact Or.inr ⟨_, hq, fun r => rfl⟩
  · obtain rfl : c = 10 := UInt8.toNat_inj.1 h
    exact Or.inr ⟨_, hq, fun r => rfl⟩
  · obtain rfl : c = 9 := UInt8.toNat_inj.1 h
    exact Or.inr ⟨_, hq, fun r => rfl⟩
  · obtain rfl : c = 13 := UInt8.toNat_inj.1 h
    exact Or.inr ⟨_, hq, fun r => rfl⟩
  · exact Or.inr ⟨_, hq, hh⟩
  · exact Or.inr ⟨_, hq, hh⟩
  · exact Or.inl ⟨hq, h.2.2.2⟩

theorem qc_print (c : UInt8) : ∀ x ∈ qc c, 32 ≤ x.toNat ∧ x.toNat ≤ 126 := by
  have h256 : c.toNat < 256 := c.toNat_lt
  have e1 := (hexd_ok ⟨c.toNat / 16, by omega⟩).2
  have e2 := (hexd_ok ⟨c.toNat % 16, by omega⟩).2
  simp only at e1 e2
  intro x hx
  rcases byte_kinds c with ⟨h, hq⟩ | ⟨h, hq⟩ | ⟨h, hq⟩ | ⟨h, hq⟩ | ⟨h, hq⟩ | ⟨h, hq⟩ | ⟨h, hq⟩ | ⟨h, hq⟩ <;> rw [hq] at hx <;> simp only [List.mem_cons, List.not_mem_nil, or_false] at hx
  · rcases hx with rfl | rfl <;> decide
  · rcases hx with rfl | rfl <;> decide
  · rcases hx with rfl | rfl <;> decide
  · rcases hx with rfl | rfl <;> decide
  · rcases hx with rfl | rfl <;> decide
  · rcases hx with rfl | rfl | rfl | rfl
    · decide
    · decide
    · exact e1
    · exact e2
  · rcases hx with rfl | rfl | rfl | rfl
    · decide
    · decide
    · exact e1
    · exact e2
  · subst hx; omega

theorem scan_quoted (l : List UInt8) : ∀ (i : Nat) (out : List UInt8) (f : Nat), (l.flatMap qc).length < f → scan f (l.flatMap qc) i out = .inr (out ++ l) := by
  induction l with
  | nil => intro i out f hf; cases f with
    | zero => simp at hf
    | succ f => simp [scan]
  | cons c r ih =>
    intro i out f hf
    cases f with
    | zero => simp at hf
    | succ f =>
      rw [List.flatMap_cons] at hf ⊢
      rw [List.length_append] at hf
      rcases qc_esc c with ⟨hq, hc⟩ | ⟨t, hq, ht⟩
      · rw [hq] at hf ⊢
        show scan (f + 1) (c :: r.flatMap qc) i out = _
        rw [scan, if_neg hc, ih _ _ _ (by simp only [List.length_cons, List.length_nil, List.length_append] at hf; omega)]
        simp
      · rw [hq] at hf ⊢
        show scan (f + 1) (92 :: (t ++ r.flatMap qc)) i out = _
        rw [scan, if_pos (by decide), ht]
        simp only
        rw [List.drop_left, ih _ _ _ (by simp only [List.length_cons, List.length_nil, List.length_append] at hf; omega)]
        simp

theorem plain_quoted {l : List UInt8} (h : l.length ≤ 4096) : plainR (l.flatMap qc) = (l, 0, 0) := by
  have h1 := flat_length l
  unfold plainR scanAll
  rw [if_neg (by omega), scan_quoted l 0 [] _ (by omega)]
  simp only [List.nil_append]
  rw [if_neg (by omega)]

/-- The whole text between quotes. -/
theorem whole_print (l : List UInt8) : ∀ x ∈ quoted l ++ [34], 32 ≤ x.toNat ∧ x.toNat ≤ 126 := by
  intro x hx
  simp only [quoted, List.cons_append, List.mem_cons, List.mem_append, List.mem_flatMap, List.not_mem_nil, or_false] at hx
  rcases hx with rfl | ⟨c, _, hc⟩ | rfl
  · decide
  · exact qc_print c x hc
  · decide

end Go.Proofs.Ytnlaolehpofmlaa
