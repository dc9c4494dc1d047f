/-
  Plain laws for LexOne: a text of a name's bytes is one token; a sign is one token.
  Plain laws: a text that is quoted and read is itself; a quoted text's bytes are printable.
-/
import Derived.Test.YtkomjmgmancinaaDoorLxR
import Derived.Test.YtkomjmgmancinaaDoorLxE
namespace Go.Proofs.YtkomjmgmancinaaDoor
open Go.RowKit

deriving instance DecidableEq for Tk

/-- What a text that stands in a row is cut from. -/
theorem among_from {row s : List UInt8} (h : amongB row s = true) : s ≠ [] ∧ s.contains 32 = false ∧ ∃ i, i < row.length ∧ (row.drop (i + 1)).take s.length = s := by
  unfold amongB at h
  simp only [Bool.and_eq_true, Bool.not_eq_true', contains_one] at h
  obtain ⟨h0, h1, h2⟩ := h
  refine ⟨(by intro e; rw [e] at h0; cases h0), h1, ?_⟩
  unfold Lib.contains at h2
  rw [decide_eq_true_eq] at h2
  rcases Lib.index_spec row ([32] ++ s ++ [32]) with ⟨e, _⟩ | ⟨i, e, _, ho, _⟩
  · rw [e] at h2; exact absurd h2 (by decide)
  · have hr := Lib.index_room _ _ h2
    rw [e] at hr
    simp only [List.length_append, List.length_singleton] at hr
    have h3 := occ3 row s i (by omega)
    rw [ho] at h3
    have h4 := h3.symm
    simp only [Bool.and_eq_true, beq_iff_eq] at h4
    exact ⟨i, by omega, h4.2.1⟩
theorem among_mem {row s : List UInt8} (h : amongB row s = true) {b : UInt8} (hb : b ∈ s) : b ∈ row ∧ b ≠ 32 := by
  obtain ⟨_, h1, i, _, h2⟩ := among_from h
  refine ⟨?_, fun e => ?_⟩
  · rw [← h2] at hb
    exact List.mem_of_mem_drop (List.mem_of_mem_take hb)
  · rw [e, ← List.contains_iff_mem, h1] at hb; cases hb
theorem word_let {s : List UInt8} (h : wordB s = true) {b : UInt8} (hb : b ∈ s) : isLet b = true := by
  obtain ⟨h1, h2⟩ := among_mem h hb
  have hx : (wordsL.all fun b => b == 32 || isLet b) = true := by decide +kernel
  have := List.all_eq_true.1 hx b h1
  rw [Bool.or_eq_true, beq_iff_eq] at this
  rcases this with h | h
  · exact absurd h h2
  · exact h
theorem sign_not {s : List UInt8} (h : signB s = true) {b : UInt8} (hb : b ∈ s) : isNm b = false := by
  obtain ⟨h1, h2⟩ := among_mem h hb
  have hx : (signsL.all fun b => b == 32 || !isNm b) = true := by decide +kernel
  have := List.all_eq_true.1 hx b h1
  rw [Bool.or_eq_true, beq_iff_eq, Bool.not_eq_true'] at this
  rcases this with h | h
  · exact absurd h h2
  · exact h

def oneOk (k : Int) (t : List UInt8) : Prop := lexR t = ([⟨k, 0, t, 0⟩, ⟨0, t.length, [], 0⟩], 0, 0)
instance (k : Int) (t : List UInt8) : Decidable (oneOk k t) := by unfold oneOk; infer_instance
theorem signs_one : ((List.range signsL.length).all fun i => [1, 2, 3].all fun n => !signB ((signsL.drop (i + 1)).take n) || decide (oneOk 5 ((signsL.drop (i + 1)).take n))) = true := by decide +kernel
theorem sign_one {s : List UInt8} (h : signB s = true) : oneOk 5 s := by
  obtain ⟨h0, _, i, hi, h2⟩ := among_from h
  have h3 := sign_short h
  have h4 : 0 < s.length := List.length_pos_iff.2 h0
  have hx := List.all_eq_true.1 (List.all_eq_true.1 signs_one i (by simpa using hi)) s.length (by simp; omega)
  rw [h2, h] at hx
  simpa using hx

theorem run_all {s : List UInt8} (h : s.all isNm = true) : runN s = s.length := by
  unfold runN
  induction s with
  | nil => rfl
  | cons a s ih =>
    rw [List.all_cons, Bool.and_eq_true] at h
    rw [List.takeWhile_cons, if_pos h.1, List.length_cons, ih h.2, List.length_cons]
theorem nm_not {b : UInt8} (h : isNm b = true) : isBl b = false ∧ b ≠ 47 := by
  refine ⟨?_, ?_⟩
  · cases hb : isBl b with
    | false => rfl
    | true =>
      rcases (isBl_iff b).1 hb with e | e | e | e
      all_goals
        rw [show b = UInt8.ofNat _ from (UInt8.ofNat_toNat (x := b)).symm, e] at h
        exact absurd h (by decide)
  · rintro rfl; exact absurd h (by decide)
theorem name_one {s : List UInt8} (h0 : 0 < s.length) (h1 : s.length ≤ 4096) (h : s.all isNm = true) (hd : isDig s[0] = false) : oneOk (if wordB s then 2 else 1) s := by
  have hn : isNm s[0] = true := List.all_eq_true.1 h _ (List.getElem_mem h0)
  have hl : isLet s[0] = true := by unfold isNm at hn; rw [hd, Bool.or_false] at hn; exact hn
  have hr := run_all h
  have ht := tokR_let s h0 hl
  rw [hr, if_neg (by omega), List.take_length] at ht
  have hh : headR s = .tok := headR_tok h0 (nm_not hn).1 (slash_first h0 (nm_not hn).2 47) (slash_first h0 (nm_not hn).2 42)
  unfold oneOk lexR
  rw [if_neg (by omega), lexGo_tok h0 hh (by rw [ht]) _ _ _ (by simp), ht]
  simp only [List.nil_append, Nat.zero_add, List.drop_length]
  obtain ⟨m, hm⟩ : ∃ m, s.length = m + 1 := ⟨s.length - 1, by omega⟩
  rw [hm, lexGo_nil]
  rfl

end Go.Proofs.YtkomjmgmancinaaDoor

namespace Go.Proofs.YtkomjmgmancinaaDoor

theorem hexd_ok : ∀ n : Fin 16, hexv (hexd n) = some n.val ∧ 32 ≤ (hexd n).toNat ∧ (hexd n).toNat ≤ 126 := by decide

theorem qc_esc (c : UInt8) : (qc c = [c] ∧ c.toNat ≠ 92) ∨ ∃ t, qc c = 92 :: t ∧ ∀ r, esc (t ++ r) = some (c, t.length) := by
  have h256 : c.toNat < 256 := c.toNat_lt
  have hh : ∀ r, esc ([120, hexd (c.toNat / 16), hexd (c.toNat % 16)] ++ r) = some (c, 3) := by
    intro r
    have e1 := (hexd_ok ⟨c.toNat / 16, by omega⟩).1
    have e2 := (hexd_ok ⟨c.toNat % 16, by omega⟩).1
    show esc (120 :: hexd (c.toNat / 16) :: hexd (c.toNat % 16) :: r) = _
    rw [esc_cons, if_neg (by decide), if_neg (by decide), if_neg (by decide), if_neg (by decide), if_pos (by decide), escX]
    simp only at e1 e2
    rw [e1, e2]
    simp only
    have e3 : UInt8.ofNat (16 * (c.toNat / 16) + c.toNat % 16) = c := by
      apply UInt8.toNat_inj.1
      rw [UInt8.toNat_ofNat']; omega
    rw [e3]
  rcases byte_kinds c with ⟨h, hq⟩ | ⟨h, hq⟩ | ⟨h, hq⟩ | ⟨h, hq⟩ | ⟨h, hq⟩ | ⟨h, hq⟩ | ⟨h, hq⟩ | ⟨h, hq⟩
  · obtain rfl : c = 34 := UInt8.toNat_inj.1 h
    exact Or.inr ⟨_, hq, fun r => rfl⟩
  · obtain rfl : c = 92 := UInt8.toNat_inj.1 h
    exact Or.inr ⟨_, hq, fun r => rfl⟩
  · obtain rfl : c = 10 := UInt8.toNat_inj.1 h
    exact Or.inr ⟨_, hq, fun r => rfl⟩
  · obtain rfl : c = 9 := UInt8.toNat_inj.1 h
    exact Or.inr ⟨_, hq, fun r => rfl⟩
  · obtain rfl : c = 13 := UInt8.toNat_inj.1 h
    exact Or.inr ⟨_, hq, fun r => rfl⟩
  · exact Or.inr ⟨_, hq, hh⟩
  · exact Or.inr ⟨_, hq, hh⟩
  · exact Or.inl ⟨hq, h.2.2.2⟩

theorem qc_print (c : UInt8) : ∀ x ∈ qc c, 32 ≤ x.toNat ∧ x.toNat ≤ 126 := by
  have h256 : c.toNat < 256 := c.toNat_lt
  have e1 := (hexd_ok ⟨c.toNat / 16, by omega⟩).2
  have e2 := (hexd_ok ⟨c.toNat % 16, by omega⟩).2
  simp only at e1 e2
  intro x hx
  rcases byte_kinds c with ⟨h, hq⟩ | ⟨h, hq⟩ | ⟨h, hq⟩ | ⟨h, hq⟩ | ⟨h, hq⟩ | ⟨h, hq⟩ | ⟨h, hq⟩ | ⟨h, hq⟩ <;> rw [hq] at hx <;> simp only [List.mem_cons, List.not_mem_nil, or_false] at hx
  · rcases hx with rfl | rfl <;> decide
  · rcases hx with rfl | rfl <;> decide
  · rcases hx with rfl | rfl <;> decide
  · rcases hx with rfl | rfl <;> decide
  · rcases hx with rfl | rfl <;> decide
  · rcases hx with rfl | rfl | rfl | rfl
    · decide
    · decide
    · exact e1
    · exact e2
  · rcases hx with rfl | rfl | rfl | rfl
    · decide
    · decide
    · exact e1
    · exact e2
  · subst hx; omega

theorem scan_quoted (l : List UInt8) : ∀ (i : Nat) (out : List UInt8) (f : Nat), (l.flatMap qc).length < f → scan f (l.flatMap qc) i out = .inr (out ++ l) := by
  induction l with
  | nil => intro i out f hf; cases f with
    | zero => simp at hf
    | succ f => simp [scan]
  | cons c r ih =>
    intro i out f hf
    cases f with
    | zero => simp at hf
    | succ f =>
      rw [List.flatMap_cons] at hf ⊢
      rw [List.length_append] at hf
      rcases qc_esc c with ⟨hq, hc⟩ | ⟨t, hq, ht⟩
      · rw [hq] at hf ⊢
        show scan (f + 1) (c :: r.flatMap qc) i out = _
        rw [scan, if_neg hc, ih _ _ _ (by simp only [List.length_cons, List.length_nil, List.length_append] at hf; omega)]
        simp
      · rw [hq] at hf ⊢
        show scan (f + 1) (92 :: (t ++ r.flatMap qc)) i out = _
        rw [scan, if_pos (by decide), ht]
        simp only
        rw [List.drop_left, ih _ _ _ (by simp only [List.length_cons, List.length_nil, List.length_append] at hf; omega)]
        simp

theorem plain_quoted {l : List UInt8} (h : l.length ≤ 4096) : plainR (l.flatMap qc) = (l, 0, 0) := by
  have h1 := flat_length l
  unfold plainR scanAll
  rw [if_neg (by omega), scan_quoted l 0 [] _ (by omega)]
  simp only [List.nil_append]
  rw [if_neg (by omega)]

/-- The whole text between quotes. -/
theorem whole_print (l : List UInt8) : ∀ x ∈ quoted l ++ [34], 32 ≤ x.toNat ∧ x.toNat ≤ 126 := by
  intro x hx
  simp only [quoted, List.cons_append, List.mem_cons, List.mem_append, List.mem_flatMap, List.not_mem_nil, or_false] at hx
  rcases hx with rfl | ⟨c, _, hc⟩ | rfl
  · decide
  · exact qc_print c x hc
  · decide

end Go.Proofs.YtkomjmgmancinaaDoor
