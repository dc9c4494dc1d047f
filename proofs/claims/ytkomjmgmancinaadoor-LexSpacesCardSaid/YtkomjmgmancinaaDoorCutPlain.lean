/-
  What a text is cut into: tokens that may be, each at its place; or a place within the text (plain).
-/
import Derived.Test.YtkomjmgmancinaaDoorBackGo
namespace Go.Proofs.YtkomjmgmancinaaDoor
open Go.RowKit

/-- A token that may be, of a text, at its place. -/
def Fine (s : List UInt8) (k : Tk) : Prop := k.p < s.length ∧
  ((k.k = 3 ∧ k.text = [] ∧ 0 ≤ k.num ∧ k.num ≤ 9007199254740991) ∨ (k.k = 4 ∧ k.num = 0 ∧ k.text.length ≤ 4096) ∨
   (((k.k = 5 ∧ signB k.text = true) ∨ ((k.k = 1 ∨ k.k = 2) ∧ k.text ≠ [] ∧ k.text.length ≤ 4096 ∧ nameB k.text = true ∧ wordB k.text = decide (k.k = 2))) ∧ k.num = 0 ∧ k.p + k.text.length ≤ s.length ∧ (s.drop k.p).take k.text.length = k.text))

theorem signOf_fine (L : List UInt8) : ∀ n : Nat, (signOf L n).ok = true → (signOf L n).k = 5 ∧ signB (signOf L n).text = true ∧ (signOf L n).num = 0 ∧ (signOf L n).text = L.take (signOf L n).n ∧ (signOf L n).n ≤ L.length := by
  intro n
  induction n with
  | zero => intro h; rw [signOf] at h; cases h
  | succ n ih =>
    intro h
    rw [signOf] at h ⊢
    split at h
    · rename_i hc; rw [if_pos hc]; exact ⟨rfl, hc.2, rfl, rfl, hc.1⟩
    · rename_i hc; rw [if_neg hc]; exact ih h
theorem signOf_bad (L : List UInt8) : ∀ n : Nat, (signOf L n).ok = false → (signOf L n).n = 0 := by
  intro n
  induction n with
  | zero => intro h; rfl
  | succ n ih =>
    intro h
    rw [signOf] at h ⊢
    split at h
    · cases h
    · rename_i hc; rw [if_neg hc]; exact ih h
theorem scan_in : ∀ (f : Nat) (l : List UInt8) (i : Nat) (out : List UInt8) (j : Nat), scan f l i out = .inl j → j ≤ i + l.length := by
  intro f
  induction f with
  | zero => intro l i out j h; rw [scan] at h; cases h
  | succ f ih =>
    intro l i out j h
    cases l with
    | nil => rw [scan] at h; cases h
    | cons c r =>
      rw [scan] at h
      split at h
      · cases he : esc r with
        | none => rw [he] at h; cases h; omega
        | some x =>
          obtain ⟨b, n⟩ := x
          rw [he] at h
          have h1 := esc_len he
          have h2 := ih _ _ _ _ h
          rw [List.length_drop] at h2
          simp only [List.length_cons]; omega
      · have h2 := ih _ _ _ _ h
        simp only [List.length_cons]; omega
theorem plainR_place (l : List UInt8) : (plainR l).2.1 ≤ l.length ∧ ((plainR l).2.2 = 0 → (plainR l).1.length ≤ 4096) := by
  unfold plainR
  split
  · exact ⟨Nat.zero_le _, fun h => by cases h⟩
  · cases hs : scanAll l with
    | inl i =>
      have := scan_in _ _ _ _ _ hs
      exact ⟨by simpa using this, fun h => by cases h⟩
    | inr out =>
      simp only
      split
      · exact ⟨Nat.zero_le _, fun h => by cases h⟩
      · exact ⟨Nat.zero_le _, fun _ => by simp only; omega⟩
theorem runN_take {l : List UInt8} (k : Nat) (hk : k ≤ runN l) : (l.take k).all isNm = true := by
  rw [List.all_eq_true]
  intro x hx
  have h1 : l.take (runN l) = l.takeWhile isNm := by
    exact (List.prefix_iff_eq_take.1 (List.takeWhile_prefix isNm (l := l))).symm
  have h2 : x ∈ l.take (runN l) := by
    have : (l.take (runN l)).take k = l.take k := by rw [List.take_take, Nat.min_eq_left hk]
    rw [← this] at hx
    exact List.mem_of_mem_take hx
  rw [h1] at h2
  exact mem_while h2

theorem tokR_fine {s : List UInt8} {p : Nat} (h0 : p < s.length) (h : (tokR (s.drop p)).ok = true) : Fine s ⟨(tokR (s.drop p)).k, p, (tokR (s.drop p)).text, (tokR (s.drop p)).num⟩ := by
  have hL : (s.drop p).length = s.length - p := List.length_drop
  refine ⟨h0, ?_⟩
  generalize hD : s.drop p = L at *
  have hL0 : 0 < L.length := by omega
  rcases kind_cases L[0] with ⟨h1, hn, _⟩ | ⟨h1, h3, hn, _⟩ | ⟨h1, h3, _, h4, _⟩ | ⟨h1, h3, _, h4, _⟩
  · have e := tokR_let L hL0 h1
    have hr := runN_le L
    have hp := run_pos L hL0 hn
    rw [e] at h ⊢
    split at h
    · cases h
    · rename_i hc
      rw [if_neg hc]
      dsimp only
      have hlen : (L.take (runN L)).length = runN L := by rw [List.length_take]; omega
      refine Or.inr (Or.inr ⟨Or.inr ⟨?_, ?_, by omega, ?_, ?_⟩, rfl, by rw [hlen]; omega, by rw [hlen]⟩)
      · split
        · exact Or.inr rfl
        · exact Or.inl rfl
      · intro e2; rw [e2] at hlen; simp at hlen; omega
      · have hall := runN_take (l := L) (runN L) (Nat.le_refl _)
        unfold nameB
        rw [run_all hall, decide_eq_true rfl, Bool.and_true, List.take_take, Nat.min_eq_left hp]
        cases L with
        | nil => simp at hL0
        | cons c r => simpa using h1
      · cases wordB (L.take (runN L)) <;> rfl
  · have e := tokR_dig L hL0 h1 h3
    rw [e] at h ⊢
    split at h
    · cases h
    · rename_i hc
      rw [if_neg hc]
      exact Or.inl ⟨rfl, rfl, Int.natCast_nonneg _, by simp only; omega⟩
  · have e := tokR_qu L hL0 h1 h3 h4
    cases hx : CloseAt L[0] L 1 with
    | none => rw [e, hx] at h; cases h
    | some en =>
      rw [hx] at e
      simp only at e
      by_cases c1 : (plainR ((L.drop 1).take (en - 1))).2.2 = 5
      · rw [if_pos c1] at e; rw [e] at h; cases h
      · rw [if_neg c1] at e
        by_cases c2 : (plainR ((L.drop 1).take (en - 1))).2.2 ≠ 0
        · rw [if_pos c2] at e; rw [e] at h; cases h
        · rw [if_neg c2] at e
          rw [e]
          exact Or.inr (Or.inl ⟨rfl, rfl, (plainR_place _).2 (by omega)⟩)
  · have e := tokR_other L hL0 h1 h3 h4
    rw [e] at h ⊢
    obtain ⟨f1, f2, f3, f4, f5⟩ := signOf_fine L 3 h
    have hlen : (signOf L 3).text.length = (signOf L 3).n := by rw [f4, List.length_take]; omega
    exact Or.inr (Or.inr ⟨Or.inl ⟨f1, f2⟩, f3, by simp only; omega, by dsimp only; rw [hlen, ← f4]⟩)
theorem tokR_bad {L : List UInt8} (h0 : 0 < L.length) (h : (tokR L).ok = false) : (tokR L).n ≤ L.length := by
  rcases kind_cases L[0] with ⟨h1, hn, _⟩ | ⟨h1, h3, hn, _⟩ | ⟨h1, h3, _, h4, _⟩ | ⟨h1, h3, _, h4, _⟩
  · have e := tokR_let L h0 h1
    rw [e] at h ⊢
    split at h
    · rename_i hc; rw [if_pos hc]; exact Nat.zero_le _
    · cases h
  · have e := tokR_dig L h0 h1 h3
    rw [e] at h ⊢
    split at h
    · rename_i hc; rw [if_pos hc]; exact Nat.zero_le _
    · cases h
  · have e := tokR_qu L h0 h1 h3 h4
    rw [e] at h ⊢
    cases hx : CloseAt L[0] L 1 with
    | none => exact Nat.zero_le _
    | some en =>
      rw [hx] at h
      simp only at h ⊢
      obtain ⟨b1, b2⟩ := close_bounds hx
      split at h
      · rename_i c1
        rw [if_pos c1]
        have := (plainR_place ((L.drop 1).take (en - 1))).1
        rw [List.length_take] at this
        show 1 + _ ≤ _
        omega
      · rename_i c1
        rw [if_neg c1]
        split at h
        · rename_i c2; rw [if_pos c2]; exact Nat.zero_le _
        · cases h
  · have e := tokR_other L h0 h1 h3 h4
    rw [e] at h ⊢
    rw [signOf_bad L 3 h]; exact Nat.zero_le _

/-- What comes of a cutting. -/
def Cut (s : List UInt8) (R : List Tk × Nat × Int) : Prop :=
  (R.2.2 = 0 ∧ ∃ ks, R.1 = ks ++ [⟨0, s.length, [], 0⟩] ∧ (∀ k ∈ ks, Fine s k) ∧ ks.Pairwise (fun a b => a.p < b.p) ∧ ks.length ≤ 16384) ∨
  (R.2.2 ≠ 0 ∧ R.1 = [] ∧ R.2.1 ≤ s.length)
theorem lexGo_cut (s : List UInt8) : ∀ (f p : Nat) (acc : List Tk), p ≤ s.length → s.length - p < f → (∀ k ∈ acc, Fine s k ∧ k.p < p) → acc.Pairwise (fun a b => a.p < b.p) → acc.length ≤ 16384 → Cut s (lexGo f (s.drop p) p acc) := by
  intro f
  induction f with
  | zero => intro p acc h1 h2; omega
  | succ f ih =>
    intro p acc hp hf ha hs hl
    have hL : (s.drop p).length = s.length - p := List.length_drop
    by_cases h0 : 0 < (s.drop p).length
    · cases hh : headR (s.drop p) with
      | skip n =>
        have hn := headR_step hh
        rw [lexGo_skip h0 hh, List.drop_drop]
        exact ih (p + n) acc (by omega) (by omega) (fun k hk => ⟨(ha k hk).1, by have := (ha k hk).2; omega⟩) hs hl
      | unclosed =>
        rw [lexGo_unclosed h0 hh]
        exact Or.inr ⟨by simp, rfl, hp⟩
      | tok =>
        cases hk : (tokR (s.drop p)).ok with
        | false =>
          rw [lexGo_bad h0 hh hk]
          have := tokR_bad h0 hk
          exact Or.inr ⟨by simp, rfl, by simp only; omega⟩
        | true =>
          by_cases hm : acc.length = 16384
          · rw [lexGo_many h0 hh hk _ _ _ hm]
            exact Or.inr ⟨by simp, rfl, hp⟩
          · have hn := tokR_bounds h0 hk
            rw [lexGo_tok h0 hh hk _ _ _ hm, List.drop_drop]
            refine ih (p + (tokR (s.drop p)).n) _ (by omega) (by omega) ?_ ?_ (by rw [List.length_append, List.length_singleton]; omega)
            · intro k hk2
              rcases List.mem_append.1 hk2 with h | h
              · exact ⟨(ha k h).1, by have := (ha k h).2; omega⟩
              · rw [List.mem_singleton] at h
                subst h
                exact ⟨tokR_fine (by omega) hk, by simp only; omega⟩
            · rw [List.pairwise_append]
              refine ⟨hs, List.pairwise_singleton _ _, ?_⟩
              intro a h b hb
              rw [List.mem_singleton] at hb
              subst hb
              exact (ha a h).2
    · have hp2 : p = s.length := by omega
      subst hp2
      rw [List.drop_length, lexGo_nil]
      exact Or.inl ⟨rfl, acc, rfl, fun k hk => (ha k hk).1, hs, hl⟩
theorem lexR_cut (s : List UInt8) : Cut s (lexR s) := by
  unfold lexR
  split
  · exact Or.inr ⟨by simp, rfl, Nat.zero_le _⟩
  · exact lexGo_cut s (s.length + 1) 0 [] (Nat.zero_le _) (by omega) (fun k hk => by simp at hk) List.Pairwise.nil (by simp)

/-! ### what was cut may be written -/

/-- A token in memory, as it is written. -/
def TC.ti (c : TC) : TI := ⟨c.k, c.p, c.text, c.num⟩
theorem eq0_is {x : Nat} (h : Fl.Is x 0) : eq0 x = true := by
  unfold eq0
  rw [Fl.order_is h is_zeroB]; rfl
theorem ge0_is {x : Nat} {n : Int} (h : Fl.Is x n) (h0 : 0 ≤ n) : ge0 x = true := by
  unfold ge0
  rw [Fl.order_is h is_zeroB]
  by_cases hn : n = 0
  · subst hn; rfl
  · rw [show compare n 0 = Ordering.gt from Int.compare_eq_gt.2 (by omega)]; rfl
theorem may_isT {x : Nat} {n : Int} (h : Fl.Is x n) (h0 : 0 ≤ n) (h1 : n ≤ 9007199254740991) : Fl.may x = true := by
  unfold Fl.may
  rw [Fl.isW_of_is h (by unfold Fl.safe; omega) (by unfold Fl.safe; omega), Bool.or_true]
theorem fine_may {s : List UInt8} {k : Tk} {c : TC} (hf : Fine s k) (hm : Mt k c) : mayB c.ti = true := by
  obtain ⟨h1, _, h3, h4⟩ := hm
  obtain ⟨_, h⟩ := hf
  unfold mayB TC.ti
  simp only
  rw [h1, ba_size, h3]
  rcases h with ⟨k3, kt, kn, kl⟩ | ⟨k4, kn, kl⟩ | ⟨⟨k5, ks⟩ | ⟨k12, ke, kl, kb, kw⟩, kn, _, _⟩
  · rw [if_pos k3, kt, ge0_is h4 kn, may_isT h4 kn kl]; rfl
  · rw [if_neg (by omega), if_pos k4]
    rw [kn] at h4
    rw [eq0_is h4, decide_eq_true kl]; rfl
  · rw [if_neg (by omega), if_neg (by omega), if_pos k5]
    rw [kn] at h4
    rw [eq0_is h4, ks]; rfl
  · rw [if_neg (by omega), if_neg (by omega), if_neg (by omega), if_pos k12]
    rw [kn] at h4
    have hE : k.text.isEmpty = false := by
      cases hx : k.text with
      | nil => exact absurd hx ke
      | cons a l => rfl
    rw [eq0_is h4, hE, decide_eq_true kl, kb, kw]
    simp

end Go.Proofs.YtkomjmgmancinaaDoor
