/-
  lex.may answers what a token may be.
-/
import Derived.Test.YtkomjmgmancinaaDoorMayTok
namespace Go.Proofs.YtkomjmgmancinaaDoor
open Go.RowKit

theorem run_eqI (s : ByteArray) : (((runN s.data.toList : Nat) : Int) == (s.size : Int)) = decide (runN s.data.toList = s.data.toList.length) := by
  rw [Bool.eq_iff_iff, beq_iff_eq, decide_eq_true_eq, ← ba_size]; omega
theorem mayB_num {t : TI} (h : t.k = 3) : mayB t = (t.text.data.toList.isEmpty && (ge0 t.num && Fl.may t.num)) := by unfold mayB; rw [if_pos h]
theorem mayB_str {t : TI} (h : t.k = 4) : mayB t = (eq0 t.num && decide (t.text.size ≤ 4096)) := by unfold mayB; rw [if_neg (by omega), if_pos h]
theorem mayB_sign {t : TI} (h : t.k = 5) : mayB t = (eq0 t.num && signB t.text.data.toList) := by unfold mayB; rw [if_neg (by omega), if_neg (by omega), if_pos h]
theorem mayB_name {t : TI} (h : t.k = 1 ∨ t.k = 2) : mayB t = (eq0 t.num && (!t.text.data.toList.isEmpty && (decide (t.text.size ≤ 4096) && (nameB t.text.data.toList && (wordB t.text.data.toList == decide (t.k = 2)))))) := by
  unfold mayB; rw [if_neg (by omega), if_neg (by omega), if_neg (by omega), if_pos h]
theorem mayB_other {t : TI} (h1 : t.k ≠ 1) (h2 : t.k ≠ 2) (h3 : t.k ≠ 3) (h4 : t.k ≠ 4) (h5 : t.k ≠ 5) : mayB t = false := by
  unfold mayB; rw [if_neg h3, if_neg h4, if_neg h5, if_neg (by omega)]
theorem le4096 (s : ByteArray) : decide ((s.size : Int) ≤ 4096) = decide (s.size ≤ 4096) := by rw [Bool.eq_iff_iff, decide_eq_true_eq, decide_eq_true_eq]; omega
theorem ne_pos {s : ByteArray} (h : s.data.toList.isEmpty = false) : 0 < s.size := by
  rw [ba_size]
  cases hx : s.data.toList with
  | nil => rw [hx] at h; cases h
  | cons a l => simp
theorem name_facts {s : ByteArray} (h0 : 0 < s.size) : nameB s.data.toList = (isLet s[0] && decide (runN s.data.toList = s.data.toList.length)) := nameB_head (by rw [← ba_size]; exact h0)

/-- The facts on a name that both walks part on. -/
theorem name_parts {C : Int → Bool → Prop} {s : ByteArray} {x : Nat} {k : Int} (hk : k = 1 ∨ k = 2)
    (a : (FloatKind.f64.format.order x 0 == some .eq) = false → C k false)
    (b : (FloatKind.f64.format.order x 0 == some .eq) = true → s.toList.isEmpty = true → C k false)
    (c : (FloatKind.f64.format.order x 0 == some .eq) = true → s.toList.isEmpty = false → decide ((s.size : Int) ≤ 4096) = false → C k false)
    (d : (FloatKind.f64.format.order x 0 == some .eq) = true → s.toList.isEmpty = false → decide ((s.size : Int) ≤ 4096) = true → ∀ h0 : 0 < s.size, isLet s[0] = false → C k false)
    (e : (FloatKind.f64.format.order x 0 == some .eq) = true → s.toList.isEmpty = false → decide ((s.size : Int) ≤ 4096) = true → ∀ h0 : 0 < s.size, isLet s[0] = true → (((runN s.data.toList : Nat) : Int) == (s.size : Int)) = false → C k false)
    (f : (FloatKind.f64.format.order x 0 == some .eq) = true → s.toList.isEmpty = false → decide ((s.size : Int) ≤ 4096) = true → ∀ h0 : 0 < s.size, isLet s[0] = true → (((runN s.data.toList : Nat) : Int) == (s.size : Int)) = true → C k (wordB s.data.toList == decide (k = 2))) (p : Int) :
    C k (mayB ⟨k, p, s, x⟩) := by
  rw [mayB_name (t := ⟨k, p, s, x⟩) hk]
  simp only
  cases hg : eq0 x
  · exact a hg
  · cases hE : s.data.toList.isEmpty
    · cases hz : decide (s.size ≤ 4096)
      · exact c hg (by rw [isE, hE]) (by rw [le4096, hz])
      · have h0 := ne_pos hE
        rw [name_facts h0]
        cases hl : isLet s[0]
        · exact d hg (by rw [isE, hE]) (by rw [le4096, hz]) h0 hl
        · cases hr : decide (runN s.data.toList = s.data.toList.length)
          · exact e hg (by rw [isE, hE]) (by rw [le4096, hz]) h0 hl (by rw [run_eqI, hr])
          · have := f hg (by rw [isE, hE]) (by rw [le4096, hz]) h0 hl (by rw [run_eqI, hr])
            simpa using this
    · exact b hg (by rw [isE, hE])

theorem mayT_any (t : TI) (hs : t.text.size ≤ 140737488351232) (w : World) (hm : Mx w) : Calls Tryd.prog 23 #[t.agg] w fun e w' => e = .returned (.bool (mayB t)) ∧ Below w.heap.size w w' := by
  obtain ⟨k, p, s, x⟩ := t
  simp only [TI.agg] at hs ⊢
  by_cases h3 : k = 3
  · subst h3
    rw [mayB_num rfl]
    simp only
    cases hE : s.data.toList.isEmpty
    · exact mayT_num0 w p s x (by rw [isE, hE])
    · cases hg : ge0 x
      · exact mayT_num1 w p s x (by rw [isE, hE]) hg
      · simpa using mayT_num2 w p s x (by rw [isE, hE]) hg
  by_cases h4 : k = 4
  · subst h4
    rw [mayB_str rfl]
    simp only
    cases hg : eq0 x
    · exact mayT_str0 w p s x hg
    · exact mayT_str1 w p s x hg _ (le4096 s)
  by_cases h5 : k = 5
  · subst h5
    rw [mayB_sign rfl]
    simp only
    cases hg : eq0 x
    · exact mayT_sign0 w p s x hg
    · exact mayT_sign1 w p s x (by omega) hm hg
  by_cases h12 : k = 1 ∨ k = 2
  · rcases h12 with rfl | rfl
    · exact name_parts (C := fun k b => Calls Tryd.prog 23 #[.agg #[.int .u8 k, .int .i64 p, .string s, .float .f64 x]] w fun e w' => e = .returned (.bool b) ∧ Below w.heap.size w w') (Or.inl rfl)
        (fun h => mayT_n1a w p s x h) (fun h h2 => mayT_n1b w p s x h h2) (fun h h2 h3 => mayT_n1c w p s x h h2 h3) (fun h h2 h3 h0 h4 => mayT_n1d w p s x h h2 h3 hm h0 (by rw [kind_one, h4]))
        (fun h h2 h3 h0 h4 h5 => mayT_n1e w p s x h h2 h3 hm h0 (by rw [kind_one, h4]) h5) (fun h h2 h3 h0 h4 h5 => mayT_n1f w p s x h h2 h3 hm h0 (by rw [kind_one, h4]) h5 _ rfl) p
    · exact name_parts (C := fun k b => Calls Tryd.prog 23 #[.agg #[.int .u8 k, .int .i64 p, .string s, .float .f64 x]] w fun e w' => e = .returned (.bool b) ∧ Below w.heap.size w w') (Or.inr rfl)
        (fun h => mayT_n2a w p s x h) (fun h h2 => mayT_n2b w p s x h h2) (fun h h2 h3 => mayT_n2c w p s x h h2 h3) (fun h h2 h3 h0 h4 => mayT_n2d w p s x h h2 h3 hm h0 (by rw [kind_one, h4]))
        (fun h h2 h3 h0 h4 h5 => mayT_n2e w p s x h h2 h3 hm h0 (by rw [kind_one, h4]) h5) (fun h h2 h3 h0 h4 h5 => mayT_n2f w p s x h h2 h3 hm h0 (by rw [kind_one, h4]) h5 _ rfl) p
  · rw [mayB_other (t := ⟨k, p, s, x⟩) (by simp only; omega) (by simp only; omega) h3 h4 h5]
    exact mayT_other w p s x k (by simp; omega) (by simp; omega) (by simpa using h3) (by simpa using h4) (by simpa using h5)

end Go.Proofs.YtkomjmgmancinaaDoor
