/-
  Plain laws for StrParts: parts at a place are the text; what is found is there; one of two texts is the lesser; trimmed is trimmed.
-/
import Derived.Test.YtnlaolehpofmlaaDoorPlacesWalk
import Derived.Test.YtnlaolehpofmlaaDoorJoin
namespace Go.Proofs.YtnlaolehpofmlaaDoor
open Go.RowKit

theorem plc_is (n k x : Nat) (_hn : n ≤ 9000) (hk : k ≤ n) (h : Fl.Is x k) : Fl.plc n x = k := by
  have hs : ¬ Fl.sc x < 0 := by
    rw [h.2.1]
    have := Fl.mulK_lt (k : Int) 0
    rw [Int.zero_mul] at this
    omega
  have ht := Fl.tr_of_is h
  unfold Fl.plc
  rw [Fl.fin_not_nan h.1, h.1, if_neg (by decide), if_pos rfl, if_neg hs, ht]
  split <;> omega

theorem part_first (s : ByteArray) (k x : Nat) (hs : s.size ≤ 9000) (hk : k ≤ s.size) (h : Fl.Is x k) : partR s 0 x = s.extract 0 k := by
  unfold partR
  rw [plc_is s.size 0 0 hs (Nat.zero_le _) Fl.is_0, plc_is s.size k x hs hk h]
  by_cases h0 : k = 0
  · subst h0; rw [if_pos (Nat.le_refl _)]
    apply ba_eq; rw [Lib.extract_data]; simp
  · rw [if_neg (by omega)]
theorem part_rest (s : ByteArray) (k x y : Nat) (hs : s.size ≤ 9000) (hk : k ≤ s.size) (h : Fl.Is x k) (h2 : Fl.Is y s.size) : partR s x y = s.extract k s.size := by
  unfold partR
  rw [plc_is s.size s.size y hs (Nat.le_refl _) h2, plc_is s.size k x hs hk h]
  by_cases h0 : s.size ≤ k
  · rw [if_pos h0]
    apply ba_eq; rw [Lib.extract_data, show s.size - k = 0 by omega, List.take_zero]
  · rw [if_neg h0]
theorem part_join (s : ByteArray) (k : Nat) (hk : k ≤ s.size) : s.extract 0 k ++ s.extract k s.size = s := by
  apply ba_eq
  have e : (s.extract 0 k ++ s.extract k s.size).data.toList = (s.extract 0 k).data.toList ++ (s.extract k s.size).data.toList := by rw [ByteArray.data_append, Array.toList_append]
  rw [e, Lib.extract_data, Lib.extract_to_end, List.drop_zero, Nat.sub_zero, List.take_append_drop]
theorem part_size (s : ByteArray) (k : Nat) (hk : k ≤ s.size) : (s.extract 0 k).size = k := by
  rw [ba_size, Lib.extract_data, List.drop_zero, Nat.sub_zero, List.length_take, ← ba_size]; omega

/-! ### what is found -/

/-- All that is known of a place where a text was found. -/
theorem found_facts (s t : ByteArray) (i : Int) : findR s t i = -1 ∨ ∃ k : Nat, findR s t i = k ∧ clampR s.size i ≤ k ∧ k + t.size ≤ s.size ∧ (s.extract k (k + t.size)).toList = t.toList := by
  have hc := clampR_le s.size i
  unfold findR findAt
  generalize clampR s.size i = f at *
  rcases Lib.index_spec (s.data.toList.drop f) t.data.toList with ⟨h1, _⟩ | ⟨k, h1, h2, h3, _⟩
  · left; rw [h1, if_neg (by decide)]
  · right
    have hr := Lib.index_room (s.data.toList.drop f) t.data.toList (by rw [h1]; omega)
    rw [h1, List.length_drop, ← ba_size, ← ba_size] at hr
    have hk : f + k + t.size ≤ s.size := by omega
    refine ⟨f + k, by rw [h1, if_pos (by omega)]; omega, by omega, hk, ?_⟩
    have := occ_eq s t f k hk
    rw [h3] at this
    simpa using this

/-- Ahead of all: a text that stands at the front is found there. -/
theorem found_front (s t : ByteArray) (i : Int) (hi : i ≤ 0) (hl : t.size ≤ s.size) (h : (s.extract 0 t.size).toList = t.toList) : findR s t i = 0 := by
  have hc : clampR s.size i = 0 := by unfold clampR; split; rfl; split <;> omega
  unfold findR
  rw [hc]
  have := find_hit s t 0 0 (by omega) (Lib.NoOcc.zero _ _) (by
    have := occ_eq s t 0 0 (by omega)
    rw [Nat.add_zero, Nat.zero_add, h] at this
    rw [← this]; simp)
  simpa using this

/-! ### the lesser -/

theorem less_total : ∀ (a b : List UInt8), (Op.bytesLess a b != Op.bytesLess b a) = (a != b)
  | [], [] => by simp [Op.bytesLess]
  | [], _ :: _ => by simp [Op.bytesLess]
  | _ :: _, [] => by simp [Op.bytesLess]
  | x :: a, y :: b => by
    have ih := less_total a b
    simp only [Op.bytesLess]
    by_cases h : x = y
    · subst h
      have h1 : ¬ x < x := by rw [UInt8.lt_iff_toNat_lt]; omega
      simp only [h1, decide_false, Bool.false_or, beq_self_eq_true, Bool.true_and]
      rw [ih]
      simp [bne, List.cons_beq_cons]
    · have h2 : (x :: a != y :: b) = true := by simp [h]
      have h3 : (x == y) = false := by simpa using h
      have h4 : (y == x) = false := by simpa using fun e => h e.symm
      rw [h2, h3, h4]
      simp only [Bool.false_and, Bool.or_false]
      have : x < y ∨ y < x := by
        rw [UInt8.lt_iff_toNat_lt, UInt8.lt_iff_toNat_lt]
        have : x.toNat ≠ y.toNat := fun e => h (UInt8.toNat_inj.1 e)
        omega
      rcases this with h5 | h5
      · have h6 : ¬ y < x := by rw [UInt8.lt_iff_toNat_lt] at *; omega
        simp [h5, h6]
      · have h6 : ¬ x < y := by rw [UInt8.lt_iff_toNat_lt] at *; omega
        simp [h5, h6]
theorem less_asym : ∀ (a b : List UInt8), (Op.bytesLess a b && Op.bytesLess b a) = false
  | [], [] => by simp [Op.bytesLess]
  | [], _ :: _ => by simp [Op.bytesLess]
  | _ :: _, [] => by simp [Op.bytesLess]
  | x :: a, y :: b => by
    have ih := less_asym a b
    simp only [Op.bytesLess]
    by_cases h : x = y
    · subst h
      have h1 : ¬ x < x := by rw [UInt8.lt_iff_toNat_lt]; omega
      simp only [h1, decide_false, Bool.false_or, beq_self_eq_true, Bool.true_and]
      exact ih
    · have h3 : (x == y) = false := by simpa using h
      have h4 : (y == x) = false := by simpa using fun e => h e.symm
      rw [h3, h4]
      simp only [Bool.false_and, Bool.or_false]
      by_cases h5 : x < y
      · have h6 : ¬ y < x := by rw [UInt8.lt_iff_toNat_lt] at *; omega
        simp [h6]
      · simp [h5]

/-! ### trimmed is trimmed -/

theorem dropWhile_head {α : Type} (p : α → Bool) (l : List α) : ∀ a, (l.dropWhile p).head? = some a → p a = false := by
  induction l with
  | nil => intro a h; simp at h
  | cons b l ih =>
    intro a h
    rw [List.dropWhile_cons] at h
    split at h
    · exact ih a h
    · rename_i hb
      simp only [List.head?_cons, Option.some.injEq] at h
      subst h; simpa using hb

theorem trim_twice (l : List UInt8) : Lib.trimS (Lib.trimS l blanks) blanks = Lib.trimS l blanks := by
  have hA : ∀ a, (Lib.trimS l blanks).head? = some a → isBl a = false := by
    unfold Lib.trimS Lib.trimLeftS; exact dropWhile_head isBl _
  have hB : ∀ a, (Lib.trimS l blanks).getLast? = some a → isBl a = false := by
    intro a h
    have hr : ∀ b, (Lib.trimRightS l blanks).getLast? = some b → isBl b = false := by
      intro b hb
      unfold Lib.trimRightS at hb
      rw [List.getLast?_reverse] at hb
      exact dropWhile_head isBl _ b hb
    apply hr
    have hs : Lib.trimS l blanks <:+ Lib.trimRightS l blanks := by
      unfold Lib.trimS Lib.trimLeftS; exact List.dropWhile_suffix _
    obtain ⟨u, hu⟩ := hs
    rw [← hu, List.getLast?_append, h]; rfl
  have := trim_parts [] (Lib.trimS l blanks) [] rfl rfl hA hB
  simpa using this

end Go.Proofs.YtnlaolehpofmlaaDoor
