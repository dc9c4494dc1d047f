/-
  Sameness of values that may be, by a canon.
-/
import Derived.Test.YtecadaoncpminaaDoorPlain
import Derived.Test.YtecadaoncpminaaDoorTextV
namespace Go.Proofs.YtecadaoncpminaaDoor
open Go.RowKit

/-- Which whole number; none: no number. -/
def wholeV (x : Nat) : Option Int := if Fl.isNaN x then none else some (Fl.toW x)

theorem whole_cases {x : Nat} (h : Fl.may x = true) : (Fl.isNaN x = true ∧ wholeV x = none) ∨ (Fl.isNaN x = false ∧ Fl.Is x (Fl.toW x) ∧ wholeV x = some (Fl.toW x)) := by
  unfold wholeV
  rcases may_cases h with hn | ⟨hn, hx, _⟩
  · exact Or.inl ⟨hn, by rw [hn]; rfl⟩
  · exact Or.inr ⟨hn, hx, by rw [hn]; rfl⟩

theorem ord_whole {x y : Nat} (hx : Fl.may x = true) (hy : Fl.may y = true) : (FloatKind.f64.format.order x y == some .eq) = (decide (wholeV x = wholeV y) && !Fl.isNaN x) := by
  rcases whole_cases hx with ⟨h1, e1⟩ | ⟨h1, i1, e1⟩
  · rw [ordN h1, h1, Bool.not_true, Bool.and_false]; rfl
  · rcases whole_cases hy with ⟨h2, e2⟩ | ⟨h2, i2, e2⟩
    · rw [ordN' h2, e1, e2]; rfl
    · rw [Fl.order_is i1 i2, e1, e2, h1]
      rw [show (some (compare (Fl.toW x) (Fl.toW y)) == some Ordering.eq) = (compare (Fl.toW x) (Fl.toW y) == .eq) from rfl, Fl.compare_eq_iff, Bool.not_false, Bool.and_true, decide_eq_decide]
      simp

theorem may_bool_num {x : Nat} {s : ByteArray} {r : Int} (h : mayV 2 x s r = true) : Fl.may x = true ∧ Fl.isNaN x = false := by
  refine ⟨may_2 h, ?_⟩
  unfold mayV at h
  rw [if_neg (by decide), if_pos rfl] at h
  simp only [Bool.and_eq_true, Bool.or_eq_true] at h
  rcases h.1.1 with h | h
  · unfold isN at h
    rw [Bool.and_eq_true] at h
    exact Fl.fin_not_nan (Fl.fin_of_isZ h.1)
  · unfold is1 at h
    rw [← Bool.not_eq_true]; intro hn
    rw [ordN hn] at h; cases h

/-- What of a value counts for sameness. -/
def canon (k : Int) (x : Nat) (s : ByteArray) (r : Int) : Int × Option Int × List UInt8 × Int :=
  if isObj k = true then (6, none, [], r)
  else if k = 2 ∨ k = 3 then (k, wholeV x, [], 0)
  else if k = 4 then (4, none, s.toList, 0)
  else if k = 5 then (5, none, [], r)
  else (k, none, [], 0)

theorem kinds_of {k : Int} {x : Nat} {s : ByteArray} {r : Int} (m : mayV k x s r = true) : isObj k = true ∨ k = 0 ∨ k = 1 ∨ k = 2 ∨ k = 3 ∨ k = 4 ∨ k = 5 := by
  cases h : isObj k
  · exact Or.inr (val_kinds m h)
  · exact Or.inl rfl

theorem canon_num {x : Nat} {s : ByteArray} {r : Int} : canon 2 x s r = (2, wholeV x, [], 0) ∧ canon 3 x s r = (3, wholeV x, [], 0) ∧ canon 4 x s r = (4, none, s.toList, 0) ∧ canon 5 x s r = (5, none, [], r) ∧ canon 0 x s r = (0, none, [], 0) ∧ canon 1 x s r = (1, none, [], 0) :=
  ⟨rfl, rfl, rfl, rfl, rfl, rfl⟩
theorem canon_obj {k : Int} (x : Nat) (s : ByteArray) (r : Int) (h : isObj k = true) : canon k x s r = (6, none, [], r) := by unfold canon; rw [if_pos h]
theorem canon_fst {k : Int} (x : Nat) (s : ByteArray) (r : Int) (h : isObj k = false) : (canon k x s r).1 = k := by
  unfold canon
  rw [if_neg (by simp [h])]
  split
  · rfl
  · split
    · rename_i h4; exact h4.symm
    · split
      · rename_i h5; exact h5.symm
      · rfl
theorem not_six {k : Int} (h : isObj k = false) : k ≠ 6 := by rintro rfl; revert h; decide

theorem same_canon {k1 : Int} {x1 : Nat} {s1 : ByteArray} {r1 : Int} {k2 : Int} {x2 : Nat} {s2 : ByteArray} {r2 : Int} (m1 : mayV k1 x1 s1 r1 = true) (m2 : mayV k2 x2 s2 r2 = true) :
    sameV k1 x1 s1 r1 k2 x2 s2 r2 = decide (canon k1 x1 s1 r1 = canon k2 x2 s2 r2) := by
  cases o1 : isObj k1 <;> cases o2 : isObj k2
  · by_cases hk : k1 = k2
    · subst hk
      rcases val_kinds m1 o1 with rfl | rfl | rfl | rfl | rfl | rfl
      · unfold sameV; rw [if_neg (by simp), strict_eq _ _ _ _ _ _ (by decide), canon_num.2.2.2.2.1, canon_num.2.2.2.2.1]; simp
      · unfold sameV; rw [if_neg (by simp), strict_eq _ _ _ _ _ _ (by decide), canon_num.2.2.2.2.2, canon_num.2.2.2.2.2]; simp
      · obtain ⟨a1, n1⟩ := may_bool_num m1
        obtain ⟨a2, _⟩ := may_bool_num m2
        unfold sameV
        rw [if_neg (by simp), strict_eq _ _ _ _ _ _ (by decide), canon_num.1, canon_num.1, if_neg (by simp), if_pos (by simp), ord_whole a1 a2, n1]
        simp
      · have a1 := may_3 m1
        have a2 := may_3 m2
        unfold sameV
        rw [canon_num.2.1, canon_num.2.1]
        by_cases hn : Fl.isNaN x1 = true
        · rw [if_pos ⟨rfl, rfl, hn⟩]
          have e1 : wholeV x1 = none := by unfold wholeV; rw [hn]; rfl
          rw [e1]
          cases h2 : Fl.isNaN x2
          · have e2 : wholeV x2 = some (Fl.toW x2) := by unfold wholeV; rw [h2]; rfl
            rw [e2]; simp
          · have e2 : wholeV x2 = none := by unfold wholeV; rw [h2]; rfl
            rw [e2]; simp
        · rw [if_neg (by simp [hn]), strict_eq _ _ _ _ _ _ (by decide), if_neg (by simp), if_pos (by simp), ord_whole a1 a2]
          simp [hn]
      · unfold sameV
        rw [if_neg (by simp), strict_eq _ _ _ _ _ _ (by decide), if_neg (by simp), if_neg (by simp), if_pos rfl, canon_num.2.2.1, canon_num.2.2.1, Bool.eq_iff_iff]
        simp
      · unfold sameV
        rw [if_neg (by simp), strict_eq _ _ _ _ _ _ (by decide), if_neg (by simp), if_neg (by simp), if_neg (by simp), if_pos rfl, canon_num.2.2.2.1, canon_num.2.2.2.1, Bool.eq_iff_iff]
        simp
    · have h1 := canon_fst x1 s1 r1 o1
      have h2 := canon_fst x2 s2 r2 o2
      unfold sameV
      rw [if_neg (by omega), strict_ne _ _ _ _ _ _ (by simp [o1]) hk]
      symm; rw [decide_eq_false_iff_not]
      intro h; rw [h] at h1; exact hk (h1.symm.trans h2)
  · have h1 := canon_fst x1 s1 r1 o1
    have hk : k1 ≠ k2 := by rintro rfl; rw [o1] at o2; cases o2
    have h3 : ¬ (k1 = 3 ∧ k2 = 3 ∧ Fl.isNaN x1 = true) := by rintro ⟨rfl, rfl, _⟩; exact hk rfl
    unfold sameV
    rw [if_neg h3, strict_ne _ _ _ _ _ _ (by simp [o1]) hk, canon_obj x2 s2 r2 o2]
    symm; rw [decide_eq_false_iff_not]
    intro h; rw [h] at h1; exact not_six o1 h1.symm
  · have h2 := canon_fst x2 s2 r2 o2
    have hk : k1 ≠ k2 := by rintro rfl; rw [o1] at o2; cases o2
    have h3 : ¬ (k1 = 3 ∧ k2 = 3 ∧ Fl.isNaN x1 = true) := by rintro ⟨rfl, rfl, _⟩; exact hk rfl
    unfold sameV
    rw [if_neg h3, strict_ne _ _ _ _ _ _ (by simp [o2]) hk, canon_obj x1 s1 r1 o1]
    symm; rw [decide_eq_false_iff_not]
    intro h; rw [← h] at h2; exact not_six o2 h2.symm
  · have h3 : ¬ (k1 = 3 ∧ k2 = 3 ∧ Fl.isNaN x1 = true) := by rintro ⟨rfl, rfl, _⟩; revert o1; decide
    unfold sameV
    rw [if_neg h3, strict_obj _ _ _ _ _ _ o1 o2, canon_obj x1 s1 r1 o1, canon_obj x2 s2 r2 o2, Bool.eq_iff_iff]
    simp

/-- Is a value NaN? -/
def noneV (k : Int) (x : Nat) : Bool := (k == 3) && Fl.isNaN x

theorem strict_same (k1 : Int) (x1 : Nat) (s1 : ByteArray) (r1 : Int) (k2 : Int) (x2 : Nat) (s2 : ByteArray) (r2 : Int) :
    strictV k1 x1 s1 r1 k2 x2 s2 r2 = (sameV k1 x1 s1 r1 k2 x2 s2 r2 && !noneV k1 x1) := by
  unfold noneV sameV
  by_cases h : k1 = 3 ∧ k2 = 3 ∧ Fl.isNaN x1 = true
  · rw [if_pos h]
    obtain ⟨rfl, rfl, hn⟩ := h
    rw [strict_eq _ _ _ _ _ _ (by decide), if_neg (by simp), if_pos (by simp), ordN hn, hn]
    simp
  · rw [if_neg h]
    by_cases h3 : k1 = 3
    · subst h3
      by_cases hn : Fl.isNaN x1 = true
      · have hk : (3 : Int) ≠ k2 := by rintro rfl; exact h ⟨rfl, rfl, hn⟩
        rw [strict_ne _ _ _ _ _ _ (fun h => by have := h.1; revert this; decide) hk]; rfl
      · simp [hn]
    · have : (k1 == 3) = false := by simpa using h3
      rw [this]; simp

section
variable {k1 : Int} {x1 : Nat} {s1 : ByteArray} {r1 : Int} {k2 : Int} {x2 : Nat} {s2 : ByteArray} {r2 : Int}

theorem none_canon (m1 : mayV k1 x1 s1 r1 = true) (m2 : mayV k2 x2 s2 r2 = true) (h : canon k1 x1 s1 r1 = canon k2 x2 s2 r2) : noneV k1 x1 = noneV k2 x2 := by
  unfold noneV
  cases o1 : isObj k1
  · have e1 := canon_fst x1 s1 r1 o1
    cases o2 : isObj k2
    · have e2 := canon_fst x2 s2 r2 o2
      have hk : k1 = k2 := by rw [h] at e1; exact e1.symm.trans e2
      subst hk
      by_cases h3 : k1 = 3
      · subst h3
        rw [canon_num.2.1, canon_num.2.1] at h
        have hw : wholeV x1 = wholeV x2 := (Prod.mk.inj (Prod.mk.inj h).2).1
        unfold wholeV at hw
        cases n1 : Fl.isNaN x1 <;> cases n2 : Fl.isNaN x2 <;> rw [n1, n2] at hw <;> first | rfl | cases hw
      · have : (k1 == 3) = false := by simpa using h3
        rw [this]; rfl
    · rw [canon_obj x2 s2 r2 o2] at h
      rw [h] at e1
      exact absurd e1.symm (not_six o1)
  · have n1 : (k1 == 3) = false := by rw [beq_eq_false_iff_ne]; rintro rfl; revert o1; decide
    cases o2 : isObj k2
    · have e2 := canon_fst x2 s2 r2 o2
      rw [← h, canon_obj x1 s1 r1 o1] at e2
      exact absurd e2.symm (not_six o2)
    · have n2 : (k2 == 3) = false := by rw [beq_eq_false_iff_ne]; rintro rfl; revert o2; decide
      rw [n1, n2]; rfl

theorem truth_num {x : Nat} {s : ByteArray} : truthV 2 x s = ((FloatKind.f64.format.order x 0 != some .eq) && (FloatKind.f64.format.order x x == some .eq)) ∧ truthV 3 x s = ((FloatKind.f64.format.order x 0 != some .eq) && (FloatKind.f64.format.order x x == some .eq)) ∧ truthV 4 x s = !s.toList.isEmpty :=
  ⟨rfl, rfl, rfl⟩
theorem text_num {x : Nat} {s : ByteArray} {r : Int} : textV 2 x s r = (if FloatKind.f64.format.order x 0 == some .eq then [102, 97, 108, 115, 101] else [116, 114, 117, 101]) ∧ textV 3 x s r = textR x ∧ textV 4 x s r = quoted s.data.toList ++ [34] :=
  ⟨rfl, rfl, rfl⟩

/-- Values that are the same have one type, one truth, one text. -/
theorem shows_canon (m1 : mayV k1 x1 s1 r1 = true) (m2 : mayV k2 x2 s2 r2 = true) (h : canon k1 x1 s1 r1 = canon k2 x2 s2 r2) (hc : isCal k1 = isCal k2) :
    typeV k1 = typeV k2 ∧ truthV k1 x1 s1 = truthV k2 x2 s2 ∧ textV k1 x1 s1 r1 = textV k2 x2 s2 r2 := by
  cases o1 : isObj k1
  · have e1 := canon_fst x1 s1 r1 o1
    cases o2 : isObj k2
    · have e2 := canon_fst x2 s2 r2 o2
      have hk : k1 = k2 := by rw [h] at e1; exact e1.symm.trans e2
      subst hk
      have f0 : Fl.may 0 = true := by decide +kernel
      rcases val_kinds m1 o1 with rfl | rfl | rfl | rfl | rfl | rfl
      · exact ⟨rfl, rfl, rfl⟩
      · exact ⟨rfl, rfl, rfl⟩
      · obtain ⟨a1, n1⟩ := may_bool_num m1
        obtain ⟨a2, n2⟩ := may_bool_num m2
        rw [canon_num.1, canon_num.1] at h
        have hw : wholeV x1 = wholeV x2 := (Prod.mk.inj (Prod.mk.inj h).2).1
        refine ⟨rfl, ?_, ?_⟩
        · rw [truth_num.1, truth_num.1, bne, bne, ord_whole a1 f0, ord_whole a2 f0, ord_whole a1 a1, ord_whole a2 a2, hw, n1, n2]
        · rw [text_num.1, text_num.1, ord_whole a1 f0, ord_whole a2 f0, hw, n1, n2]
      · have a1 := may_3 m1
        have a2 := may_3 m2
        rw [canon_num.2.1, canon_num.2.1] at h
        have hw : wholeV x1 = wholeV x2 := (Prod.mk.inj (Prod.mk.inj h).2).1
        have hn : Fl.isNaN x1 = Fl.isNaN x2 := by
          unfold wholeV at hw
          cases n1 : Fl.isNaN x1 <;> cases n2 : Fl.isNaN x2 <;> rw [n1, n2] at hw <;> first | rfl | cases hw
        refine ⟨rfl, ?_, ?_⟩
        · rw [truth_num.2.1, truth_num.2.1, bne, bne, ord_whole a1 f0, ord_whole a2 f0, ord_whole a1 a1, ord_whole a2 a2, hw, hn]
        · rw [text_num.2.1, text_num.2.1]
          unfold textR
          rw [hn]
          cases n2 : Fl.isNaN x2
          · have n1 := hn.trans n2
            unfold wholeV at hw
            rw [n1, n2] at hw
            have ht : Fl.toW x1 = Fl.toW x2 := by simpa using hw
            have w1 : Fl.isW x1 = true := by unfold Fl.may at a1; rw [n1] at a1; simpa using a1
            have w2 : Fl.isW x2 = true := by unfold Fl.may at a2; rw [n2] at a2; simpa using a2
            rw [w1, w2, ht]
          · rfl
      · rw [canon_num.2.2.1, canon_num.2.2.1] at h
        have hs : s1.toList = s2.toList := (Prod.mk.inj (Prod.mk.inj (Prod.mk.inj h).2).2).1
        have hd : s1.data.toList = s2.data.toList := by rw [← toList_data, ← toList_data]; exact hs
        refine ⟨rfl, ?_, ?_⟩
        · rw [truth_num.2.2, truth_num.2.2, hs]
        · rw [text_num.2.2, text_num.2.2, hd]
      · rw [canon_num.2.2.2.1, canon_num.2.2.2.1] at h
        have hr : r1 = r2 := (Prod.mk.inj (Prod.mk.inj (Prod.mk.inj h).2).2).2
        subst hr
        exact ⟨rfl, rfl, rfl⟩
    · rw [canon_obj x2 s2 r2 o2] at h
      rw [h] at e1
      exact absurd e1.symm (not_six o1)
  · cases o2 : isObj k2
    · have e2 := canon_fst x2 s2 r2 o2
      rw [← h, canon_obj x1 s1 r1 o1] at e2
      exact absurd e2.symm (not_six o2)
    · rw [canon_obj x1 s1 r1 o1, canon_obj x2 s2 r2 o2] at h
      have hr : r1 = r2 := (Prod.mk.inj (Prod.mk.inj (Prod.mk.inj h).2).2).2
      subst hr
      have q1 : k1 = 6 ∨ k1 = 7 ∨ k1 = 8 := by unfold isObj at o1; simp only [Bool.and_eq_true, decide_eq_true_eq] at o1; omega
      have q2 : k2 = 6 ∨ k2 = 7 ∨ k2 = 8 := by unfold isObj at o2; simp only [Bool.and_eq_true, decide_eq_true_eq] at o2; omega
      rcases q1 with rfl | rfl | rfl <;> rcases q2 with rfl | rfl | rfl <;> first | exact ⟨rfl, rfl, rfl⟩ | exact absurd hc (by decide)

theorem plain_kinds (m1 : mayV k1 x1 s1 r1 = true) (m2 : mayV k2 x2 s2 r2 = true) (o1 : isObj k1 = false) (o2 : isObj k2 = false) : plainV k1 x1 s1 r1 k2 x2 s2 r2 =
    (if k1 = k2 then (strictV k1 x1 s1 r1 k2 x2 s2 r2, 0)
      else if (k1 = 2 ∧ k2 = 3) ∨ (k1 = 3 ∧ k2 = 2) then (FloatKind.f64.format.order x1 x2 == some .eq, 0)
      else if k1 ≤ 1 ∧ k2 ≤ 1 then (true, 0)
      else if k1 = 4 ∧ (k2 = 2 ∨ k2 = 3) then numV x2 s1.data.toList
      else if (k1 = 2 ∨ k1 = 3) ∧ k2 = 4 then numV x1 s2.data.toList
      else (false, 0)) := by
  unfold plainV
  rw [m1, m2, o1, o2, if_neg (by simp)]
theorem plain_objs (h : (isObj k1 || isObj k2) = true) : plainV k1 x1 s1 r1 k2 x2 s2 r2 = (false, 9) := by
  unfold plainV
  rw [if_pos]
  rw [Bool.or_eq_true] at h
  rcases h with h | h
  · exact Or.inr (Or.inr (Or.inl h))
  · exact Or.inr (Or.inr (Or.inr h))

theorem ord_swap {a1 a2 : Nat} (h1 : Fl.may a1 = true) (h2 : Fl.may a2 = true) : (FloatKind.f64.format.order a1 a2 == some .eq) = (FloatKind.f64.format.order a2 a1 == some .eq) := by
  rw [ord_whole h1 h2, ord_whole h2 h1]
  by_cases hw : wholeV a1 = wholeV a2
  · have hn : Fl.isNaN a1 = Fl.isNaN a2 := by
      unfold wholeV at hw
      cases n1 : Fl.isNaN a1 <;> cases n2 : Fl.isNaN a2 <;> rw [n1, n2] at hw <;> first | rfl | cases hw
    rw [hw, hn]
  · rw [decide_eq_false hw, decide_eq_false (fun h => hw h.symm)]; rfl
end

section
variable {k1 : Int} {x1 : Nat} {s1 : ByteArray} {r1 : Int} {k2 : Int} {x2 : Nat} {s2 : ByteArray} {r2 : Int}
/-- == is the same either way round. -/
theorem plain_symm (m1 : mayV k1 x1 s1 r1 = true) (m2 : mayV k2 x2 s2 r2 = true) : plainV k1 x1 s1 r1 k2 x2 s2 r2 = plainV k2 x2 s2 r2 k1 x1 s1 r1 := by
  cases o1 : isObj k1
  · cases o2 : isObj k2
    · rw [plain_kinds m1 m2 o1 o2, plain_kinds m2 m1 o2 o1]
      by_cases hk : k1 = k2
      · rw [if_pos hk, if_pos hk.symm]
        refine congrArg (fun b => (b, (0 : Int))) ?_
        rw [strict_same k1, strict_same k2, same_canon m1 m2, same_canon m2 m1]
        by_cases hc : canon k1 x1 s1 r1 = canon k2 x2 s2 r2
        · rw [decide_eq_true hc, decide_eq_true hc.symm, none_canon m1 m2 hc]
        · rw [decide_eq_false hc, decide_eq_false (fun h => hc h.symm)]; rfl
      · rw [if_neg hk, if_neg (show ¬ k2 = k1 from fun h => hk h.symm)]
        rcases val_kinds m1 o1 with rfl | rfl | rfl | rfl | rfl | rfl <;> rcases val_kinds m2 o2 with rfl | rfl | rfl | rfl | rfl | rfl <;>
          first
          | exact absurd rfl hk
          | rfl
          | exact congrArg (fun b => (b, (0 : Int))) (ord_swap (by first | exact may_2 m1 | exact may_3 m1) (by first | exact may_2 m2 | exact may_3 m2))
    · rw [plain_objs (by rw [o1, o2]; rfl), plain_objs (by rw [o1, o2]; rfl)]
  · rw [plain_objs (by rw [o1]; rfl), plain_objs (by rw [o1, Bool.or_true])]

theorem plain_strict (m1 : mayV k1 x1 s1 r1 = true) (m2 : mayV k2 x2 s2 r2 = true) (o1 : isObj k1 = false) (o2 : isObj k2 = false) (h : strictV k1 x1 s1 r1 k2 x2 s2 r2 = true) : plainV k1 x1 s1 r1 k2 x2 s2 r2 = (true, 0) := by
  rw [plain_kinds m1 m2 o1 o2]
  by_cases hk : k1 = k2
  · rw [if_pos hk, h]
  · rw [strict_ne _ _ _ _ _ _ (by simp [o1]) hk] at h; cases h
end

end Go.Proofs.YtecadaoncpminaaDoor
