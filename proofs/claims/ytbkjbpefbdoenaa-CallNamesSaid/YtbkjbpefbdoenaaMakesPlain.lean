/-
  The plain law of CallMakes: what a construction's body comes to behind each answer.
-/
import Derived.Test.YtbkjbpefbdoenaaCAlive
import Derived.Test.YtbkjbpefbdoenaaOpenC
namespace Go.Proofs.Ytbkjbpefbdoenaa
open Go.RowKit

theorem isN_num {x : Nat} (h : isN x = true) : Fl.isNaN x = false := by
  unfold isN Fl.isZ at h
  rw [Bool.and_eq_true, decide_eq_true_eq] at h
  unfold Fl.isNaN
  rw [decide_eq_false_iff_not, h.1]; exact Nat.not_lt_zero _
theorem is1_num {x : Nat} (h : is1 x = true) : Fl.isNaN x = false := by
  cases hn : Fl.isNaN x
  · rfl
  · unfold is1 at h; rw [ordN hn] at h; exact absurd h (by decide)
theorem sameV_refl {v : VI} (h : v.may = true) : sameV v.k v.x v.s v.r v.k v.x v.s v.r = true := by
  obtain ⟨k, x, s, r⟩ := v
  unfold VI.may at h
  unfold sameV
  simp only at h ⊢
  split
  · rename_i hh; exact hh.2.2
  · rename_i hN
    cases ho : isObj k
    · rw [strict_eq x s r x s r ho]
      unfold mayV at h
      split
      · rfl
      · rename_i h01
        rw [if_neg h01] at h
        split
        · rename_i h23
          have hx : Fl.isNaN x = false := by
            rcases h23 with rfl | rfl
            · rw [if_pos rfl, Bool.and_eq_true, Bool.and_eq_true, Bool.or_eq_true] at h
              exact h.1.1.elim isN_num is1_num
            · cases hn : Fl.isNaN x
              · rfl
              · exact absurd ⟨rfl, rfl, hn⟩ hN
          rw [ordE hx]; rfl
        · rename_i h23
          rw [if_neg (by omega), if_neg (by omega)] at h
          split
          · simp
          · rename_i h4
            rw [if_neg h4] at h
            split
            · simp
            · rename_i h5
              unfold isObj at ho
              rw [if_neg] at h
              · exact absurd h (by decide)
              · intro hk
                rw [Bool.and_eq_false_iff, decide_eq_false_iff_not, decide_eq_false_iff_not] at ho
                omega
    · rw [strict_obj x s r x s r ho ho]; simp


theorem fits_may {kd mt : Int} {x : OI} {ks : List KI} (h : fitsB kd mt x ks = true) : x.v.may = true := by
  unfold fitsB bad1 at h
  simp only [Bool.and_eq_true, Bool.not_eq_true', Bool.or_eq_false_iff, Bool.not_eq_false', decide_eq_false_iff_not, Nat.not_lt, Bool.or_eq_true, beq_iff_eq] at h
  exact h.1.2.2.2.1
/-- Where an object is wanted, what is done is one. -/
theorem fits_obj {mt : Int} {x : OI} {ks : List KI} (h : fitsB 4 mt x ks = true) (hx : x.kd = 1) : isObj x.v.k = true := by
  unfold fitsB at h
  simp only [Bool.and_eq_true, Bool.or_eq_true, beq_iff_eq] at h
  have h2 := h.2.2.2.2
  rw [hx] at h2
  simpa using h2
theorem orV_obj {v d : VI} (h : isObj d.k = true) : isObj (orV v d).k = true := by
  unfold orV
  split
  · assumption
  · exact h
/-- Answers that were all done. -/
def GoodL (L : List (OI × List KI)) : Prop := (∀ e ∈ L, e.1.kd = 1) ∧ ∀ e, L[1]? = some e → isObj e.1.v.k = true
/-- Where a body stands at the head of round k. -/
def Stage (k : Nat) (q : Q) : Prop := (k = 0 ∧ q = .fresh) ∨ (1 ≤ k ∧ k ≤ 3 ∧ ∃ L, q = .wait L ∧ L.length = k - 1 ∧ GoodL L)
/-- What a round comes to. -/
def Comes20 (k : Nat) (x : OI) (r : Res) (L : List (OI × List KI)) : Prop :=
  (k ≤ 2 ∧ (∃ W l, r = .want W l ∧ ∀ av, (W av).kd ≠ 7) ∧ Stage (k + 1) (.wait L)) ∨ (x.v.may = true ∧ ∃ y ky, r = .out y ky ∧ ((x.kd = 2 ∧ y.kd = 2 ∧ y.v = x.v) ∨ (x.kd = 1 ∧ y.kd = 1 ∧ isObj y.v.k = true)))
theorem body_step {f tg pr : VI} {args : List VI} {k : Nat} {q : Q} {x : OI} {ks : List KI} {L' : List (OI × List KI)} (hs : Stage k q) (hn : nextQ (bodyS f tg pr args) x ks q = some L') : Comes20 k x (bodyS f tg pr args L') L' := by
  rcases hs with ⟨rfl, rfl⟩ | ⟨h1, h3, L, rfl, hl, hg⟩
  · obtain rfl : L' = [] := (Option.some.inj hn).symm
    exact .inl ⟨by decide, ⟨_, _, rfl, fun av => by show (1 : Int) ≠ 7; decide⟩, .inr ⟨by decide, by decide, [], rfl, rfl, (fun e he => by cases he), (fun e he => by cases he)⟩⟩
  · unfold nextQ at hn
    simp only at hn
    split at hn
    · rename_i hf
      obtain rfl : L ++ [(x.put vNil, ks)] = L' := Option.some.inj hn
      have hm := fits_may hf
      have hk := (fits_two hf).1
      match L, hl, hg with
      | [], hl, hg =>
        have hk1 : k = 1 := by simp at hl; omega
        subst hk1
        by_cases hx : x.kd = 1
        · refine .inl ⟨by decide, ⟨_, _, by unfold bodyS stepS; simp only [List.nil_append, List.getElem?_cons_zero, if_pos hx, List.getElem?_cons_succ, List.getElem?_nil]; rfl, fun av => by show (4 : Int) ≠ 7; decide⟩, .inr ⟨by decide, by decide, _, rfl, rfl, ?_, fun e he => by simp at he⟩⟩
          intro e he
          simp at he
          subst he
          exact hx
        · refine .inr ⟨hm, x.put vNil, ks, by unfold bodyS stepS; simp only [List.nil_append, List.getElem?_cons_zero, if_neg hx], .inl ⟨by rcases hk with h | h; exact absurd h hx; exact h, by rcases hk with h | h; exact absurd h hx; exact h, rfl⟩⟩
      | [a], hl, hg =>
        have hk1 : k = 2 := by simp at hl; omega
        subst hk1
        have ha := hg.1 a (by simp)
        have hS : bodyS f tg pr args [a] = .want (fun _ => madeW (objI (orV a.1.v pr))) [] := by unfold bodyS stepS; simp only [List.getElem?_cons_zero, if_pos ha, List.getElem?_cons_succ, List.getElem?_nil]
        rw [hS] at hf
        by_cases hx : x.kd = 1
        · have ho : isObj x.v.k = true := fits_obj (mt := 0) hf hx
          refine .inl ⟨by decide, ⟨_, _, by unfold bodyS stepS; simp only [List.cons_append, List.nil_append, List.getElem?_cons_zero, if_pos ha, if_pos hx, List.getElem?_cons_succ, List.getElem?_nil]; rfl, fun av => by show (2 : Int) ≠ 7; decide⟩, .inr ⟨by decide, by decide, _, rfl, rfl, ?_, ?_⟩⟩
          · intro e he
            simp at he
            rcases he with rfl | rfl
            · exact ha
            · exact hx
          · intro e he
            simp at he
            subst he
            exact ho
        · refine .inr ⟨hm, x.put vNil, ks, by unfold bodyS stepS; simp only [List.cons_append, List.nil_append, List.getElem?_cons_zero, if_pos ha, if_neg hx, List.getElem?_cons_succ], .inl ⟨by rcases hk with h | h; exact absurd h hx; exact h, by rcases hk with h | h; exact absurd h hx; exact h, rfl⟩⟩
      | [a, b], hl, hg =>
        have ha := hg.1 a (by simp)
        have hb := hg.1 b (by simp)
        have ho := hg.2 b rfl
        by_cases hx : x.kd = 1
        · refine .inr ⟨hm, doneI (orV x.v b.1.v), [], by unfold bodyS stepS; simp only [List.cons_append, List.nil_append, List.getElem?_cons_zero, if_pos ha, if_pos hb, if_pos hx, List.getElem?_cons_succ], .inr ⟨hx, rfl, orV_obj ho⟩⟩
        · refine .inr ⟨hm, x.put vNil, ks, by unfold bodyS stepS; simp only [List.cons_append, List.nil_append, List.getElem?_cons_zero, if_pos ha, if_pos hb, if_neg hx, List.getElem?_cons_succ], .inl ⟨by rcases hk with h | h; exact absurd h hx; exact h, by rcases hk with h | h; exact absurd h hx; exact h, rfl⟩⟩
      | _ :: _ :: _ :: _, hl, _ => simp at hl; omega
    · cases hn

end Go.Proofs.Ytbkjbpefbdoenaa
