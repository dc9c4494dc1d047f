/-
  A descriptor may be, as the reference says, just where the program says so.
-/
import Derived.Test.YtbkjbpefbdoenaaRefDchk
namespace Go.Proofs.Ytbkjbpefbdoenaa
open Go.RowKit

theorem bits_tab : ((List.range 256).all fun n => (hasB n 3 == (bitR n 1 || bitR n 2)) && ((hasB n 12 == (bitR n 4 || bitR n 8)) && (((bits .andNot .u8 n 63 != 0) == decide (63 < (n : Int))) && ((lackB n 1 == !bitR n 1) && ((lackB n 2 == !bitR n 2) && ((lackB n 4 == !bitR n 4) && ((lackB n 8 == !bitR n 8) && ((lackB n 16 == !bitR n 16) && (lackB n 32 == !bitR n 32))))))))) = true := by kernel_rfl
theorem bits_at (n : Int) (h : 0 ≤ n ∧ n ≤ 255) : hasB n 3 = (bitR n 1 || bitR n 2) ∧ hasB n 12 = (bitR n 4 || bitR n 8) ∧ (bits .andNot .u8 n 63 != 0) = decide (63 < n) ∧ lackB n 1 = !bitR n 1 ∧ lackB n 2 = !bitR n 2 ∧ lackB n 4 = !bitR n 4 ∧ lackB n 8 = !bitR n 8 ∧ lackB n 16 = !bitR n 16 ∧ lackB n 32 = !bitR n 32 := by
  obtain ⟨k, rfl⟩ : ∃ k : Nat, n = (k : Int) := ⟨n.toNat, by omega⟩
  have := List.all_eq_true.1 bits_tab k (List.mem_range.2 (by omega))
  simp only [Bool.and_eq_true, beq_iff_eq] at this
  exact this
theorem whole_tab : ((List.range 64).all fun n => ((bitR n 1 || bitR n 2) && (bitR n 4 || bitR n 8)) || ((wholeH n == n) == ((n == 51) || (n == 60)))) = true := by kernel_rfl
theorem whole_at (n : Int) (h : 0 ≤ n ∧ n ≤ 63) (hd : ((bitR n 1 || bitR n 2) && (bitR n 4 || bitR n 8)) = false) : (wholeH n == n) = ((n == 51) || (n == 60)) := by
  obtain ⟨k, rfl⟩ : ∃ k : Nat, n = (k : Int) := ⟨n.toNat, by omega⟩
  have := List.all_eq_true.1 whole_tab k (List.mem_range.2 (by omega))
  simp only [hd, Bool.false_or] at this
  rw [beq_iff_eq] at this
  rw [this]
  congr 1
  · by_cases h5 : k = 51
    · subst h5; rfl
    · rw [beq_eq_false_iff_ne.2 h5, beq_eq_false_iff_ne.2 (by omega)]
  · by_cases h5 : k = 60
    · subst h5; rfl
    · rw [beq_eq_false_iff_ne.2 h5, beq_eq_false_iff_ne.2 (by omega)]
theorem same0 (x : Nat) : Fl.same x 0 = isN x := by
  unfold Fl.same isN
  rw [show Fl.isNaN 0 = false by decide +kernel, show Fl.sg 0 = false by decide +kernel]
  cases hn : Fl.isNaN x
  · rw [if_neg (by simp), show (Ieee.double.order x 0 == some .eq) = Fl.isZ x from Fl.order_0 x hn]
    cases Fl.isZ x <;> cases Fl.sg x <;> rfl
  · have hz : Fl.isZ x = false := by
      rw [← Bool.not_eq_true]; intro h
      have := Fl.fin_not_nan (Fl.fin_of_isZ h)
      rw [hn] at this; cases this
    rw [hz]; rfl
theorem bare_eq (v : VI) : bareB v = (v.may && v.isZ) := by
  unfold bareB VI.may VI.isZ
  rw [same0]
  by_cases hk : v.k = 0
  · rw [hk]
    unfold mayV
    rw [if_pos (Or.inl rfl), ← isN_eq]
    generalize (FloatKind.f64.format.order v.x 0 == some .eq) = a
    generalize Fl.may v.x = b
    generalize v.s.toList.isEmpty = c
    generalize (v.r == 0) = d
    cases a <;> cases b <;> cases c <;> cases d <;> rfl
  · rw [beq_eq_false_iff_ne.2 hk]
    simp
theorem bareC_eq (v : VI) : bareB v = (v.called && v.isZ) := by
  rw [bare_eq]
  unfold VI.called VI.isZ
  cases (v.k == 0)
  · simp
  · simp
theorem okR_eq (d : DI) (h0 : 0 ≤ d.has ∧ d.has ≤ 255) : okR d = (d.err == 0) := by
  obtain ⟨e3, e12, e63, l1, l2, l4, l8, l16, l32⟩ := bits_at d.has h0
  unfold DI.err DI.bad1 DI.bad2 DI.bad3 DI.data DI.acc okR dataR accR
  rw [e3, e12, e63, l1, l2, l4, l8, l16, l32, bare_eq, bareC_eq d.g, bareC_eq d.t]
  generalize bitR d.has 1 = b1
  generalize bitR d.has 2 = b2
  generalize bitR d.has 4 = b4
  generalize bitR d.has 8 = b8
  generalize bitR d.has 16 = b16
  generalize bitR d.has 32 = b32
  generalize decide (63 < d.has) = gt
  have f : ∀ b m z : Bool, (if b = true then m else m && z) = (m && (b || z)) := by decide
  rw [f, f, f]
  generalize d.v.may = mv
  generalize d.g.called = cg
  generalize d.t.called = ct
  generalize d.v.isZ = zv
  generalize d.g.isZ = zg
  generalize d.t.isZ = zt
  generalize d.wr = wr
  generalize d.en = en
  generalize d.cf = cf
  have g : ∀ c : Bool, ((if c = true then (90 : Int) else 0) == 0) = !c := by decide
  rw [g]
  simp only [Bool.not_or, Bool.not_and, Bool.not_not]
  ac_rfl
theorem okR_err (d : DI) (h0 : 0 ≤ d.has ∧ d.has ≤ 255) : (if okR d then (0 : Int) else 90) = d.err := by
  rw [okR_eq d h0]
  unfold DI.err
  split <;> rfl
end Go.Proofs.Ytbkjbpefbdoenaa
