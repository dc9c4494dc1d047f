/-
  Plain facts on 64-bit floats, second part: rounding; whole numbers as floats; sums, products and quotients of whole numbers.
-/
import Derived.Test.YtbkjbpefbdoenaaFloat
namespace Go.Proofs.Ytbkjbpefbdoenaa
namespace Fl

theorem log2_mul_pow (m k : Nat) (h : m ≠ 0) : (m * 2 ^ k).log2 = m.log2 + k := by
  have hp := pow_pos2 k
  have h0 : m * 2 ^ k ≠ 0 := Nat.mul_ne_zero h (by omega)
  have a1 := Nat.log2_self_le h
  have a2 := (Nat.lt_log2_self (n := m))
  rw [Nat.log2_eq_iff h0]
  constructor
  · rw [Nat.pow_add]; exact Nat.mul_le_mul_right _ a1
  · rw [show m.log2 + k + 1 = (m.log2 + 1) + k by omega, Nat.pow_add]
    exact Nat.mul_lt_mul_of_pos_right a2 hp

/-- The cut to the nearest, where the drop is no more than the digits that are there. -/
theorem cut_even (s : Bool) (n drop : Nat) (h : drop ≤ n.log2 + 2) : ∃ c : Nat, c ≤ 1 ∧ Ieee.Toward.even.cut s n drop = n / 2 ^ drop + c ∧ (n % 2 ^ drop = 0 → c = 0) := by
  unfold Ieee.Toward.cut
  rw [Nat.min_eq_left h, Nat.shiftLeft_eq, Nat.one_mul]
  refine ⟨_, ?_, rfl, ?_⟩
  · exact Bool.toNat_le _
  · intro h0
    have := pow_pos2 drop
    simp only [h0]
    have e1 : decide (2 ^ drop < 2 * 0) = false := by simp
    have e2 : (2 ^ drop == 2 * 0) = false := by rw [beq_eq_false_iff_ne]; omega
    simp [e2]

/-- What the rounding of 'M' units keeps: the rung's worth is a whole number of '2 ^ e' units, next to M. -/
theorem nearest_round (s : Bool) (m : Nat) (p : Int) (M : Nat) (hp : -1074 ≤ p) (hM : M = m * 2 ^ (p + 1074).toNat) (h0 : M ≠ 0) (hbig : M.log2 - 52 ≤ 2044 ∨ (M.log2 - 52 ≤ 2045 ∧ M % 2 ^ (M.log2 - 52) = 0)) :
    ∃ c : Nat, c ≤ 1 ∧ (M % 2 ^ (M.log2 - 52) = 0 → c = 0) ∧ fin (Ieee.double.nearest s m p) = true ∧ sg (Ieee.double.nearest s m p) = s ∧
      mg (rg (Ieee.double.nearest s m p)) = (M / 2 ^ (M.log2 - 52) + c) * 2 ^ (M.log2 - 52) := by
  obtain ⟨u, rfl⟩ : ∃ u : Nat, p = -1074 + (u : Int) := ⟨(p + 1074).toNat, by omega⟩
  have hu : (-1074 + (u : Int) + 1074).toNat = u := by omega
  rw [hu] at hM
  have hm : m ≠ 0 := by intro e; rw [e] at hM; simp at hM; exact h0 hM
  have hl : M.log2 = m.log2 + u := by rw [hM]; exact log2_mul_pow m u hm
  generalize he : M.log2 - 52 = e at *
  have a1 := Nat.log2_self_le h0
  have a2 := (Nat.lt_log2_self (n := M))
  have hlast : max (-1074 + (u : Int) + (m.log2 : Int) - (Ieee.double.fractionBits : Int)) Ieee.double.leastPlace = -1074 + (e : Int) := by
    rw [least_double]
    show max (-1074 + (u : Int) + (m.log2 : Int) - 52) (-1074) = _
    omega
  -- the digits that are kept
  have hkept : ∃ c : Nat, c ≤ 1 ∧ (M % 2 ^ e = 0 → c = 0) ∧ Ieee.Toward.even.cut s (m <<< (-1074 + (u : Int) - (-1074 + (e : Int))).toNat) ((-1074 + (e : Int)) - (-1074 + (u : Int))).toNat = M / 2 ^ e + c := by
    by_cases hue : e ≤ u
    · have e1 : (-1074 + (u : Int) - (-1074 + (e : Int))).toNat = u - e := by omega
      have e2 : ((-1074 + (e : Int)) - (-1074 + (u : Int))).toNat = 0 := by omega
      rw [e1, e2, Nat.shiftLeft_eq]
      obtain ⟨c, hc, h1, h2⟩ := cut_even s (m * 2 ^ (u - e)) 0 (by omega)
      have e3 : M = m * 2 ^ (u - e) * 2 ^ e := by rw [hM, Nat.mul_assoc, ← Nat.pow_add]; congr 2; omega
      have e4 : M / 2 ^ e = m * 2 ^ (u - e) := by rw [e3]; exact Nat.mul_div_cancel _ (pow_pos2 e)
      refine ⟨c, hc, fun _ => h2 (by simp [Nat.mod_one]), ?_⟩
      rw [h1, e4]; simp
    · have e1 : (-1074 + (u : Int) - (-1074 + (e : Int))).toNat = 0 := by omega
      have e2 : ((-1074 + (e : Int)) - (-1074 + (u : Int))).toNat = e - u := by omega
      rw [e1, e2, Nat.shiftLeft_eq]
      obtain ⟨c, hc, h1, h2⟩ := cut_even s (m * 2 ^ 0) (e - u) (by simp; omega)
      have e3 : 2 ^ e = 2 ^ (e - u) * 2 ^ u := by rw [← Nat.pow_add]; congr 1; omega
      have e4 : M / 2 ^ e = m / 2 ^ (e - u) := by rw [hM, e3]; exact Nat.mul_div_mul_right _ _ (pow_pos2 u)
      refine ⟨c, hc, fun hz => h2 ?_, ?_⟩
      · rw [hM, e3, Nat.mul_mod_mul_right] at hz
        rcases Nat.mul_eq_zero.1 hz with hz | hz
        · simpa using hz
        · have := pow_pos2 u; omega
      · rw [h1, e4]; simp
  obtain ⟨c, hc, hc0, hk⟩ := hkept
  refine ⟨c, hc, hc0, ?_⟩
  have hlow : M / 2 ^ e < 2 ^ 53 := by
    rw [Nat.div_lt_iff_lt_mul (pow_pos2 e), ← Nat.pow_add]
    exact Nat.lt_of_lt_of_le a2 (Nat.pow_le_pow_right (by decide) (by omega))
  have hhigh : 0 < e → 2 ^ 52 ≤ M / 2 ^ e := by
    intro h
    rw [Nat.le_div_iff_mul_le (pow_pos2 e), ← Nat.pow_add]
    exact Nat.le_trans (Nat.pow_le_pow_right (by decide) (by omega)) a1
  have hbig' : e ≤ 2045 ∧ (c = 0 ∨ e ≤ 2044) := by
    rcases hbig with h | ⟨h, h'⟩
    · omega
    · exact ⟨h, Or.inl (hc0 h')⟩
  clear hbig
  generalize hq : M / 2 ^ e = q at *
  have hval : Ieee.double.nearest s m (-1074 + (u : Int)) = Ieee.double.word s (e * 2 ^ 52 + (q + c)) := by
    unfold Ieee.Format.nearest
    rw [if_neg hm]
    simp only [hlast, hk]
    rw [least_double, binade_double, infRung_double]
    have e1 : (-1074 + (e : Int) - -1074).toNat = e := by omega
    rw [e1, Nat.min_eq_left (by have ht : top = 2047 * 2 ^ 52 := rfl; omega)]
  rw [hval]
  have ht : top = 2047 * 2 ^ 52 := rfl
  have hr : rg (Ieee.double.word s (e * 2 ^ 52 + (q + c))) = e * 2 ^ 52 + (q + c) := by
    unfold rg Ieee.Format.word; rw [signWeight_double]; cases s <;> simp <;> omega
  have hs : sg (Ieee.double.word s (e * 2 ^ 52 + (q + c))) = s := by
    unfold sg Ieee.Format.word; rw [signWeight_double]
    cases s
    · simp; omega
    · simp; omega
  refine ⟨?_, hs, ?_⟩
  · unfold fin; rw [hr]; simp; omega
  · rw [hr]
    unfold mg
    by_cases hz : e = 0
    · subst hz
      simp only [Nat.zero_mul, Nat.zero_add, Nat.pow_zero, Nat.mul_one]
      split
      · rfl
      · rename_i hge
        rcases Nat.lt_or_ge (q + c) (2 ^ 53) with h | h
        · have e1 : (q + c) / 2 ^ 52 = 1 := by omega
          have e2 : 2 ^ 52 + (q + c) % 2 ^ 52 = q + c := by omega
          rw [e1, e2]; simp
        · have e1 : (q + c) / 2 ^ 52 = 2 := by omega
          have e2 : 2 ^ 52 + (q + c) % 2 ^ 52 = 2 ^ 52 := by omega
          rw [e1, e2]; simp; omega
    · have hh := hhigh (by omega)
      rw [if_neg (by omega)]
      rcases Nat.lt_or_ge (q + c) (2 ^ 53) with h | h
      · have e1 : (e * 2 ^ 52 + (q + c)) / 2 ^ 52 - 1 = e := by omega
        have e2 : 2 ^ 52 + (e * 2 ^ 52 + (q + c)) % 2 ^ 52 = q + c := by omega
        rw [e1, e2]
      · have e1 : (e * 2 ^ 52 + (q + c)) / 2 ^ 52 - 1 = e + 1 := by omega
        have e2 : 2 ^ 52 + (e * 2 ^ 52 + (q + c)) % 2 ^ 52 = 2 ^ 52 := by omega
        have e3 : q + c = 2 ^ 52 * 2 := by omega
        have e4 : 2 ^ (e + 1) = 2 * 2 ^ e := by rw [Nat.pow_succ, Nat.mul_comm]
        rw [e1, e2, e3, e4, Nat.mul_assoc]

/-- What is a whole number of less than 2^53 times a power of two is kept. -/
theorem nearest_ok (s : Bool) (m : Nat) (p : Int) (q k : Nat) (hp : -1074 ≤ p) (hM : m * 2 ^ (p + 1074).toNat = q * 2 ^ k) (hq : q < 2 ^ 53) (hk : k ≤ 2045) :
    fin (Ieee.double.nearest s m p) = true ∧ sg (Ieee.double.nearest s m p) = s ∧ mg (rg (Ieee.double.nearest s m p)) = q * 2 ^ k := by
  by_cases h0 : q * 2 ^ k = 0
  · have hm : m = 0 := by
      rw [h0] at hM
      rcases Nat.mul_eq_zero.1 hM with h | h
      · exact h
      · have := pow_pos2 (p + 1074).toNat; omega
    rw [h0]
    unfold Ieee.Format.nearest
    rw [if_pos hm]
    cases s <;> decide
  · have hq0 : q ≠ 0 := by intro e; rw [e] at h0; simp at h0
    have hlq : q.log2 ≤ 52 := by
      have := (Nat.log2_lt hq0 (k := 53)).2 hq
      omega
    have hl : (q * 2 ^ k).log2 = q.log2 + k := log2_mul_pow q k hq0
    have hdvd : 2 ^ ((q * 2 ^ k).log2 - 52) ∣ q * 2 ^ k := by
      refine Nat.dvd_trans (Nat.pow_dvd_pow 2 (by omega : (q * 2 ^ k).log2 - 52 ≤ k)) (Nat.dvd_mul_left _ _)
    obtain ⟨c, hc, hc0, hf, hs, hm⟩ := nearest_round s m p (q * 2 ^ k) hp hM.symm h0 (Or.inr ⟨by omega, Nat.mod_eq_zero_of_dvd hdvd⟩)
    have hc' := hc0 (Nat.mod_eq_zero_of_dvd hdvd)
    refine ⟨hf, hs, ?_⟩
    rw [hm, hc', Nat.add_zero, Nat.div_mul_cancel hdvd]

/-- What is not below '2 ^ j' units is not rounded below it. -/
theorem nearest_great (s : Bool) (m : Nat) (p : Int) (M j : Nat) (hp : -1074 ≤ p) (hM : M = m * 2 ^ (p + 1074).toNat) (hj : 2 ^ j ≤ M) (hl : M.log2 ≤ j + 52) (hb : M.log2 ≤ 2000) :
    fin (Ieee.double.nearest s m p) = true ∧ sg (Ieee.double.nearest s m p) = s ∧ 2 ^ j ≤ mg (rg (Ieee.double.nearest s m p)) := by
  have h0 : M ≠ 0 := by have := pow_pos2 j; omega
  obtain ⟨c, hc, hc0, hf, hs, hm⟩ := nearest_round s m p M hp hM h0 (Or.inl (by omega))
  refine ⟨hf, hs, ?_⟩
  rw [hm]
  obtain ⟨t, ht⟩ : 2 ^ (M.log2 - 52) ∣ 2 ^ j := Nat.pow_dvd_pow 2 (by omega)
  have h1 : t ≤ M / 2 ^ (M.log2 - 52) := by
    rw [Nat.le_div_iff_mul_le (pow_pos2 _), Nat.mul_comm, ← ht]; exact hj
  rw [ht, Nat.mul_comm]
  exact Nat.mul_le_mul_right _ (by omega)

end Fl
end Go.Proofs.Ytbkjbpefbdoenaa
