/-
  Plain laws on floats: sums, differences, products and quotients of whole words.
-/
import Derived.Test.YtnlaolehpofmlaaDoorWhole
import Derived.Laws.FloatArith
namespace Go.Proofs.YtnlaolehpofmlaaDoor
namespace Fl

/-- A word that stands for what a whole number rounds to: the number itself where it is ours, and no word of ours where not. -/
def Near (z : Nat) (n : Int) : Prop := fin z = true ∧ (n.natAbs ≤ 9007199254740991 → Is z n) ∧ (9007199254740991 < n.natAbs → isW z = false)

theorem not_isW_great {b : Nat} (h : 2 ^ 53 * K ≤ mg (rg b)) : isW b = false := by
  rw [← Bool.not_eq_true, isW_iff]
  rintro ⟨⟨_, h2, _⟩, h3, h4⟩
  unfold safe at h3 h4
  have h5 := mulK_lt (toW b) (2 ^ 53)
  have h6 := mulK_lt (-(2 ^ 53)) (toW b)
  have h7 := mg_abs b
  have h8 : ((2 ^ 53 * K : Nat) : Int) = (2 ^ 53 : Int) * (K : Int) := by rw [Int.natCast_mul]; rfl
  rw [Int.neg_mul] at h6
  rw [← h2] at h5 h6
  have e5 := h5.2 (by omega)
  have e6 := h6.2 (by omega)
  split at h7 <;> omega

theorem K_def : K = 2 ^ U := rfl

theorem near_whole (s : Bool) (m : Nat) (p n : Int) (hp : -1074 ≤ p) (hM : m * 2 ^ (p + 1074).toNat = n.natAbs * K) (hs : s = decide (n < 0)) (hb : n.natAbs < 2 ^ 106) : Near (Ieee.double.nearest s m p) n := by
  by_cases h : n.natAbs ≤ 9007199254740991
  · obtain ⟨hf, hsg, hm⟩ := nearest_ok s m p n.natAbs U hp hM (by omega) U_le
    refine ⟨hf, fun _ => ⟨hf, ?_, ?_⟩, fun hh => absurd h (by omega)⟩
    · rw [sc_of _ _ _ hsg hm, hs]
      have e : ((n.natAbs * 2 ^ U : Nat) : Int) = (n.natAbs : Int) * (K : Int) := by rw [Int.natCast_mul]; rfl
      rw [e, ← Int.neg_mul]
      by_cases hc : n < 0
      · have e2 : -(n.natAbs : Int) = n := by omega
        rw [if_pos (by simpa using hc), e2]
      · have e2 : (n.natAbs : Int) = n := by omega
        rw [if_neg (by simpa using hc), e2]
    · intro h; rw [hsg, hs, h]; decide
  · have hj : 2 ^ (53 + U) ≤ n.natAbs * K := by
      rw [Nat.pow_add, ← K_def]; exact Nat.mul_le_mul_right _ (by omega)
    have h0 : n.natAbs * K ≠ 0 := by have := pow_pos2 (53 + U); omega
    have hl : (n.natAbs * K).log2 < 106 + U := by
      rw [Nat.log2_lt h0, Nat.pow_add, ← K_def]
      exact Nat.mul_lt_mul_of_pos_right hb K_pos
    have hu : U = 1074 := rfl
    obtain ⟨hf, hsg, hm⟩ := nearest_great s m p (n.natAbs * K) (53 + U) hp hM.symm hj (by omega) (by omega)
    refine ⟨hf, fun hh => absurd hh h, fun _ => not_isW_great ?_⟩
    rw [Nat.pow_add, ← K_def] at hm; exact hm

theorem neg0 (p : Int) : isW (Ieee.double.nearest true 0 p) = false ∧ fin (Ieee.double.nearest true 0 p) = true ∧ isNaN (Ieee.double.nearest true 0 p) = false := by
  have e : Ieee.double.nearest true 0 p = Ieee.double.word true 0 := by unfold Ieee.Format.nearest; rw [if_pos rfl]
  rw [e]
  refine ⟨?_, by decide, by decide⟩
  unfold isW
  have : (isZ (Ieee.double.word true 0) && sg (Ieee.double.word true 0)) = true := by decide
  rw [this]; simp
theorem pos0 (p : Int) : Is (Ieee.double.nearest false 0 p) 0 := by
  have e : Ieee.double.nearest false 0 p = 0 := by unfold Ieee.Format.nearest; rw [if_pos rfl]; decide
  rw [e]; exact is_0

/-- The sign of a whole word. -/
theorem sg_is {x : Nat} {a : Int} (h : Is x a) : sg x = decide (a < 0) := by
  have hk := K_pos
  have h1 := h.2.1
  by_cases h0 : a = 0
  · rw [h.2.2 h0, h0]; decide
  · unfold sc at h1
    have h2 := mulK_lt a 0
    have h3 := mulK_lt 0 a
    rw [Int.zero_mul] at h2 h3
    cases hs : sg x
    · rw [hs] at h1; simp only [Bool.false_eq_true, if_false] at h1
      symm; rw [decide_eq_false_iff_not]; intro hc
      have := h2.2 hc; omega
    · rw [hs] at h1; simp only [if_true] at h1
      symm; rw [decide_eq_true_eq]
      rcases Int.lt_trichotomy a 0 with hc | hc | hc
      · exact hc
      · exact absurd hc h0
      · have := h3.2 hc; omega

theorem mg_is {x : Nat} {a : Int} (h : Is x a) : mg (rg x) = a.natAbs * K := by
  have h1 := h.2.1
  have h2 := sg_is h
  unfold sc at h1
  rw [h2] at h1
  have e : ((a.natAbs * K : Nat) : Int) = (a.natAbs : Int) * (K : Int) := by rw [Int.natCast_mul]
  by_cases hc : a < 0
  · rw [if_pos (by simpa using hc)] at h1
    have e2 : (a.natAbs : Int) = -a := by omega
    rw [e2, Int.neg_mul] at e
    omega
  · rw [if_neg (by simpa using hc)] at h1
    have e2 : (a.natAbs : Int) = a := by omega
    rw [e2] at e
    omega

/-- How a whole word that is not nought is laid. -/
theorem laid_is {x : Nat} {a : Int} (h : Is x a) (h0 : a ≠ 0) (hb : a.natAbs < 2 ^ 53) : ∃ u, u ≤ 52 ∧ pl (rg x) + u = U ∧ dg (rg x) = a.natAbs * 2 ^ u ∧ 2 ^ 52 ≤ dg (rg x) ∧ dg (rg x) < 2 ^ 53 := by
  have h1 := mg_is h
  have hd := dg_lt (rg x)
  have hk : K = 2 ^ U := rfl
  have hpos : 1 ≤ a.natAbs := by omega
  rw [mg_eq, hk] at h1
  have hlo : 2 ^ 52 ≤ dg (rg x) := by
    unfold dg
    split
    · exfalso
      rename_i hlt
      have e1 : dg (rg x) = rg x := by unfold dg; rw [if_pos hlt]
      have e2 : pl (rg x) = 0 := by unfold pl; rw [if_pos hlt]
      rw [e1, e2, Nat.pow_zero, Nat.mul_one] at h1
      have h3 : 2 ^ 52 ≤ 2 ^ U := Nat.pow_le_pow_right (by decide) (by unfold U; omega)
      have h4 : 1 * 2 ^ U ≤ a.natAbs * 2 ^ U := Nat.mul_le_mul_right _ hpos
      rw [Nat.one_mul] at h4
      generalize 2 ^ U = z at *
      omega
    · omega
  have hpl : pl (rg x) ≤ U := by
    rcases Nat.lt_or_ge U (pl (rg x)) with hc | hc
    · exfalso
      obtain ⟨t, ht⟩ : ∃ t, pl (rg x) = (1 + t) + U := ⟨pl (rg x) - U - 1, by omega⟩
      rw [ht, Nat.pow_add 2 (1 + t) U, ← Nat.mul_assoc] at h1
      have h2 : a.natAbs * 2 ^ U < 2 ^ 53 * 2 ^ U := Nat.mul_lt_mul_of_pos_right hb (pow_pos2 U)
      have h3 : 2 ^ 53 * 2 ^ U ≤ dg (rg x) * 2 ^ (1 + t) * 2 ^ U := by
        refine Nat.mul_le_mul_right _ ?_
        have h4 : dg (rg x) * 2 ≤ dg (rg x) * 2 ^ (1 + t) := by
          refine Nat.mul_le_mul_left _ ?_
          have := pow_pos2 t
          rw [Nat.pow_add]; omega
        omega
      omega
    · exact hc
  obtain ⟨u, hu⟩ : ∃ u, pl (rg x) + u = U := ⟨U - pl (rg x), by omega⟩
  have hdg : dg (rg x) = a.natAbs * 2 ^ u := by
    have : a.natAbs * 2 ^ U = a.natAbs * 2 ^ u * 2 ^ pl (rg x) := by rw [← hu, Nat.pow_add, Nat.mul_assoc, Nat.mul_comm (2 ^ pl (rg x))]
    rw [this] at h1
    exact Nat.eq_of_mul_eq_mul_right (pow_pos2 _) h1
  refine ⟨u, ?_, hu, hdg, hlo, hd⟩
  rcases Nat.lt_or_ge 52 u with hc | hc
  · exfalso
    have h2 : 2 ^ 53 ≤ 2 ^ u := Nat.pow_le_pow_right (by decide) (by omega)
    have h3 : 1 * 2 ^ u ≤ a.natAbs * 2 ^ u := Nat.mul_le_mul_right _ hpos
    omega
  · exact hc

theorem signed_neg (s : Bool) (m k : Nat) : Ieee.signed (!s) m k = -Ieee.signed s m k := by
  rw [signed_eq, signed_eq]; cases s <;> simp

theorem sum_near {x y : Nat} {a b : Int} (hx : Is x a) (hy : Is y b) (ha : a.natAbs < 2 ^ 53) (hb : b.natAbs < 2 ^ 53) (neg : Bool) :
    ∃ z, ((Ieee.double.read x).sum (if neg then (Ieee.double.read y).opposite else Ieee.double.read y)).map Ieee.double.write = some z ∧ Near z (if neg then a - b else a + b) := by
  rw [read_fin hx.1, read_fin hy.1]
  have e0 : (if neg then (Ieee.Datum.number (sg y) (dg (rg y)) (-1074 + (pl (rg y) : Nat))).opposite else Ieee.Datum.number (sg y) (dg (rg y)) (-1074 + (pl (rg y) : Nat))) = Ieee.Datum.number (neg ^^ sg y) (dg (rg y)) (-1074 + (pl (rg y) : Nat)) := by
    cases neg <;> simp [Ieee.Datum.opposite]
  rw [e0]
  simp only [Ieee.Datum.sum, Option.map_some, Option.some.injEq]
  refine ⟨_, rfl, ?_⟩
  have hkk : ∃ k : Nat, min (-1074 + (pl (rg x) : Int)) (-1074 + (pl (rg y) : Int)) = -1074 + (k : Int) ∧ k ≤ pl (rg x) ∧ k ≤ pl (rg y) := by
    by_cases h : pl (rg x) ≤ pl (rg y)
    · exact ⟨pl (rg x), by omega, by omega, by omega⟩
    · exact ⟨pl (rg y), by omega, by omega, by omega⟩
  obtain ⟨k, e, h1, h2⟩ := hkk
  have e1 : (-1074 + (pl (rg x) : Int) - (-1074 + (k : Int))).toNat = pl (rg x) - k := by omega
  have e2 : (-1074 + (pl (rg y) : Int) - (-1074 + (k : Int))).toNat = pl (rg y) - k := by omega
  simp only [e, e1, e2]
  have s1 := sc_signed x k h1
  have s2 := sc_signed y k h2
  have s3 : Ieee.signed (neg ^^ sg y) (dg (rg y)) (pl (rg y) - k) = if neg then -Ieee.signed (sg y) (dg (rg y)) (pl (rg y) - k) else Ieee.signed (sg y) (dg (rg y)) (pl (rg y) - k) := by
    cases neg
    · simp
    · simp only [Bool.true_xor, if_true]; exact signed_neg _ _ _
  rw [s3]
  rw [hx.2.1] at s1
  rw [hy.2.1] at s2
  generalize Ieee.signed (sg x) (dg (rg x)) (pl (rg x) - k) = A at *
  generalize Ieee.signed (sg y) (dg (rg y)) (pl (rg y) - k) = B at *
  have hn : (if neg then a - b else a + b) * (K : Int) = (A + if neg then -B else B) * (2 ^ k : Nat) := by
    cases neg
    · simp only [Bool.false_eq_true, if_false]; rw [Int.add_mul, Int.add_mul, s1, s2]
    · simp only [if_true]; rw [Int.sub_mul, Int.add_mul, Int.neg_mul, s1, s2]; rfl
  have hx' := sg_is hx
  have hy' := sg_is hy
  generalize hT : (A + if neg then -B else B) = T at *
  have hnb : (if neg then a - b else a + b).natAbs < 2 ^ 106 := by split <;> omega
  have hz : (if neg then a - b else a + b) = 0 → (sg x && (neg ^^ sg y)) = false := by
    intro h
    rw [hx', hy']
    cases neg
    · simp only [Bool.false_eq_true, if_false] at h
      simp; omega
    · simp only [if_true] at h
      simp; omega
  generalize (if neg then a - b else a + b) = n at *
  have hk2 := pow_pos2 k
  have hK := K_pos
  have hT0 : T = 0 ↔ n = 0 := by
    constructor
    · intro h; rw [h, Int.zero_mul] at hn
      rcases Int.mul_eq_zero.1 hn with h | h
      · exact h
      · omega
    · intro h; rw [h, Int.zero_mul] at hn
      rcases Int.mul_eq_zero.1 hn.symm with h | h
      · exact h
      · omega
  have hTn : T < 0 ↔ n < 0 := by
    have i1 := mulK_lt n 0
    have i2 : T * ((2 ^ k : Nat) : Int) < 0 * ((2 ^ k : Nat) : Int) ↔ T < 0 := Int.mul_lt_mul_right (by omega)
    rw [Int.zero_mul] at i1 i2
    rw [← i1, ← i2, hn]
  refine near_whole _ _ _ _ (by omega) ?_ ?_ hnb
  · have e3 : (-1074 + (k : Int) + 1074).toNat = k := by omega
    rw [e3]
    have e4 := congrArg Int.natAbs hn
    rw [Int.natAbs_mul, Int.natAbs_mul, Int.natAbs_natCast, Int.natAbs_natCast] at e4
    exact e4.symm
  · by_cases h : T = 0
    · rw [if_pos h, hz (hT0.1 h), hT0.1 h]; rfl
    · rw [if_neg h]
      rw [decide_eq_decide]; exact hTn

theorem add_near {x y : Nat} {a b : Int} (hx : Is x a) (hy : Is y b) (ha : a.natAbs < 2 ^ 53) (hb : b.natAbs < 2 ^ 53) : ∃ z, floatBits .add .f64 x y = some z ∧ Near z (a + b) := sum_near hx hy ha hb false
theorem sub_near {x y : Nat} {a b : Int} (hx : Is x a) (hy : Is y b) (ha : a.natAbs < 2 ^ 53) (hb : b.natAbs < 2 ^ 53) : ∃ z, floatBits .sub .f64 x y = some z ∧ Near z (a - b) := sum_near hx hy ha hb true

theorem dg_zero {x : Nat} (h : Is x 0) : dg (rg x) = 0 := by
  have h1 := mg_is h
  rw [mg_eq, Int.natAbs_zero, Nat.zero_mul] at h1
  rcases Nat.mul_eq_zero.1 h1 with h | h
  · exact h
  · have := pow_pos2 (pl (rg x)); omega

/-- Nought with a sign. -/
theorem near0 (s : Bool) (p : Int) : fin (Ieee.double.nearest s 0 p) = true ∧ (s = false → Is (Ieee.double.nearest s 0 p) 0) ∧ (s = true → isW (Ieee.double.nearest s 0 p) = false) := by
  cases s
  · exact ⟨(pos0 p).1, fun _ => pos0 p, fun h => Bool.noConfusion h⟩
  · exact ⟨(neg0 p).2.1, fun h => Bool.noConfusion h, fun _ => (neg0 p).1⟩

theorem mul_near {x y : Nat} {a b : Int} (hx : Is x a) (hy : Is y b) (ha : a.natAbs < 2 ^ 53) (hb : b.natAbs < 2 ^ 53) :
    ∃ z, floatBits .mul .f64 x y = some z ∧ fin z = true ∧ ((a ≠ 0 ∧ b ≠ 0) → Near z (a * b)) ∧ ((a = 0 ∨ b = 0) → ((decide (a < 0) ^^ decide (b < 0)) = false → Is z 0) ∧ ((decide (a < 0) ^^ decide (b < 0)) = true → isW z = false)) := by
  show ∃ z, ((Ieee.double.read x).product (Ieee.double.read y)).map Ieee.double.write = some z ∧ _
  rw [read_fin hx.1, read_fin hy.1]
  simp only [Ieee.Datum.product, Option.map_some, Option.some.injEq]
  refine ⟨_, rfl, ?_⟩
  rw [sg_is hx, sg_is hy]
  by_cases h0 : a = 0 ∨ b = 0
  · have hm : dg (rg x) * dg (rg y) = 0 := by
      rcases h0 with rfl | rfl
      · rw [dg_zero hx, Nat.zero_mul]
      · rw [dg_zero hy, Nat.mul_zero]
    rw [hm]
    obtain ⟨n1, n2, n3⟩ := near0 (decide (a < 0) ^^ decide (b < 0)) (-1074 + (pl (rg x) : Int) + (-1074 + (pl (rg y) : Int)))
    exact ⟨n1, fun h => absurd h0 (by omega), fun _ => ⟨n2, n3⟩⟩
  · obtain ⟨u, hu, hpu, hdu, _, _⟩ := laid_is hx (by omega) ha
    obtain ⟨v, hv, hpv, hdv, _, _⟩ := laid_is hy (by omega) hb
    have hU : U = 1074 := rfl
    have hn : Near (Ieee.double.nearest (decide (a < 0) ^^ decide (b < 0)) (dg (rg x) * dg (rg y)) (-1074 + (pl (rg x) : Int) + (-1074 + (pl (rg y) : Int)))) (a * b) := by
      refine near_whole _ _ _ _ (by omega) ?_ ?_ ?_
      · have e : (-1074 + (pl (rg x) : Int) + (-1074 + (pl (rg y) : Int)) + 1074).toNat = U - u - v := by omega
        rw [e, hdu, hdv, Int.natAbs_mul, K_def]
        obtain ⟨t, ht⟩ : ∃ t, U = u + v + t := ⟨U - u - v, by omega⟩
        have e2 : U - u - v = t := by omega
        rw [e2, ht, Nat.pow_add, Nat.pow_add]
        simp only [Nat.mul_assoc, Nat.mul_left_comm]
      · rcases Int.lt_trichotomy a 0 with h1 | h1 | h1 <;> rcases Int.lt_trichotomy b 0 with h2 | h2 | h2
        · have := Int.mul_pos_of_neg_of_neg h1 h2
          simp [h1, h2]; omega
        · exact absurd (Or.inr h2) h0
        · have := Int.mul_neg_of_neg_of_pos h1 h2
          have h3 : ¬ b < 0 := by omega
          simp [h1, h3, this]
        · exact absurd (Or.inl h1) h0
        · exact absurd (Or.inl h1) h0
        · exact absurd (Or.inl h1) h0
        · have := Int.mul_neg_of_pos_of_neg h1 h2
          have h3 : ¬ a < 0 := by omega
          simp [h2, h3, this]
        · exact absurd (Or.inr h2) h0
        · have := Int.mul_pos h1 h2
          have h3 : ¬ a < 0 := by omega
          have h4 : ¬ b < 0 := by omega
          simp [h3, h4]; omega
      · rw [Int.natAbs_mul]
        have h1 : a.natAbs * b.natAbs < 2 ^ 53 * 2 ^ 53 := Nat.mul_lt_mul_of_lt_of_le ha (by omega) (by decide)
        rw [← Nat.pow_add] at h1; exact h1
    exact ⟨hn.1, fun _ => hn, fun h => absurd h h0⟩

theorem log2_53 {m : Nat} (h1 : 2 ^ 52 ≤ m) (h2 : m < 2 ^ 53) : m.log2 = 52 := by
  have h0 : m ≠ 0 := by omega
  have := (Nat.log2_lt h0 (k := 53)).2 h2
  have := (Nat.le_log2 h0 (k := 52)).2 h1
  omega

theorem div_near {x y : Nat} {q b : Int} (hx : Is x (q * b)) (hy : Is y b) (ha : (q * b).natAbs < 2 ^ 53) (hb : b.natAbs < 2 ^ 53) (h0 : b ≠ 0) :
    ∃ z, floatBits .quo .f64 x y = some z ∧ fin z = true ∧ (q ≠ 0 → Near z q) ∧ (q = 0 → (decide (b < 0) = false → Is z 0) ∧ (decide (b < 0) = true → isW z = false)) := by
  show ∃ z, ((Ieee.double.read x).quotient 54 (Ieee.double.read y)).map Ieee.double.write = some z ∧ _
  rw [read_fin hx.1, read_fin hy.1]
  obtain ⟨v, hv, hpv, hdv, hlo, hhi⟩ := laid_is hy h0 hb
  simp only [Ieee.Datum.quotient]
  rw [if_neg (by omega)]
  simp only [Option.map_some, Option.some.injEq]
  refine ⟨_, rfl, ?_⟩
  rw [sg_is hx, sg_is hy, log2_53 hlo hhi]
  by_cases hq : q = 0
  · subst hq
    rw [Int.zero_mul] at hx ⊢
    rw [dg_zero hx]
    have e : ∀ k : Nat, 2 * ((0 <<< k) / dg (rg y)) + ((0 <<< k) % dg (rg y) != 0).toNat = 0 := by intro k; simp
    rw [e]
    show fin (Ieee.double.nearest _ 0 _) = true ∧ _
    obtain ⟨n1, n2, n3⟩ := near0 (decide ((0 : Int) < 0) ^^ decide (b < 0)) (-1074 + (pl (rg x) : Int) - (-1074 + (pl (rg y) : Int)) - ((54 + 52 - Nat.log2 0 : Nat) : Int) - 1)
    have e2 : (decide ((0 : Int) < 0) ^^ decide (b < 0)) = decide (b < 0) := by simp
    rw [e2] at n1 n2 n3 ⊢
    exact ⟨n1, fun h => absurd rfl h, fun _ => ⟨n2, n3⟩⟩
  · have hqb : q * b ≠ 0 := Int.mul_ne_zero hq h0
    obtain ⟨u, hu, hpu, hdu, hlo2, hhi2⟩ := laid_is hx hqb ha
    have hU : U = 1074 := rfl
    rw [log2_53 hlo2 hhi2]
    have e54 : 54 + 52 - 52 = 54 := rfl
    rw [e54]
    obtain ⟨t, ht⟩ : ∃ t, u + 54 = v + t := ⟨u + 54 - v, by omega⟩
    have hdd : dg (rg x) <<< 54 = q.natAbs * 2 ^ t * dg (rg y) := by
      rw [Nat.shiftLeft_eq, hdu, hdv, Nat.mul_assoc, ← Nat.pow_add, ht, Int.natAbs_mul, Nat.pow_add]
      simp only [Nat.mul_assoc, Nat.mul_left_comm, Nat.mul_comm]
    have hpos : 0 < dg (rg y) := by omega
    have e1 : dg (rg x) <<< 54 / dg (rg y) = q.natAbs * 2 ^ t := by rw [hdd]; exact Nat.mul_div_cancel _ hpos
    have e2 : dg (rg x) <<< 54 % dg (rg y) = 0 := by rw [hdd]; exact Nat.mul_mod_left _ _
    rw [e1, e2]
    have hn : Near (Ieee.double.nearest (decide (q * b < 0) ^^ decide (b < 0)) (2 * (q.natAbs * 2 ^ t) + ((0 : Nat) != 0).toNat) (-1074 + (pl (rg x) : Int) - (-1074 + (pl (rg y) : Int)) - ((54 : Nat) : Int) - 1)) q := by
      refine near_whole _ _ _ _ (by omega) ?_ ?_ ?_
      · have e3 : (-1074 + (pl (rg x) : Int) - (-1074 + (pl (rg y) : Int)) - ((54 : Nat) : Int) - 1 + 1074).toNat = U + v - u - 55 := by omega
        rw [e3, K_def]
        have e4 : U = t + 1 + (U + v - u - 55) := by omega
        have e5 : (2 * (q.natAbs * 2 ^ t) + ((0 : Nat) != 0).toNat) = q.natAbs * 2 ^ (t + 1) := by
          rw [Nat.pow_succ]; simp; rw [Nat.mul_comm 2, Nat.mul_assoc]
        rw [e5, Nat.mul_assoc, ← Nat.pow_add, ← e4]
      · rcases Int.lt_trichotomy q 0 with h1 | h1 | h1 <;> rcases Int.lt_trichotomy b 0 with h2 | h2 | h2
        · have := Int.mul_pos_of_neg_of_neg h1 h2
          have h3 : ¬ q * b < 0 := by omega
          simp [h1, h2, h3]
        · exact absurd h2 h0
        · have := Int.mul_neg_of_neg_of_pos h1 h2
          have h3 : ¬ b < 0 := by omega
          simp [h1, h3, this]
        · exact absurd h1 hq
        · exact absurd h1 hq
        · exact absurd h1 hq
        · have := Int.mul_neg_of_pos_of_neg h1 h2
          have h3 : ¬ q < 0 := by omega
          simp [h2, h3, this]
        · exact absurd h2 h0
        · have := Int.mul_pos h1 h2
          have h3 : ¬ q * b < 0 := by omega
          have h4 : ¬ b < 0 := by omega
          have h5 : ¬ q < 0 := by omega
          simp [h3, h4, h5]
      · have h1 : q.natAbs * 1 ≤ q.natAbs * b.natAbs := Nat.mul_le_mul_left _ (by omega)
        rw [Int.natAbs_mul] at ha
        have : (2 : Nat) ^ 53 ≤ 2 ^ 106 := by decide
        omega
    exact ⟨hn.1, fun _ => hn, fun h => absurd h hq⟩

/-- By nought. -/
theorem div_inf {x y : Nat} {a : Int} (hx : Is x a) (hy : Is y 0) (h : a ≠ 0) (ha : a.natAbs < 2 ^ 53) : ∃ z, floatBits .quo .f64 x y = some z ∧ isW z = false ∧ isNaN z = false := by
  show ∃ z, ((Ieee.double.read x).quotient 54 (Ieee.double.read y)).map Ieee.double.write = some z ∧ _
  rw [read_fin hx.1, read_fin hy.1, dg_zero hy]
  obtain ⟨u, _, _, _, hlo, _⟩ := laid_is hx h ha
  simp only [Ieee.Datum.quotient, if_true]
  rw [if_neg (by omega)]
  refine ⟨_, rfl, ?_⟩
  show isW (Ieee.double.word _ _) = false ∧ _
  generalize (sg x ^^ sg y) = s
  refine ⟨not_isW_inf ?_, ?_⟩ <;> cases s <;> decide

theorem div_none {x y : Nat} (hx : Is x 0) (hy : Is y 0) : floatBits .quo .f64 x y = none := by
  show ((Ieee.double.read x).quotient 54 (Ieee.double.read y)).map Ieee.double.write = none
  rw [read_fin hx.1, read_fin hy.1, dg_zero hy, dg_zero hx]
  rfl

end Fl
end Go.Proofs.YtnlaolehpofmlaaDoor
