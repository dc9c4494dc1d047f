/-
  Plain laws on floats for places in a text: a float cut towards zero, added to a length, the greater and the lesser of two, as a whole number.
-/
import Derived.Test.YtnlaolehpofmlaaDoorTrunc
import Derived.Test.YtnlaolehpofmlaaDoorSumsPlain
namespace Go.Proofs.YtnlaolehpofmlaaDoor
namespace Fl

theorem rg_word (s : Bool) {r : Nat} (h : r ≤ top) : rg (Ieee.double.word s r) = r := by
  have ht : top = 2047 * 2 ^ 52 := rfl
  unfold rg Ieee.Format.word
  rw [signWeight_double]
  cases s <;> simp <;> omega
theorem sg_word (s : Bool) {r : Nat} (h : r ≤ top) : sg (Ieee.double.word s r) = s := by
  have ht : top = 2047 * 2 ^ 52 := rfl
  unfold sg Ieee.Format.word
  rw [signWeight_double]
  cases s
  · rw [if_neg (by decide), beq_eq_false_iff_ne]; omega
  · rw [if_pos rfl, beq_iff_eq]; omega
theorem nearest_word (s : Bool) (m : Nat) (p : Int) : ∃ r, r ≤ top ∧ Ieee.double.nearest s m p = Ieee.double.word s r := by
  unfold Ieee.Format.nearest
  by_cases h : m = 0
  · rw [if_pos h]; exact ⟨0, Nat.zero_le _, rfl⟩
  · rw [if_neg h]
    refine ⟨_, ?_, rfl⟩
    rw [← infRung_double]; exact Nat.min_le_right _ _
theorem not_nan_word (s : Bool) {r : Nat} (h : r ≤ top) : isNaN (Ieee.double.word s r) = false := by
  unfold isNaN; rw [rg_word s h, decide_eq_false_iff_not]; omega

/-- Two finite words put together: the word nearest to the sum. -/
theorem add_fin {x y : Nat} (hx : fin x = true) (hy : fin y = true) : ∃ (m : Nat) (p : Int), -1074 ≤ p ∧ m * 2 ^ (p + 1074).toNat = (sc x + sc y).natAbs ∧
    floatBits .add .f64 x y = some (Ieee.double.nearest (if sc x + sc y = 0 then sg x && sg y else decide (sc x + sc y < 0)) m p) := by
  have hkk : ∃ k : Nat, min (-1074 + (pl (rg x) : Int)) (-1074 + (pl (rg y) : Int)) = -1074 + (k : Int) ∧ k ≤ pl (rg x) ∧ k ≤ pl (rg y) := by
    by_cases h : pl (rg x) ≤ pl (rg y)
    · exact ⟨pl (rg x), by omega, by omega, by omega⟩
    · exact ⟨pl (rg y), by omega, by omega, by omega⟩
  obtain ⟨k, e, h1, h2⟩ := hkk
  have e1 : (-1074 + (pl (rg x) : Int) - (-1074 + (k : Int))).toNat = pl (rg x) - k := by omega
  have e2 : (-1074 + (pl (rg y) : Int) - (-1074 + (k : Int))).toNat = pl (rg y) - k := by omega
  have s1 := sc_signed x k h1
  have s2 := sc_signed y k h2
  have hs : sc x + sc y = (Ieee.signed (sg x) (dg (rg x)) (pl (rg x) - k) + Ieee.signed (sg y) (dg (rg y)) (pl (rg y) - k)) * (2 ^ k : Nat) := by rw [s1, s2, Int.add_mul]
  refine ⟨(Ieee.signed (sg x) (dg (rg x)) (pl (rg x) - k) + Ieee.signed (sg y) (dg (rg y)) (pl (rg y) - k)).natAbs, -1074 + (k : Int), by omega, ?_, ?_⟩
  · have e3 : (-1074 + (k : Int) + 1074).toNat = k := by omega
    rw [e3, hs, Int.natAbs_mul, Int.natAbs_natCast]
  · show ((Ieee.double.read x).sum (Ieee.double.read y)).map Ieee.double.write = _
    rw [read_fin hx, read_fin hy]
    simp only [Ieee.Datum.sum, Option.map_some, Option.some.injEq, e, e1, e2]
    generalize Ieee.signed (sg x) (dg (rg x)) (pl (rg x) - k) + Ieee.signed (sg y) (dg (rg y)) (pl (rg y) - k) = T at *
    have hk2 := pow_pos2 k
    have hT0 : T = 0 ↔ sc x + sc y = 0 := by
      rw [hs]; constructor
      · intro h; rw [h, Int.zero_mul]
      · intro h
        rcases Int.mul_eq_zero.1 h with h | h
        · exact h
        · omega
    have hTn : T < 0 ↔ sc x + sc y < 0 := by
      have i2 : T * ((2 ^ k : Nat) : Int) < 0 * ((2 ^ k : Nat) : Int) ↔ T < 0 := Int.mul_lt_mul_right (by omega)
      rw [Int.zero_mul] at i2
      rw [hs]; exact i2.symm
    show Ieee.double.nearest _ _ _ = _
    congr 1
    by_cases h : T = 0
    · rw [if_pos h, if_pos (hT0.1 h)]
    · rw [if_neg h, if_neg (fun h2 => h (hT0.2 h2)), decide_eq_decide]; exact hTn

/-! ### cut towards zero, beside a whole number -/

theorem neg_sg {b : Nat} (h : sc b < 0) : sg b = true ∧ sc b = -(mg (rg b) : Int) ∧ tr b = -((mg (rg b) / K : Nat) : Int) := by
  have hs : sg b = true := by
    cases hs : sg b
    · unfold sc at h; rw [hs] at h; simp at h; omega
    · rfl
  refine ⟨hs, by unfold sc; rw [if_pos hs], by unfold tr; rw [if_pos hs]⟩
theorem pos_sg {b : Nat} (h : 0 ≤ sc b) : sc b = (mg (rg b) : Int) ∧ tr b = ((mg (rg b) / K : Nat) : Int) := by
  cases hs : sg b
  · exact ⟨by unfold sc; rw [hs]; simp, by unfold tr; rw [hs]; simp⟩
  · have h0 : mg (rg b) = 0 := by unfold sc at h; rw [if_pos hs] at h; omega
    refine ⟨by unfold sc; rw [if_pos hs, h0]; rfl, by unfold tr; rw [if_pos hs, h0, Nat.zero_div]; rfl⟩
theorem tr_le_neg {b n : Nat} (h : sc b < 0) : sc b ≤ -(n : Int) * (K : Int) ↔ tr b ≤ -(n : Int) := by
  obtain ⟨_, h1, h2⟩ := neg_sg h
  rw [h1, h2]
  have := Nat.le_div_iff_mul_le (x := n) (y := mg (rg b)) K_pos
  have e : ((n * K : Nat) : Int) = (n : Int) * (K : Int) := Int.natCast_mul _ _
  rw [Int.neg_mul, ← e]
  generalize n * K = q at *
  generalize mg (rg b) / K = r at *
  omega
theorem tr_ge {b n : Nat} (h : 0 ≤ sc b) : (n : Int) * (K : Int) ≤ sc b ↔ (n : Int) ≤ tr b := by
  obtain ⟨h1, h2⟩ := pos_sg h
  rw [h1, h2]
  have := Nat.le_div_iff_mul_le (x := n) (y := mg (rg b)) K_pos
  have e : ((n * K : Nat) : Int) = (n : Int) * (K : Int) := Int.natCast_mul _ _
  rw [← e]
  generalize n * K = q at *
  generalize mg (rg b) / K = r at *
  omega
theorem tr_nonpos {b : Nat} (h : sc b < 0) : tr b ≤ 0 := by rw [(neg_sg h).2.2]; exact Int.neg_nonpos_of_nonneg (Int.natCast_nonneg _)
theorem tr_nonneg {b : Nat} (h : 0 ≤ sc b) : 0 ≤ tr b := by rw [(pos_sg h).2]; exact Int.natCast_nonneg _
theorem tr_of_sc {b : Nat} {n : Int} (h : sc b = n * (K : Int)) : tr b = n := by
  have hk := K_pos
  have i1 := mulK_lt n 0
  rw [Int.zero_mul, ← h] at i1
  by_cases hn : sc b < 0
  · obtain ⟨_, h1, h2⟩ := neg_sg hn
    obtain ⟨q, rfl⟩ : ∃ q : Nat, n = -(q : Int) := ⟨n.natAbs, by omega⟩
    have e : mg (rg b) = q * K := by
      have : (mg (rg b) : Int) = (q * K : Nat) := by rw [Int.natCast_mul]; rw [h, Int.neg_mul] at h1; omega
      exact Int.ofNat.inj this
    rw [h2, e, Nat.mul_div_cancel _ hk]
  · obtain ⟨h1, h2⟩ := pos_sg (by omega : 0 ≤ sc b)
    obtain ⟨q, rfl⟩ : ∃ q : Nat, n = (q : Int) := ⟨n.natAbs, by omega⟩
    have e : mg (rg b) = q * K := by
      have : (mg (rg b) : Int) = (q * K : Nat) := by rw [Int.natCast_mul, ← h1, h]
      exact Int.ofNat.inj this
    rw [h2, e, Nat.mul_div_cancel _ hk]

/-! ### the place -/

/-- The place of a float in a text of 'n' bytes. -/
def plc (n x : Nat) : Nat :=
  if isNaN x then 0 else if fin x then (if sc x < 0 then ((n : Int) + tr x).toNat else if (n : Int) ≤ tr x then n else (tr x).toNat) else if sg x then 0 else n

theorem plc_le (n x : Nat) : plc n x ≤ n := by
  unfold plc
  split
  · omega
  · split
    · split
      · rename_i h; have := tr_nonpos h; omega
      · split <;> omega
    · split <;> omega

theorem not_fin_inf {x : Nat} (h : isNaN x = false) (hf : fin x = false) : rg x = top := by
  rcases kinds x with h1 | h1 | h1
  · rw [h1] at hf; cases hf
  · exact h1
  · rw [h1] at h; cases h

theorem order_x0 {x : Nat} (h : isNaN x = false) : (FloatKind.f64.format.order x 0 == some .lt) = if fin x then decide (sc x < 0) else sg x := by
  cases hf : fin x
  · rw [order_inf_fin (not_fin_inf h hf) fin_0]; cases sg x <;> rfl
  · rw [lt_fin hf fin_0, sc_0]; rfl

variable {P : Program}
def maxW (x y : Nat) : Ordering → Nat
  | .lt => y
  | .gt => x
  | .eq => if (FloatKind.f64.decode x).neg then y else x
def minW (x y : Nat) : Ordering → Nat
  | .lt => x
  | .gt => y
  | .eq => if (FloatKind.f64.decode x).neg then x else y
theorem run_max2 (ts : Array TypeId) (t : TypeId) (x y : Nat) (o : Ordering) (ho : FloatKind.f64.format.order x y = some o) (w : World) :
    (Builtin.max_ ts t #[.float .f64 x, .float .f64 y]).run P w = .ok (.float .f64 (maxW x y o)) w := by
  unfold Builtin.max_ Builtin.max2
  simp only [List.foldlM_cons, List.foldlM_nil, ho]
  cases o <;> rfl
theorem run_min2 (ts : Array TypeId) (t : TypeId) (x y : Nat) (o : Ordering) (ho : FloatKind.f64.format.order x y = some o) (w : World) :
    (Builtin.min_ ts t #[.float .f64 x, .float .f64 y]).run P w = .ok (.float .f64 (minW x y o)) w := by
  unfold Builtin.min_ Builtin.min2
  simp only [List.foldlM_cons, List.foldlM_nil, ho]
  cases o <;> rfl

theorem is_len (n : Nat) (h : n ≤ 9000) : Is (floatOfInt .f64 (n : Int)) n := is_nearest n (by omega) (by omega)
theorem sg_len (n : Nat) (h : n ≤ 9000) : sg (floatOfInt .f64 (n : Int)) = false := by
  have := sg_is (is_len n h)
  rw [this, decide_eq_false_iff_not]; omega

theorem small_conv {b : Nat} {n : Nat} (hf : fin b = true) (h : tr b = n) (hn : n ≤ 9000) : floatToIntVal .f64 b .i64 = some (n : Int) := by
  rw [← h]; exact toI64 hf (by rw [h]; unfold safe; omega) (by rw [h]; unfold safe; omega)

theorem truncW_fin {x : Nat} (hf : fin x = true) : fin (truncW x) = true ∧ sg (truncW x) = sg x ∧ sc (truncW x) = tr x * (K : Int) := by
  unfold truncW; rw [if_pos hf]; exact trunc_fin hf
theorem truncW_inf {x : Nat} (hf : fin x = false) : truncW x = Ieee.double.word (sg x) top := by
  unfold truncW; rw [if_neg (by rw [hf]; decide)]

/-- Below nought: the length with the cut, but not below nought. -/
theorem place_neg (n x : Nat) (hn : n ≤ 9000) (hx : isNaN x = false) (h0 : (if fin x then decide (sc x < 0) else sg x) = true) : ∃ z m, floatBits .add .f64 (floatOfInt .f64 (n : Int)) (truncW x) = some z ∧
    (∀ (ts : Array TypeId) (t : TypeId) (w : World), (Builtin.max_ ts t #[.float .f64 0, .float .f64 z]).run P w = .ok (.float .f64 m) w) ∧ floatToIntVal .f64 m .i64 = some (plc n x : Int) := by
  have hL := is_len n hn
  have hk := K_pos
  have c0 : floatToIntVal .f64 0 .i64 = some ((0 : Nat) : Int) := small_conv fin_0 (tr_of_is is_0) (by omega)
  cases hf : fin x
  · rw [hf] at h0; simp only [Bool.false_eq_true, if_false] at h0
    have e1 : truncW x = Ieee.double.word true top := by rw [truncW_inf hf, h0]
    refine ⟨Ieee.double.word true top, 0, ?_, fun ts t w => ?_, ?_⟩
    · show ((Ieee.double.read _).sum (Ieee.double.read _)).map Ieee.double.write = _
      rw [read_fin hL.1, e1, read_word_inf]
      simp [Ieee.Datum.sum, Ieee.Format.write, infRung_double]
    · rw [run_max2 ts t 0 (Ieee.double.word true top) .gt (by rw [order_fin_inf fin_0 (rg_word _ (Nat.le_refl _)), sg_word _ (Nat.le_refl _)]; rfl)]; rfl
    · rw [c0]; unfold plc; rw [hx, hf, h0]; rfl
  · rw [hf] at h0; simp only [if_true, decide_eq_true_eq] at h0
    obtain ⟨t1, t2, t3⟩ := truncW_fin hf
    obtain ⟨m, p, hp, hM, he⟩ := add_fin hL.1 t1
    have hs : sc (floatOfInt .f64 (n : Int)) + sc (truncW x) = ((n : Int) + tr x) * (K : Int) := by rw [hL.2.1, t3, Int.add_mul]
    have hlt := mulK_lt ((n : Int) + tr x) 0
    have heq := mulK_eq ((n : Int) + tr x) 0
    rw [Int.zero_mul, ← hs] at hlt heq
    have hn0 := tr_nonpos h0
    have hplc : plc n x = ((n : Int) + tr x).toNat := by unfold plc; rw [hx, hf, if_neg (by decide), if_pos rfl, if_pos h0]
    rw [hplc]
    by_cases hneg : (n : Int) + tr x < 0
    · rw [if_neg (by rw [heq]; omega), decide_eq_true (hlt.2 hneg)] at he
      obtain ⟨r, hr, er⟩ := nearest_word true m p
      rw [er] at he
      refine ⟨_, 0, he, fun ts t w => ?_, by rw [c0]; congr 1; omega⟩
      rcases kinds (Ieee.double.word true r) with k1 | k1 | k1
      · have ho : FloatKind.f64.format.order 0 (Ieee.double.word true r) = some (compare (sc 0) (sc (Ieee.double.word true r))) := order_fin fin_0 k1
        rw [run_max2 ts t 0 _ _ ho]
        have hle : sc (Ieee.double.word true r) ≤ sc 0 := by rw [sc_0]; unfold sc; rw [sg_word _ hr]; simp
        congr 1
        cases hc : compare (sc 0) (sc (Ieee.double.word true r))
        · have := compare_lt_iff (sc 0) (sc (Ieee.double.word true r)); rw [hc] at this; simp at this; omega
        · rfl
        · rfl
      · rw [run_max2 ts t 0 _ .gt (by rw [order_fin_inf fin_0 k1, sg_word _ hr]; rfl)]; rfl
      · rw [not_nan_word _ hr] at k1; cases k1
    · have hN := near_whole (if sc (floatOfInt .f64 (n : Int)) + sc (truncW x) = 0 then sg (floatOfInt .f64 (n : Int)) && sg (truncW x) else decide (sc (floatOfInt .f64 (n : Int)) + sc (truncW x) < 0)) m p ((n : Int) + tr x) hp
        (by rw [hM, hs, Int.natAbs_mul, Int.natAbs_natCast]) (by
          split
          · rw [sg_len n hn, Bool.false_and]; exact (decide_eq_false hneg).symm
          · rw [decide_eq_decide]; exact hlt) (by omega)
      have hI := hN.2.1 (by omega)
      obtain ⟨q, hq⟩ : ∃ q : Nat, (n : Int) + tr x = q := ⟨((n : Int) + tr x).toNat, by omega⟩
      rw [hq] at hI ⊢
      generalize Ieee.double.nearest _ m p = z at he hI
      have ho : FloatKind.f64.format.order 0 z = some (compare 0 (q : Int)) := by have := order_is is_0 hI; simpa using this
      rcases Nat.eq_zero_or_pos q with h | h
      · subst h
        refine ⟨z, 0, he, fun ts t w => ?_, c0⟩
        rw [run_max2 ts t 0 z _ ho]; rfl
      · refine ⟨z, z, he, fun ts t w => ?_, small_conv hI.1 (tr_of_is hI) (by omega)⟩
        rw [run_max2 ts t 0 z _ ho]
        have : compare (0 : Int) (q : Int) = .lt := by
          have := compare_lt_iff 0 (q : Int); rw [decide_eq_true (by omega)] at this; simpa using this
        rw [this]; rfl

/-- From nought on: the lesser of the length and the cut. -/
theorem place_pos (n x : Nat) (hn : n ≤ 9000) (hx : isNaN x = false) (h0 : (if fin x then decide (sc x < 0) else sg x) = false) : ∃ m,
    (∀ (ts : Array TypeId) (t : TypeId) (w : World), (Builtin.min_ ts t #[.float .f64 (floatOfInt .f64 (n : Int)), .float .f64 (truncW x)]).run P w = .ok (.float .f64 m) w) ∧ floatToIntVal .f64 m .i64 = some (plc n x : Int) := by
  have hL := is_len n hn
  have hk := K_pos
  have cL : floatToIntVal .f64 (floatOfInt .f64 (n : Int)) .i64 = some (n : Int) := small_conv hL.1 (tr_of_is hL) hn
  cases hf : fin x
  · rw [hf] at h0; simp only [Bool.false_eq_true, if_false] at h0
    have e1 : truncW x = Ieee.double.word false top := by rw [truncW_inf hf, h0]
    refine ⟨floatOfInt .f64 (n : Int), fun ts t w => ?_, ?_⟩
    · rw [e1, run_min2 ts t _ _ .lt (by rw [order_fin_inf hL.1 (rg_word _ (Nat.le_refl _)), sg_word _ (Nat.le_refl _)]; rfl)]; rfl
    · rw [cL]; unfold plc; rw [hx, hf, h0]; rfl
  · rw [hf] at h0; simp only [if_true, decide_eq_false_iff_not, Int.not_lt] at h0
    obtain ⟨t1, t2, t3⟩ := truncW_fin hf
    have ho : FloatKind.f64.format.order (floatOfInt .f64 (n : Int)) (truncW x) = some (compare (n : Int) (tr x)) := by
      have := order_fin hL.1 t1
      rw [hL.2.1, t3, compare_mul _ _ _ K_pos] at this; exact this
    have hn0 := tr_nonneg h0
    have hplc : plc n x = if (n : Int) ≤ tr x then n else (tr x).toNat := by unfold plc; rw [hx, hf, if_neg (by decide), if_pos rfl, if_neg (by omega)]
    rw [hplc]
    have tt : tr (truncW x) = tr x := tr_of_sc t3
    have cl := compare_lt_iff (n : Int) (tr x)
    have cg := compare_gt_iff (n : Int) (tr x)
    cases hc : compare (n : Int) (tr x)
    · rw [hc] at cl
      have h1 : (n : Int) < tr x := by simpa using cl
      rw [if_pos (by omega)]
      exact ⟨_, fun ts t w => by rw [run_min2 ts t _ _ _ ho, hc]; rfl, cL⟩
    · rw [hc] at cl cg
      have h1 : ¬ (n : Int) < tr x := by simpa using cl
      have h2 : ¬ tr x < (n : Int) := by simpa using cg
      rw [if_pos (by omega)]
      by_cases hd : (FloatKind.f64.decode (floatOfInt .f64 (n : Int))).neg = true
      · exact ⟨_, fun ts t w => by rw [run_min2 ts t _ _ _ ho, hc]; unfold minW; simp only [hd, if_true], cL⟩
      · exact ⟨_, fun ts t w => by rw [run_min2 ts t _ _ _ ho, hc]; unfold minW; simp only [hd]; rfl, small_conv t1 (by rw [tt]; omega) hn⟩
    · rw [hc] at cg
      have h1 : tr x < (n : Int) := by simpa using cg
      rw [if_neg (by omega)]
      exact ⟨_, fun ts t w => by rw [run_min2 ts t _ _ _ ho, hc]; rfl, small_conv t1 (by rw [tt]; omega) (by omega)⟩

/-! ### the reference's own tests -/

theorem xor_top {b : Nat} (h : b < 2 ^ 63) : b ^^^ 2 ^ 63 = 2 ^ 63 + b := by
  apply Nat.eq_of_testBit_eq
  intro i
  rw [Nat.testBit_xor, Nat.testBit_two_pow]
  rcases Nat.lt_trichotomy i 63 with h1 | h1 | h1
  · rw [Nat.testBit_two_pow_add_gt h1, decide_eq_false (by omega)]; simp
  · subst h1
    rw [Nat.testBit_two_pow_add_eq]; simp
  · have h2 : 2 ^ 64 ≤ 2 ^ i := Nat.pow_le_pow_right (by decide) h1
    rw [Nat.testBit_lt_two_pow (show b < 2 ^ i by omega), Nat.testBit_lt_two_pow (show 2 ^ 63 + b < 2 ^ i by omega), decide_eq_false (by omega)]; rfl

/-- The length, negated, as a float. -/
def negL (n : Nat) : Nat := Op.negFloat .f64 (floatOfInt .f64 (n : Int))
theorem negL_is (n : Nat) (h : n ≤ 9000) : fin (negL n) = true ∧ sc (negL n) = -(n : Int) * (K : Int) := by
  have hL := is_len n h
  have hs := sg_len n h
  obtain ⟨r, hr, er⟩ : ∃ r, r ≤ top ∧ floatOfInt .f64 (n : Int) = Ieee.double.word (decide ((n : Int) < 0)) r := nearest_word _ _ _
  rw [decide_eq_false (by omega)] at er
  have er2 : floatOfInt .f64 (n : Int) = r := er
  have ht : top = 2047 * 2 ^ 52 := rfl
  have e : negL n = Ieee.double.word true r := by
    unfold negL; rw [er2]
    show r ^^^ 2 ^ 63 = _
    rw [xor_top (by omega)]; rfl
  have g1 : rg (negL n) = r := by rw [e, rg_word _ hr]
  have g2 : rg (floatOfInt .f64 (n : Int)) = r := by rw [er, rg_word _ hr]
  have g3 : sg (negL n) = true := by rw [e, sg_word _ hr]
  have h2 := hL.2.1
  refine ⟨by have := hL.1; unfold fin at this ⊢; rw [g1]; rw [g2] at this; exact this, ?_⟩
  unfold sc at h2 ⊢
  rw [hs, g2] at h2
  rw [g3, g1, if_pos rfl]
  simp only [Bool.false_eq_true, if_false] at h2
  rw [h2, Int.neg_mul]

theorem le_cmp (a b : Int) : ((some (compare a b) == some Ordering.lt) || (some (compare a b) == some Ordering.eq)) = decide (a ≤ b) := by
  have h1 := compare_lt_iff a b
  have h2 := compare_eq_iff a b
  show ((compare a b == Ordering.lt) || (compare a b == Ordering.eq)) = _
  rw [h1, h2, Bool.eq_iff_iff]; simp; omega
theorem ge_cmp (a b : Int) : ((some (compare a b) == some Ordering.gt) || (some (compare a b) == some Ordering.eq)) = decide (b ≤ a) := by
  have h1 := compare_gt_iff a b
  have h2 := compare_eq_iff a b
  show ((compare a b == Ordering.gt) || (compare a b == Ordering.eq)) = _
  rw [h1, h2, Bool.eq_iff_iff]; simp; omega

theorem ref_neg (n x : Nat) (hn : n ≤ 9000) (hx : isNaN x = false) (h0 : (if fin x then decide (sc x < 0) else sg x) = true) :
    (((FloatKind.f64.format.order x (negL n) == some .lt) || (FloatKind.f64.format.order x (negL n) == some .eq)) = true ∧ plc n x = 0) ∨
    (((FloatKind.f64.format.order x (negL n) == some .lt) || (FloatKind.f64.format.order x (negL n) == some .eq)) = false ∧ ∃ q : Nat, q ≤ n ∧ floatToIntVal .f64 x .i64 = some (-(q : Int)) ∧ plc n x = n - q) := by
  obtain ⟨n1, n2⟩ := negL_is n hn
  cases hf : fin x
  · rw [hf] at h0; simp only [Bool.false_eq_true, if_false] at h0
    refine Or.inl ⟨?_, by unfold plc; rw [hx, hf, h0]; rfl⟩
    rw [order_inf_fin (not_fin_inf hx hf) n1, h0]; rfl
  · rw [hf] at h0; simp only [if_true, decide_eq_true_eq] at h0
    have ho : FloatKind.f64.format.order x (negL n) = some (compare (sc x) (sc (negL n))) := order_fin hf n1
    have hplc : plc n x = ((n : Int) + tr x).toNat := by unfold plc; rw [hx, hf, if_neg (by decide), if_pos rfl, if_pos h0]
    have ht := tr_le_neg (n := n) h0
    have hn0 := tr_nonpos h0
    rw [hplc, ho, le_cmp, n2]
    by_cases hc : sc x ≤ -(n : Int) * (K : Int)
    · exact Or.inl ⟨decide_eq_true hc, by have := ht.1 hc; omega⟩
    · have h1 : ¬ tr x ≤ -(n : Int) := fun h => hc (ht.2 h)
      refine Or.inr ⟨decide_eq_false hc, (-(tr x)).toNat, by omega, ?_, by omega⟩
      rw [toI64 hf (by unfold safe; omega) (by unfold safe; omega)]
      congr 1; omega

theorem ref_pos (n x : Nat) (hn : n ≤ 9000) (hx : isNaN x = false) (h0 : (if fin x then decide (sc x < 0) else sg x) = false) :
    (((FloatKind.f64.format.order x (floatOfInt .f64 (n : Int)) == some .gt) || (FloatKind.f64.format.order x (floatOfInt .f64 (n : Int)) == some .eq)) = true ∧ plc n x = n) ∨
    (((FloatKind.f64.format.order x (floatOfInt .f64 (n : Int)) == some .gt) || (FloatKind.f64.format.order x (floatOfInt .f64 (n : Int)) == some .eq)) = false ∧ floatToIntVal .f64 x .i64 = some (plc n x : Int)) := by
  have hL := is_len n hn
  cases hf : fin x
  · rw [hf] at h0; simp only [Bool.false_eq_true, if_false] at h0
    refine Or.inl ⟨?_, by unfold plc; rw [hx, hf, h0]; rfl⟩
    rw [order_inf_fin (not_fin_inf hx hf) hL.1, h0]; rfl
  · rw [hf] at h0; simp only [if_true, decide_eq_false_iff_not, Int.not_lt] at h0
    have ho : FloatKind.f64.format.order x (floatOfInt .f64 (n : Int)) = some (compare (sc x) (sc (floatOfInt .f64 (n : Int)))) := order_fin hf hL.1
    have hplc : plc n x = if (n : Int) ≤ tr x then n else (tr x).toNat := by unfold plc; rw [hx, hf, if_neg (by decide), if_pos rfl, if_neg (by omega)]
    have ht := tr_ge (n := n) h0
    have hn0 := tr_nonneg h0
    rw [hplc, ho, ge_cmp, hL.2.1]
    by_cases hc : (n : Int) * (K : Int) ≤ sc x
    · exact Or.inl ⟨decide_eq_true hc, if_pos (ht.1 hc)⟩
    · have h1 : ¬ (n : Int) ≤ tr x := fun h => hc (ht.2 h)
      refine Or.inr ⟨decide_eq_false hc, ?_⟩
      rw [if_neg h1, toI64 hf (by unfold safe; omega) (by unfold safe; omega)]
      congr 1; omega

end Fl
end Go.Proofs.YtnlaolehpofmlaaDoor
