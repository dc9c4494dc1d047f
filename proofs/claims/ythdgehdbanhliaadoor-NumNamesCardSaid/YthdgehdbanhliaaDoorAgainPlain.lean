/-
  Plain facts for NumAgain: a numeral is read back; and, or, either-or.
-/
import Derived.Test.YthdgehdbanhliaaDoorBareWalk
import Derived.Test.YthdgehdbanhliaaDoorIntWalk
namespace Go.Proofs.YthdgehdbanhliaaDoor
open Go.RowKit

theorem nat_and_or : ∀ (n x y : Nat), x < 2 ^ n → y < 2 ^ n → (x &&& y) + (x ||| y) = x + y
  | 0, x, y, hx, hy => by
    have h1 : x = 0 := by simpa using hx
    have h2 : y = 0 := by simpa using hy
    subst h1; subst h2; rfl
  | n + 1, x, y, hx, hy => by
    have ih := nat_and_or n (x / 2) (y / 2) (by rw [Nat.pow_succ] at hx; omega) (by rw [Nat.pow_succ] at hy; omega)
    have e1 : (x &&& y) / 2 = (x / 2) &&& (y / 2) := by have := Nat.and_div_two_pow (a := x) (b := y) (n := 1); simpa using this
    have e2 : (x ||| y) / 2 = (x / 2) ||| (y / 2) := by have := Nat.or_div_two_pow (a := x) (b := y) (n := 1); simpa using this
    have e3 : (x &&& y) % 2 = (x % 2) &&& (y % 2) := by have := Nat.and_mod_two_pow (a := x) (b := y) (n := 1); simpa using this
    have e4 : (x ||| y) % 2 = (x % 2) ||| (y % 2) := by have := Nat.or_mod_two_pow (a := x) (b := y) (n := 1); simpa using this
    have e5 : ((x % 2) &&& (y % 2)) + ((x % 2) ||| (y % 2)) = x % 2 + y % 2 := by
      rcases Nat.mod_two_eq_zero_or_one x with h | h <;> rcases Nat.mod_two_eq_zero_or_one y with k | k <;> rw [h, k] <;> rfl
    omega

theorem bv_and_or (x y : BitVec 32) : (x &&& y).toInt + (x ||| y).toInt = x.toInt + y.toInt := by
  have h := nat_and_or 32 x.toNat y.toNat x.isLt y.isLt
  rw [BitVec.toInt_eq_msb_cond, BitVec.toInt_eq_msb_cond, BitVec.toInt_eq_msb_cond (x := x), BitVec.toInt_eq_msb_cond (x := y), BitVec.msb_and, BitVec.msb_or, BitVec.toNat_and, BitVec.toNat_or]
  cases x.msb <;> cases y.msb <;> simp <;> omega

theorem wrap_bv (v : BitVec 32) : IntKind.i32.wrap (v.toNat : Int) = v.toInt := by
  have h := v.isLt
  rw [BitVec.toInt_eq_toNat_cond, IntKind.wrap_i32]
  generalize v.toNat = n at *
  show (((n : Int) + 2147483648) % 4294967296 - 2147483648) = _
  split <;> omega

theorem bits_bv (a b : Int) : bits .and .i32 a b = (BitVec.ofInt 32 a &&& BitVec.ofInt 32 b).toInt ∧ bits .or .i32 a b = (BitVec.ofInt 32 a ||| BitVec.ofInt 32 b).toInt ∧ bits .xor .i32 a b = (BitVec.ofInt 32 a ^^^ BitVec.ofInt 32 b).toInt :=
  ⟨wrap_bv _, wrap_bv _, wrap_bv _⟩

/-- Is a number one of 32 bits? -/
def In32 (a : Int) : Prop := -2147483648 ≤ a ∧ a ≤ 2147483647

theorem ofInt_in {a : Int} (h : In32 a) : (BitVec.ofInt 32 a).toInt = a := by
  rw [BitVec.toInt_ofInt]
  obtain ⟨h1, h2⟩ := h
  rw [Int.bmod_eq_of_le]
  · simp; omega
  · simp; omega

theorem toInt_in (v : BitVec 32) : In32 v.toInt := by
  have h := v.isLt
  unfold In32
  rw [BitVec.toInt_eq_toNat_cond]
  generalize v.toNat = n at *
  split <;> omega

theorem and_or {a b : Int} (ha : In32 a) (hb : In32 b) : bits .and .i32 a b + bits .or .i32 a b = a + b := by
  rw [(bits_bv a b).1, (bits_bv a b).2.1, bv_and_or, ofInt_in ha, ofInt_in hb]

theorem xor_xor {a b : Int} (ha : In32 a) : bits .xor .i32 (bits .xor .i32 a b) b = a := by
  rw [(bits_bv _ b).2.2, (bits_bv a b).2.2, BitVec.ofInt_toInt, BitVec.xor_assoc, BitVec.xor_self, BitVec.xor_zero, ofInt_in ha]

theorem i32_in (x : Nat) : In32 (i32 x) := by unfold i32 In32 wrap32; omega

theorem i32_of {x : Nat} {a : Int} (h : Fl.Is x a) (ha : In32 a) : i32 x = a := by
  unfold In32 at ha
  have hw : Fl.isW x = true := Fl.isW_of_is h (by unfold Fl.safe; omega) (by unfold Fl.safe; omega)
  unfold i32
  rw [Fl.wv_eq hw, Fl.tr_of_is h]
  unfold wrap32; omega

/-! ### a numeral, read -/

theorem dig_byte (d : Nat) (h : d < 10) : isDig (UInt8.ofNat (48 + d)) = true ∧ (UInt8.ofNat (48 + d)).toNat - 48 = d := by
  have : d = 0 ∨ d = 1 ∨ d = 2 ∨ d = 3 ∨ d = 4 ∨ d = 5 ∨ d = 6 ∨ d = 7 ∨ d = 8 ∨ d = 9 := by omega
  rcases this with rfl | rfl | rfl | rfl | rfl | rfl | rfl | rfl | rfl | rfl <;> decide

theorem decDigits_worth (k : Nat) : (Lib.decDigits k).all isDig = true ∧ worth (Lib.decDigits k) = k ∧ Lib.decDigits k ≠ [] := by
  induction k using Nat.strongRecOn with
  | ind k ih =>
    by_cases h : k < 10
    · rw [Lib.decDigits_one h]
      obtain ⟨h1, h2⟩ := dig_byte k h
      refine ⟨by rw [List.all_cons, h1]; rfl, ?_, by simp⟩
      show 10 * 0 + _ = k
      rw [h2]; omega
    · rw [decDigits_step k h]
      obtain ⟨i1, i2, i3⟩ := ih (k / 10) (by omega)
      obtain ⟨h1, h2⟩ := dig_byte (k % 10) (Nat.mod_lt _ (by decide))
      refine ⟨by rw [List.all_append, i1, List.all_cons, h1]; rfl, ?_, by simp⟩
      rw [worth_snoc, i2, h2]; omega

theorem dig_not_bl {b : UInt8} (h : isDig b = true) : isBl b = false := by
  rw [← Bool.not_eq_true, isBl_iff]
  unfold isDig at h
  simp only [Bool.and_eq_true, decide_eq_true_eq] at h
  omega

theorem trim_id (l : List UInt8) (h1 : ∀ a, l.head? = some a → isBl a = false) (h2 : ∀ a, l.getLast? = some a → isBl a = false) : Lib.trimS l blanks = l := by
  have := trim_parts [] l [] rfl rfl h1 h2
  simpa using this

theorem dig_head {l : List UInt8} (h : l.all isDig = true) : ∀ a, l.head? = some a → isBl a = false := by
  intro a ha
  exact dig_not_bl (List.all_eq_true.1 h a (List.mem_of_mem_head? ha))
theorem dig_last {l : List UInt8} (h : l.all isDig = true) : ∀ a, l.getLast? = some a → isBl a = false := by
  intro a ha
  exact dig_not_bl (List.all_eq_true.1 h a (List.mem_of_mem_getLast? ha))

theorem read_itoa (n : Int) (h : n.natAbs ≤ 9007199254740991) : readR (Lib.itoa n) = (0, some n) := by
  unfold readR
  by_cases hn : n < 0
  · obtain ⟨k, rfl⟩ : ∃ k : Nat, n = -(k : Int) := ⟨n.natAbs, by omega⟩
    rw [Lib.itoa_neg k (by omega)]
    obtain ⟨d1, d2, d3⟩ := decDigits_worth k
    rw [trim_id]
    · have hu : unsigned (45 :: Lib.decDigits k) = Lib.decDigits k := by unfold unsigned; rw [if_pos (by simp)]; rfl
      have := rd_end (t := 45 :: Lib.decDigits k) (W := k) (g := false) (m := true) (by simp) (by rw [hu]; exact d3) (by simp) (by
        rw [hu]
        refine ⟨by rw [List.take_length]; exact d1, by rw [List.take_length, d2]; symm; rw [decide_eq_false_iff_not]; omega, by rw [List.take_length, d2]; rfl⟩)
      rw [this]
      unfold endR
      rw [if_neg (by simp; omega)]; rfl
    · intro a ha; cases ha; decide
    · intro a ha
      rw [List.getLast?_cons] at ha
      cases hl : (Lib.decDigits k).getLast? with
      | none => exact absurd (List.getLast?_eq_none_iff.1 hl) d3
      | some b => rw [hl] at ha; cases ha; exact dig_last d1 _ hl
  · obtain ⟨k, rfl⟩ : ∃ k : Nat, n = (k : Int) := ⟨n.toNat, by omega⟩
    rw [Lib.itoa_nonneg]
    obtain ⟨d1, d2, d3⟩ := decDigits_worth k
    rw [trim_id _ (dig_head d1) (dig_last d1)]
    have hd : ∀ a, (Lib.decDigits k).head? = some a → isDig a = true := fun a ha => List.all_eq_true.1 d1 a (List.mem_of_mem_head? ha)
    have h45 : (Lib.decDigits k).head? ≠ some 45 := fun h => by have := hd _ h; revert this; decide
    have h43 : (Lib.decDigits k).head? ≠ some 43 := fun h => by have := hd _ h; revert this; decide
    have hu : unsigned (Lib.decDigits k) = Lib.decDigits k := by unfold unsigned; rw [if_neg (by simp [h45, h43])]
    have := rd_end (t := Lib.decDigits k) (W := k) (g := false) (m := false) d3 (by rw [hu]; exact d3) (by simp [h45]) (by
      rw [hu]
      refine ⟨by rw [List.take_length]; exact d1, by rw [List.take_length, d2]; symm; rw [decide_eq_false_iff_not]; omega, by rw [List.take_length, d2]; rfl⟩)
    rw [this]
    rfl

theorem read_nan_text : readR [78, 97, 78] = (0, none) := by decide

end Go.Proofs.YthdgehdbanhliaaDoor
