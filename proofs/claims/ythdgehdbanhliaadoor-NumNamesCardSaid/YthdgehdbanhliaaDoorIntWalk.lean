/-
  The walks of num.Int and num.Bits.
-/
import Derived.Test.YthdgehdbanhliaaDoorMayWalk
namespace Go.Proofs.YthdgehdbanhliaaDoor
open Go.RowKit

theorem wv_bounds (a : Nat) : -9007199254740991 ≤ Fl.wv a ∧ Fl.wv a ≤ 9007199254740991 := by
  by_cases h : Fl.isW a = true
  · have := (Fl.isW_iff a).1 h
    have e : Fl.wv a = Fl.toW a := by unfold Fl.wv; rw [if_pos h]
    rw [e]; exact this.2
  · unfold Fl.wv; rw [if_neg h]; decide

theorem ret_int {k : IntKind} {a b : Int} (h : a = b) : Ending.returned (.int k a) = .returned (.int k b) := by rw [h]

theorem tmod32 (n : Int) : n.tmod 4294967296 = if 0 ≤ n then n % 4294967296 else -(-n % 4294967296) := by
  split
  · exact Int.tmod_eq_emod_of_nonneg ‹_›
  · rename_i h
    have : n = -(-n) := by omega
    rw [this, Int.neg_tmod, Int.tmod_eq_emod_of_nonneg (by omega)]
    simp

theorem wv_0 {a : Nat} (h : Fl.isW a = false) : Fl.wv a = 0 := by unfold Fl.wv; rw [h]; rfl

theorem wrap32_0 : wrap32 0 = 0 := by unfold wrap32; omega

/-- The 32 bits of a word. -/
def i32 (a : Nat) : Int := wrap32 (Fl.wv a)

theorem int_any (a : Nat) (w : World) :
    Calls Tryd.prog 15 #[.float .f64 a] w fun e w' => e = .returned (.int .i32 (i32 a)) ∧ w = w' := by
  by_cases hn : Fl.isNaN a = true
  · have hv : i32 a = 0 := by unfold i32; rw [wv_0 (Fl.not_isW_inf (nan_fin hn)), wrap32_0]
    have ha := ordN hn
    rw [hv]
    clear hn hv
    go_enter Tryd.func15, Tryd.ntmps15
    go_wp2_with fail
    go_ret
    exact ⟨rfl, rfl⟩
  · rw [Bool.not_eq_true] at hn
    have ha := ordE hn
    by_cases hi : Fl.isW a = true
    · obtain ⟨h1, h2, h3⟩ := (Fl.isW_iff a).1 hi
      have hw := Fl.wv_eq hi
      have ht := Fl.tr_of_is h1
      have hm : Fl.may a = true := by simp [Fl.may, hi]
      have hc := fun W : World => run_convert_float_int (P := Tryd.prog) W 22 2 .f64 .i64 a (Fl.wv a) (by rw [Tryd.underlying22]; rfl) Tryd.underlying2 (by rw [hw]; exact Fl.toI64 h1.1 (by rw [ht]; exact h2) (by rw [ht]; exact h3))
      have Hm := hid hm
      have hb := wv_bounds a
      clear hm hi hw ht h1 h2 h3 hn
      unfold i32
      generalize hg : Fl.wv a = n at *
      clear hg
      obtain ⟨b1, b2⟩ := hb
      go_enter Tryd.func15, Tryd.ntmps15
      go_wp2_with fail
      refine (may_any a _).mono ?_; rintro e w' ⟨rfl, rfl⟩
      rw [Hm.out]
      go_wp2_with fail
      go_ret
      exact ⟨rfl, rfl⟩
    · rw [Bool.not_eq_true] at hi
      have hm : Fl.may a = false := by simp [Fl.may, hn, hi]
      have hv : i32 a = 0 := by unfold i32; rw [wv_0 hi, wrap32_0]
      have Hm := hid hm
      rw [hv]
      clear hm hi hv hn
      go_enter Tryd.func15, Tryd.ntmps15
      go_wp2_with fail
      refine (may_any a _).mono ?_; rintro e w' ⟨rfl, rfl⟩
      rw [Hm.out]
      go_wp2_with fail
      go_ret
      exact ⟨rfl, rfl⟩

theorem and31 (b : Int) : bits .and .u32 (b % 4294967296) 31 = b % 32 := by
  rw [u32_and _ _ (by omega) (by omega) (by omega) (by omega)]
  have e : ((b % 4294967296).toNat &&& (31 : Int).toNat) = (b % 4294967296).toNat % 32 := Nat.and_two_pow_sub_one_eq_mod _ 5
  rw [e]; omega

theorem mod32 (b : Int) : b % 4294967296 % 32 = b % 32 := by omega

theorem shl32 (a p : Int) : wrap32 (a % 4294967296 * p % 4294967296) = wrap32 (a * p) := by
  have h : a % 4294967296 * p % 4294967296 = a * p % 4294967296 := by
    rw [Int.mul_emod, Int.emod_emod_of_dvd _ (Int.dvd_refl _), ← Int.mul_emod]
  rw [h]
  unfold wrap32
  generalize a * p = z
  omega

/-- What an operation's byte does with the bits of two numbers. -/
def opV (o : Int) : Option (Int → Int → Int) :=
  if o = 38 then some fun a b => bits .and .i32 a b
  else if o = 124 then some fun a b => bits .or .i32 a b
  else if o = 94 then some fun a b => bits .xor .i32 a b
  else if o = 60 then some fun a b => wrap32 (a * 2 ^ (b % 32).toNat)
  else if o = 62 then some fun a b => a / 2 ^ (b % 32).toNat
  else if o = 117 then some fun a b => a % 4294967296 / 2 ^ (b % 32).toNat
  else none

theorem opV_some {o : Int} {v : Int → Int → Int} (h : opV o = some v) : (o = 38 ∧ v = fun a b => bits .and .i32 a b) ∨ (o = 124 ∧ v = fun a b => bits .or .i32 a b) ∨ (o = 94 ∧ v = fun a b => bits .xor .i32 a b) ∨ (o = 60 ∧ v = fun a b => wrap32 (a * 2 ^ (b % 32).toNat)) ∨ (o = 62 ∧ v = fun a b => a / 2 ^ (b % 32).toNat) ∨ (o = 117 ∧ v = fun a b => a % 4294967296 / 2 ^ (b % 32).toNat) := by
  unfold opV at h
  by_cases h1 : o = 38
  · rw [if_pos h1] at h; cases h; exact Or.inl ⟨h1, rfl⟩
  rw [if_neg h1] at h
  by_cases h2 : o = 124
  · rw [if_pos h2] at h; cases h; exact Or.inr (Or.inl ⟨h2, rfl⟩)
  rw [if_neg h2] at h
  by_cases h3 : o = 94
  · rw [if_pos h3] at h; cases h; exact Or.inr (Or.inr (Or.inl ⟨h3, rfl⟩))
  rw [if_neg h3] at h
  by_cases h4 : o = 60
  · rw [if_pos h4] at h; cases h; exact Or.inr (Or.inr (Or.inr (Or.inl ⟨h4, rfl⟩)))
  rw [if_neg h4] at h
  by_cases h5 : o = 62
  · rw [if_pos h5] at h; cases h; exact Or.inr (Or.inr (Or.inr (Or.inr (Or.inl ⟨h5, rfl⟩))))
  rw [if_neg h5] at h
  by_cases h6 : o = 117
  · rw [if_pos h6] at h; cases h; exact Or.inr (Or.inr (Or.inr (Or.inr (Or.inr ⟨h6, rfl⟩))))
  rw [if_neg h6] at h; cases h

theorem opV_none {o : Int} (h : opV o = none) : (o == 38) = false ∧ (o == 124) = false ∧ (o == 94) = false ∧ (o == 60) = false ∧ (o == 62) = false ∧ (o == 117) = false := by
  simp only [beq_eq_false_iff_ne]
  refine ⟨?_, ?_, ?_, ?_, ?_, ?_⟩
  all_goals (intro e; subst e; simp [opV] at h)

/-- What Bits tells: the word, and the error. -/
def bitsR (o : Int) (x y : Nat) : Nat × Int :=
  match Fl.may x, Fl.may y, opV o with
  | true, true, some v => (floatOfInt .f64 (v (i32 x) (i32 y)), 0)
  | _, _, _ => (0, 2)

theorem bits_op (o : Int) (v : Int → Int → Int) (ho : (o = 38 ∧ v = fun a b => bits .and .i32 a b) ∨ (o = 124 ∧ v = fun a b => bits .or .i32 a b) ∨ (o = 94 ∧ v = fun a b => bits .xor .i32 a b) ∨ (o = 60 ∧ v = fun a b => wrap32 (a * 2 ^ (b % 32).toNat)) ∨ (o = 62 ∧ v = fun a b => a / 2 ^ (b % 32).toNat) ∨ (o = 117 ∧ v = fun a b => a % 4294967296 / 2 ^ (b % 32).toNat)) (x y : Nat) (w : World) (hx : Fl.may x = true) (hy : Fl.may y = true) :
    Calls Tryd.prog 14 #[.int .u8 o, .float .f64 x, .float .f64 y] w fun e w' => e = .returned (.tuple #[.float .f64 (floatOfInt .f64 (v (i32 x) (i32 y))), .int .i64 0]) ∧ w = w' := by
  have Hx := hid hx
  have Hy := hid hy
  clear hx hy
  generalize ha : i32 x = a
  generalize hb : i32 y = b
  have Ha := hid ha
  have Hb := hid hb
  clear ha hb
  have e1 := and31 b
  have e2 := mod32 b
  have e3 := shl32 a (2 ^ (b % 32).toNat)
  rcases ho with ⟨rfl, rfl⟩ | ⟨rfl, rfl⟩ | ⟨rfl, rfl⟩ | ⟨rfl, rfl⟩ | ⟨rfl, rfl⟩ | ⟨rfl, rfl⟩
  all_goals
    go_enter Tryd.func14, Tryd.ntmps14
    go_wp2_with (first | (go_at_call 12; refine (may_any _ _).mono ?_; rintro e w' ⟨rfl, rfl⟩; first | rw [Hx.out] | rw [Hy.out]) | (go_at_call 15; refine (int_any _ _).mono ?_; rintro e w' ⟨rfl, rfl⟩; first | rw [Ha.out] | rw [Hb.out]))
    go_ret2
    exact ⟨rfl, rfl⟩

theorem bits_none (o : Int) (ho : opV o = none) (x y : Nat) (w : World) (hx : Fl.may x = true) (hy : Fl.may y = true) :
    Calls Tryd.prog 14 #[.int .u8 o, .float .f64 x, .float .f64 y] w fun e w' => e = .returned (.tuple #[.float .f64 0, .int .i64 2]) ∧ w = w' := by
  obtain ⟨o1, o2, o3, o4, o5, o6⟩ := opV_none ho
  have Hx := hid hx
  have Hy := hid hy
  clear hx hy ho
  go_enter Tryd.func14, Tryd.ntmps14
  go_wp2_with (first | (go_at_call 12; refine (may_any _ _).mono ?_; rintro e w' ⟨rfl, rfl⟩; first | rw [Hx.out] | rw [Hy.out]) | (go_at_call 15; refine (int_any _ _).mono ?_; rintro e w' ⟨rfl, rfl⟩))
  go_ret2
  exact ⟨rfl, rfl⟩

theorem bits_not (o : Int) (x y : Nat) (w : World) (h : Fl.may x = false ∨ (Fl.may x = true ∧ Fl.may y = false)) :
    Calls Tryd.prog 14 #[.int .u8 o, .float .f64 x, .float .f64 y] w fun e w' => e = .returned (.tuple #[.float .f64 0, .int .i64 2]) ∧ w = w' := by
  rcases h with hx | ⟨hx, hy⟩
  · have Hx := hid hx
    clear hx
    go_enter Tryd.func14, Tryd.ntmps14
    go_wp2_with (go_at_call 12; refine (may_any _ _).mono ?_; rintro e w' ⟨rfl, rfl⟩; rw [Hx.out])
    go_ret2
    exact ⟨rfl, rfl⟩
  · have Hx := hid hx
    have Hy := hid hy
    clear hx hy
    go_enter Tryd.func14, Tryd.ntmps14
    go_wp2_with (go_at_call 12; refine (may_any _ _).mono ?_; rintro e w' ⟨rfl, rfl⟩; first | rw [Hx.out] | rw [Hy.out])
    go_ret2
    exact ⟨rfl, rfl⟩

theorem bits_any (o : Int) (x y : Nat) (w : World) :
    Calls Tryd.prog 14 #[.int .u8 o, .float .f64 x, .float .f64 y] w fun e w' => e = .returned (.tuple #[.float .f64 (bitsR o x y).1, .int .i64 (bitsR o x y).2]) ∧ w = w' := by
  unfold bitsR
  cases hx : Fl.may x
  · exact bits_not o x y w (Or.inl hx)
  · cases hy : Fl.may y
    · exact bits_not o x y w (Or.inr ⟨hx, hy⟩)
    · cases hv : opV o with
      | none => exact bits_none o hv x y w hx hy
      | some v => exact bits_op o v (opV_some hv) x y w hx hy

end Go.Proofs.YthdgehdbanhliaaDoor
