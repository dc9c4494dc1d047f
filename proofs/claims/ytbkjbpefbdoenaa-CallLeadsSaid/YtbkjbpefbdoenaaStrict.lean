/-
  Sameness: the program's Strict and Same, the reference's.
-/
import Derived.Test.YtbkjbpefbdoenaaValMay
namespace Go.Proofs.Ytbkjbpefbdoenaa
open Go.RowKit

/-- === -/
def strictV (k1 : Int) (x1 : Nat) (s1 : ByteArray) (r1 : Int) (k2 : Int) (x2 : Nat) (s2 : ByteArray) (r2 : Int) : Bool :=
  if isObj k1 = true ∧ isObj k2 = true then r1 == r2
  else if k1 ≠ k2 then false
  else if k1 = 0 ∨ k1 = 1 then true
  else if k1 = 2 ∨ k1 = 3 then FloatKind.f64.format.order x1 x2 == some .eq
  else if k1 = 4 then s1.toList == s2.toList
  else if k1 = 5 then r1 == r2
  else false
/-- SameValue. -/
def sameV (k1 : Int) (x1 : Nat) (s1 : ByteArray) (r1 : Int) (k2 : Int) (x2 : Nat) (s2 : ByteArray) (r2 : Int) : Bool :=
  if k1 = 3 ∧ k2 = 3 ∧ Fl.isNaN x1 = true then Fl.isNaN x2 else strictV k1 x1 s1 r1 k2 x2 s2 r2

theorem strict_obj {k1 k2 : Int} (x1 : Nat) (s1 : ByteArray) (r1 : Int) (x2 : Nat) (s2 : ByteArray) (r2 : Int) (h1 : isObj k1 = true) (h2 : isObj k2 = true) : strictV k1 x1 s1 r1 k2 x2 s2 r2 = (r1 == r2) := by
  unfold strictV; rw [if_pos ⟨h1, h2⟩]
theorem strict_ne {k1 k2 : Int} (x1 : Nat) (s1 : ByteArray) (r1 : Int) (x2 : Nat) (s2 : ByteArray) (r2 : Int) (h : ¬ (isObj k1 = true ∧ isObj k2 = true)) (hk : k1 ≠ k2) : strictV k1 x1 s1 r1 k2 x2 s2 r2 = false := by
  unfold strictV; rw [if_neg h, if_pos hk]
theorem strict_eq {k : Int} (x1 : Nat) (s1 : ByteArray) (r1 : Int) (x2 : Nat) (s2 : ByteArray) (r2 : Int) (h : isObj k = false) : strictV k x1 s1 r1 k x2 s2 r2 = if k = 0 ∨ k = 1 then true else if k = 2 ∨ k = 3 then FloatKind.f64.format.order x1 x2 == some .eq else if k = 4 then s1.toList == s2.toList else if k = 5 then r1 == r2 else false := by
  unfold strictV; rw [if_neg (by simp [h]), if_neg (by simp)]
theorem obj_kinds {k : Int} (h0 : 0 ≤ k) (h : isObj k = false) : k = 0 ∨ k = 1 ∨ k = 2 ∨ k = 3 ∨ k = 4 ∨ k = 5 ∨ 8 < k := by
  unfold isObj at h
  rw [Bool.and_eq_false_iff, decide_eq_false_iff_not, decide_eq_false_iff_not] at h
  omega

set_option maxHeartbeats 4000000 in
set_option maxRecDepth 100000 in
theorem strict_any (k1 : Int) (x1 : Nat) (s1 : ByteArray) (r1 : Int) (k2 : Int) (x2 : Nat) (s2 : ByteArray) (r2 : Int) (h0 : 0 ≤ k1) (w : World) :
    Calls Try.prog 30 #[val k1 x1 s1 r1, val k2 x2 s2 r2] w fun e w' => e = .returned (.bool (strictV k1 x1 s1 r1 k2 x2 s2 r2)) ∧ Below w.heap.size w w' := by
  by_cases ho : isObj k1 = true ∧ isObj k2 = true
  · rw [strict_obj x1 s1 r1 x2 s2 r2 ho.1 ho.2]
    obtain ⟨h1, h2⟩ := ho
    go_enter Try.func30, Try.ntmps30
    go_wp2_with (go_at_call 10; refine (isObj_any _ _ _ _ _).mono ?_; rintro e w' ⟨rfl, rfl⟩)
    go_ret
    exact ⟨rfl, (by repeat (first | exact Below.refl _ _ | refine Below.alloc ?_ (by simp; try omega) _))⟩
  by_cases hk : k1 = k2
  · subst hk
    have h1 : isObj k1 = false := by simpa using ho
    rw [strict_eq x1 s1 r1 x2 s2 r2 h1]
    clear ho
    rcases obj_kinds h0 h1 with rfl | rfl | rfl | rfl | rfl | rfl | h8
    · rw [if_pos (by simp)]
      go_enter Try.func30, Try.ntmps30
      go_wp2_with (go_at_call 10; refine (isObj_any _ _ _ _ _).mono ?_; rintro e w' ⟨rfl, rfl⟩)
      go_ret
      exact ⟨rfl, (by repeat (first | exact Below.refl _ _ | refine Below.alloc ?_ (by simp; try omega) _))⟩
    · rw [if_pos (by simp)]
      go_enter Try.func30, Try.ntmps30
      go_wp2_with (go_at_call 10; refine (isObj_any _ _ _ _ _).mono ?_; rintro e w' ⟨rfl, rfl⟩)
      go_ret
      exact ⟨rfl, (by repeat (first | exact Below.refl _ _ | refine Below.alloc ?_ (by simp; try omega) _))⟩
    · rw [if_neg (by simp), if_pos (by simp)]
      go_enter Try.func30, Try.ntmps30
      go_wp2_with (go_at_call 10; refine (isObj_any _ _ _ _ _).mono ?_; rintro e w' ⟨rfl, rfl⟩)
      go_ret
      exact ⟨rfl, (by repeat (first | exact Below.refl _ _ | refine Below.alloc ?_ (by simp; try omega) _))⟩
    · rw [if_neg (by simp), if_pos (by simp)]
      go_enter Try.func30, Try.ntmps30
      go_wp2_with (go_at_call 10; refine (isObj_any _ _ _ _ _).mono ?_; rintro e w' ⟨rfl, rfl⟩)
      go_ret
      exact ⟨rfl, (by repeat (first | exact Below.refl _ _ | refine Below.alloc ?_ (by simp; try omega) _))⟩
    · rw [if_neg (by simp), if_neg (by simp), if_pos rfl]
      go_enter Try.func30, Try.ntmps30
      go_wp2_with (go_at_call 10; refine (isObj_any _ _ _ _ _).mono ?_; rintro e w' ⟨rfl, rfl⟩)
      go_ret
      exact ⟨rfl, (by repeat (first | exact Below.refl _ _ | refine Below.alloc ?_ (by simp; try omega) _))⟩
    · rw [if_neg (by simp), if_neg (by simp), if_neg (by simp), if_pos rfl]
      go_enter Try.func30, Try.ntmps30
      go_wp2_with (go_at_call 10; refine (isObj_any _ _ _ _ _).mono ?_; rintro e w' ⟨rfl, rfl⟩)
      go_ret
      exact ⟨rfl, (by repeat (first | exact Below.refl _ _ | refine Below.alloc ?_ (by simp; try omega) _))⟩
    · rw [if_neg (by omega), if_neg (by omega), if_neg (by omega), if_neg (by omega)]
      have c0 : (k1 == 0) = false := by rw [beq_eq_false_iff_ne]; omega
      have c1 : (k1 == 1) = false := by rw [beq_eq_false_iff_ne]; omega
      have c2 : (k1 == 2) = false := by rw [beq_eq_false_iff_ne]; omega
      have c3 : (k1 == 3) = false := by rw [beq_eq_false_iff_ne]; omega
      have c4 : (k1 == 4) = false := by rw [beq_eq_false_iff_ne]; omega
      have c5 : (k1 == 5) = false := by rw [beq_eq_false_iff_ne]; omega
      go_enter Try.func30, Try.ntmps30
      go_wp2_with (go_at_call 10; refine (isObj_any _ _ _ _ _).mono ?_; rintro e w' ⟨rfl, rfl⟩)
      go_ret
      exact ⟨rfl, (by repeat (first | exact Below.refl _ _ | refine Below.alloc ?_ (by simp; try omega) _))⟩
  · rw [strict_ne x1 s1 r1 x2 s2 r2 ho hk]
    have hk' : (k1 == k2) = false := by rw [beq_eq_false_iff_ne]; exact hk
    have hk2 : (k1 != k2) = true := by rw [bne_iff_ne]; exact hk
    have h3 : isObj k1 = false ∨ (isObj k1 = true ∧ isObj k2 = false) := by
      cases hh : isObj k1
      · exact Or.inl rfl
      · refine Or.inr ⟨rfl, ?_⟩
        cases hh2 : isObj k2
        · rfl
        · exact absurd ⟨hh, hh2⟩ ho
    clear ho hk
    rcases h3 with h1 | ⟨h1, h2⟩
    all_goals
      go_enter Try.func30, Try.ntmps30
      go_wp2_with (go_at_call 10; refine (isObj_any _ _ _ _ _).mono ?_; rintro e w' ⟨rfl, rfl⟩)
      go_ret
      exact ⟨rfl, (by repeat (first | exact Below.refl _ _ | refine Below.alloc ?_ (by simp; try omega) _))⟩

/-- Two boxes. -/
theorem below2 (w : World) (a b : Obj) : Below w.heap.size w ((w.alloc a).alloc b) := ((Below.refl _ _).alloc (Nat.le_refl _) _).alloc (by simp) _

/-- What lies behind a callee that only made memory. -/
theorem cells_of {W w1 : World} (hb : Below W.heap.size W w1) : (∀ b o, b < W.heap.size → w1.cell? ⟨b, o, none⟩ = W.cell? ⟨b, o, none⟩) ∧ (∀ b o, b < W.heap.size → w1.frozen? ⟨b, o, none⟩ = W.frozen? ⟨b, o, none⟩) := bcell hb

set_option maxHeartbeats 4000000 in
set_option maxRecDepth 100000 in
theorem same_any (k1 : Int) (x1 : Nat) (s1 : ByteArray) (r1 : Int) (k2 : Int) (x2 : Nat) (s2 : ByteArray) (r2 : Int) (h0 : 0 ≤ k1) (w : World) :
    Calls Try.prog 11 #[val k1 x1 s1 r1, val k2 x2 s2 r2] w fun e w' => e = .returned (.bool (sameV k1 x1 s1 r1 k2 x2 s2 r2)) ∧ Below w.heap.size w w' := by
  by_cases hN : k1 = 3 ∧ k2 = 3 ∧ Fl.isNaN x1 = true
  · have e : sameV k1 x1 s1 r1 k2 x2 s2 r2 = Fl.isNaN x2 := by unfold sameV; rw [if_pos hN]
    rw [e]
    obtain ⟨rfl, rfl, hn⟩ := hN
    have ha := ordN hn x1
    cases hm : Fl.isNaN x2
    · have hb := ordE hm
      clear e hn hm
      go_enter Try.func11, Try.ntmps11
      go_wp2_with fail
      go_ret
      exact ⟨rfl, (by repeat (first | exact Below.refl _ _ | refine Below.alloc ?_ (by simp; try omega) _))⟩
    · have hb := ordN hm x2
      clear e hn hm
      go_enter Try.func11, Try.ntmps11
      go_wp2_with fail
      go_ret
      exact ⟨rfl, (by repeat (first | exact Below.refl _ _ | refine Below.alloc ?_ (by simp; try omega) _))⟩
  have e : sameV k1 x1 s1 r1 k2 x2 s2 r2 = strictV k1 x1 s1 r1 k2 x2 s2 r2 := by unfold sameV; rw [if_neg hN]
  rw [e]
  clear e
  have S := hid (fun W => strict_any k1 x1 s1 r1 k2 x2 s2 r2 h0 W)
  generalize strictV k1 x1 s1 r1 k2 x2 s2 r2 = q at *
  have h3 : (k1 == 3) = false ∨ ((k1 == 3) = true ∧ (k2 == 3) = false) ∨ (((k1 == 3) = true ∧ (k2 == 3) = true) ∧ Fl.isNaN x1 = false) := by
    by_cases h1 : k1 = 3
    · by_cases h2 : k2 = 3
      · right; right
        refine ⟨⟨by simp [h1], by simp [h2]⟩, ?_⟩
        rw [← Bool.not_eq_true]; intro h; exact hN ⟨h1, h2, h⟩
      · right; left; exact ⟨by simp [h1], by simp [h2]⟩
    · left; simp [h1]
  clear hN
  rcases h3 with h1 | ⟨h1, h2⟩ | ⟨⟨h1, h2⟩, hn⟩
  · go_enter Try.func11, Try.ntmps11
    go_wp2_with (go_at_call 30; refine (S.out _).mono ?_; rintro e w' ⟨rfl, hb⟩; have Hb := hid ((below2 _ _ _).trans (hb.mono (by simp; omega))); clear hb)
    go_ret
    exact ⟨rfl, Hb.out⟩
  · go_enter Try.func11, Try.ntmps11
    go_wp2_with (go_at_call 30; refine (S.out _).mono ?_; rintro e w' ⟨rfl, hb⟩; have Hb := hid ((below2 _ _ _).trans (hb.mono (by simp; omega))); clear hb)
    go_ret
    exact ⟨rfl, Hb.out⟩
  · have ha := ordE hn
    clear hn
    go_enter Try.func11, Try.ntmps11
    go_wp2_with (go_at_call 30; refine (S.out _).mono ?_; rintro e w' ⟨rfl, hb⟩; have Hb := hid ((below2 _ _ _).trans (hb.mono (by simp; omega))); clear hb)
    go_ret
    exact ⟨rfl, Hb.out⟩

end Go.Proofs.Ytbkjbpefbdoenaa
