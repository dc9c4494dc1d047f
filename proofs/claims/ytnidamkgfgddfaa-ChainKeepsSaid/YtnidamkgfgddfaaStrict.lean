/-
  Sameness: the program's Strict and Same, the reference's.
-/
import Derived.Test.YtnidamkgfgddfaaValMay
namespace Go.Proofs.Ytnidamkgfgddfaa
open Go.RowKit

/-- === -/
def strictV (k1 : Int) (x1 : Nat) (s1 : ByteArray) (r1 : Int) (k2 : Int) (x2 : Nat) (s2 : ByteArray) (r2 : Int) : Bool :=
  if isObj k1 = true ∧ isObj k2 = true then r1 == r2
  else if k1 ≠ k2 then false
  else if k1 = 0 ∨ k1 = 1 then true
  else if k1 = 2 ∨ k1 = 3 then FloatKind.f64.format.order x1 x2 == some .eq
  else if k1 = 4 then s1.toList == s2.toList
  else if k1 = 5 then r1 == r2
  else false
/-- SameValue. -/
def sameV (k1 : Int) (x1 : Nat) (s1 : ByteArray) (r1 : Int) (k2 : Int) (x2 : Nat) (s2 : ByteArray) (r2 : Int) : Bool :=
  if k1 = 3 ∧ k2 = 3 ∧ Fl.isNaN x1 = true then Fl.isNaN x2 else strictV k1 x1 s1 r1 k2 x2 s2 r2

theorem strict_obj {k1 k2 : Int} (x1 : Nat) (s1 : ByteArray) (r1 : Int) (x2 : Nat) (s2 : ByteArray) (r2 : Int) (h1 : isObj k1 = true) (h2 : isObj k2 = true) : strictV k1 x1 s1 r1 k2 x2 s2 r2 = (r1 == r2) := by
  unfold strictV; rw [if_pos ⟨h1, h2⟩]
theorem strict_ne {k1 k2 : Int} (x1 : Nat) (s1 : ByteArray) (r1 : Int) (x2 : Nat) (s2 : ByteArray) (r2 : Int) (h : ¬ (isObj k1 = true ∧ isObj k2 = true)) (hk : k1 ≠ k2) : strictV k1 x1 s1 r1 k2 x2 s2 r2 = false := by
  unfold strictV; rw [if_neg h, if_pos hk]
theorem strict_eq {k : Int} (x1 : Nat) (s1 : ByteArray) (r1 : Int) (x2 : Nat) (s2 : ByteArray) (r2 : Int) (h : isObj k = false) : strictV k x1 s1 r1 k x2 s2 r2 = if k = 0 ∨ k = 1 then true else if k = 2 ∨ k = 3 then FloatKind.f64.format.order x1 x2 == some .eq else if k = 4 then s1.toList == s2.toList else if k = 5 then r1 == r2 else false := by
  unfold strictV; rw [if_neg (by simp [h]), if_neg (by simp)]
theorem obj_kinds {k : Int} (h0 : 0 ≤ k) (h : isObj k = false) : k = 0 ∨ k = 1 ∨ k = 2 ∨ k = 3 ∨ k = 4 ∨ k = 5 ∨ 8 < k := by
  unfold isObj at h
  rw [Bool.and_eq_false_iff, decide_eq_false_iff_not, decide_eq_false_iff_not] at h
  omega

/-- Two boxes. -/
theorem below2 (w : World) (a b : Obj) : Below w.heap.size w ((w.alloc a).alloc b) := ((Below.refl _ _).alloc (Nat.le_refl _) _).alloc (by simp) _

/-- What lies behind a callee that only made memory. -/
theorem cells_of {W w1 : World} (hb : Below W.heap.size W w1) : (∀ b o, b < W.heap.size → w1.cell? ⟨b, o, none⟩ = W.cell? ⟨b, o, none⟩) ∧ (∀ b o, b < W.heap.size → w1.frozen? ⟨b, o, none⟩ = W.frozen? ⟨b, o, none⟩) := bcell hb

end Go.Proofs.Ytnidamkgfgddfaa
