/-
  The walks of post.Method, of the reference's own, and of the law on names.
-/
import Derived.Test.YtlpldhcoplbopaaNameWalk
namespace Go.Proofs.Ytlpldhcoplbopaa
open Go.RowKit

theorem toList_ne {a b : ByteArray} (h : ¬ a = b) : (a.toList == b.toList) = false := by
  rw [beq_eq_false_iff_ne, ByteArray.toList_eq, ByteArray.toList_eq]
  exact fun e => h (WideShapes.bytes_inj e)

/-- 'k' is the first trap of the name 's', or there is none. -/
def Meth (s : ByteArray) (k : Int) (b : Bool) : Prop :=
  (b = true ∧ 1 ≤ k ∧ k ≤ 13 ∧ nameOf k = s ∧ ∀ j : Nat, 1 ≤ j → (j : Int) < k → nameOf j ≠ s) ∨ (b = false ∧ k = 0 ∧ ∀ j : Nat, 1 ≤ j → j ≤ 13 → nameOf j ≠ s)

theorem meth_one {s : ByteArray} {k k' : Int} {b b' : Bool} (h : Meth s k b) (h' : Meth s k' b') : k = k' ∧ b = b' := by
  rcases h with ⟨rfl, h1, h2, h3, h4⟩ | ⟨rfl, rfl, h4⟩
  · rcases h' with ⟨rfl, g1, g2, g3, g4⟩ | ⟨rfl, rfl, g4⟩
    · refine ⟨?_, rfl⟩
      rcases Int.lt_trichotomy k k' with h | h | h
      · have := g4 k.toNat (by omega) (by omega)
        rw [show (k.toNat : Int) = k by omega] at this
        exact absurd h3 this
      · exact h
      · have := h4 k'.toNat (by omega) (by omega)
        rw [show (k'.toNat : Int) = k' by omega] at this
        exact absurd g3 this
    · have := g4 k.toNat (by omega) (by omega)
      rw [show (k.toNat : Int) = k by omega] at this
      exact absurd h3 this
  · rcases h' with ⟨rfl, g1, g2, g3, g4⟩ | ⟨rfl, rfl, g4⟩
    · have := h4 k'.toNat (by omega) (by omega)
      rw [show (k'.toNat : Int) = k' by omega] at this
      exact absurd g3 this
    · exact ⟨rfl, rfl⟩

def MethQ (s : ByteArray) (w : World) (e : Ending) (w' : World) : Prop := ∃ (k : Int) (b : Bool), e = .returned (.tuple #[.int .u8 k, .bool b]) ∧ Meth s k b ∧ Below w.heap.size w w'

theorem method_any (s : ByteArray) (w : World) : Calls Try.prog 7 #[.string s] w (MethQ s w) := by
  go_enter Try.func7, Try.ntmps7
  go_wp2
  go_loop [4] (fun m => ∃ k : Nat, 1 ≤ k ∧ k ≤ 14 ∧ m = .int .u8 k ∧ ∀ j : Nat, 1 ≤ j → j < k → nameOf j ≠ s) (fun m => 14 - (intOf m).toNat)
  case atStart => exact ⟨1, by omega, by omega, rfl, fun j h1 h2 => by omega⟩
  case round =>
    obtain ⟨k, h1, h2, rfl, hj⟩ := hrel
    have Hj := hidM hj
    clear hj
    by_cases hk : k ≤ 13
    · by_cases he : nameOf k = s
      · go_wp2_with (go_at_call 9; refine (name_any k (by omega) _).mono ?_; rintro e w' ⟨rfl, rfl⟩; rw [he])
        go_ret2
        exact ⟨k, true, rfl, Or.inl ⟨rfl, by omega, by omega, he, fun j a b => Hj.out j a (by omega)⟩, Below.refl _ _⟩
      · have hb := toList_ne he
        have He := hidM he
        clear he
        go_wp2_with (go_at_call 9; refine (name_any k (by omega) _).mono ?_; rintro e w' ⟨rfl, rfl⟩)
        refine ⟨⟨k + 1, by omega, by omega, rfl, fun j a b => ?_⟩, by simp [intOf]; omega⟩
        by_cases hjk : j = k
        · subst hjk; exact He.out
        · exact Hj.out j a (by omega)
    · go_wp2_with fail
      go_ret2
      exact ⟨0, false, rfl, Or.inr ⟨rfl, rfl, fun j a b => Hj.out j a (by omega)⟩, Below.refl _ _⟩

theorem refMethod_any (s : ByteArray) (w : World) : Calls Try.prog 8 #[.string s] w (MethQ s w) := by
  go_enter Try.func8, Try.ntmps8
  go_wp2
  go_loopw [4] (fun m wr => ∃ k : Nat, 1 ≤ k ∧ k ≤ 14 ∧ m = .int .u8 k ∧ Below w.heap.size w wr ∧ ∀ j : Nat, 1 ≤ j → j < k → nameOf j ≠ s) (fun m _ => 14 - (intOf m).toNat)
  case atStart => exact ⟨1, by omega, by omega, rfl, Below.refl _ _, fun j h1 h2 => by omega⟩
  case round =>
    obtain ⟨k, h1, h2, rfl, hbel, hj⟩ := hrel
    have Hj := hidM hj
    have Hb := hidM hbel
    clear hj hbel
    by_cases hk : k ≤ 13
    · by_cases he : nameOf k = s
      · go_wp2_with (go_at_call 10; refine (refName_any k (by omega) _).mono ?_; rintro e w' ⟨rfl, hb1⟩; rw [he]; have Hb1 := hidM hb1; clear hb1)
        go_ret2
        exact ⟨k, true, rfl, Or.inl ⟨rfl, by omega, by omega, he, fun j a b => Hj.out j a (by omega)⟩, Hb.out.trans (Hb1.out.mono Hb.out.size)⟩
      · have hb := toList_ne he
        have He := hidM he
        clear he
        go_wp2_with (go_at_call 10; refine (refName_any k (by omega) _).mono ?_; rintro e w' ⟨rfl, hb1⟩; have Hb1 := hidM hb1; clear hb1)
        refine ⟨⟨k + 1, by omega, by omega, rfl, Hb.out.trans (Hb1.out.mono Hb.out.size), fun j a b => ?_⟩, by simp [intOf]; omega⟩
        by_cases hjk : j = k
        · subst hjk; exact He.out
        · exact Hj.out j a (by omega)
    · go_wp2_with fail
      go_ret2
      exact ⟨0, false, rfl, Or.inr ⟨rfl, rfl, fun j a b => Hj.out j a (by omega)⟩, Hb.out⟩

theorem law_called (m : Int) (h0 : (Lit.int .u8 m).wf = true) (s : ByteArray) (w : World) :
    Calls Try.prog 3 #[.int .u8 m, .string s] w fun e w' => e = .returned (.bool true) ∧ Below w.heap.size w w' := by
  have hm : 0 ≤ m := by
    simp [Lit.wf, IntKind.min, IntKind.max, IntKind.signed, IntKind.bits] at h0; omega
  clear h0
  go_enter Try.func3, Try.ntmps3
  go_wp2_with fail
  refine (method_any s _).mono ?_; rintro e w1 ⟨k, b, rfl, q1, hb1⟩
  go_wp2_with fail
  refine (refMethod_any s _).mono ?_; rintro e w2 ⟨k', b', rfl, q2, hb2⟩
  obtain ⟨rfl, rfl⟩ := meth_one q1 q2
  have Q := hidM q1
  clear q1 q2
  go_wp2_with fail
  refine (name_any m hm _).mono ?_; rintro e w' ⟨rfl, rfl⟩
  go_wp2_with fail
  refine (refName_any m hm _).mono ?_; rintro e w3 ⟨rfl, hb3⟩
  go_wp2_with fail
  go_ret
  exact ⟨rfl, grow (grow hb1 hb2) hb3⟩

end Go.Proofs.Ytlpldhcoplbopaa
