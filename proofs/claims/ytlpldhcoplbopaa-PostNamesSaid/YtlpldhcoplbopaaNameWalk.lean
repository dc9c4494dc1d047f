/-
  The walks of post.Name and Method and of the reference's own: a trap's name by its number, the first number of a name; and of the law.
-/
import Derived.Test.YtlpldhcoplbopaaRows
import Derived.Test.YtlpldhcoplbopaaLaw
import Derived.WalkKit
import Derived.WalkSpells
import Derived.WalkLawsBesides
import Derived.Deep.QuietTactic
import Derived.BigQuiet
import Derived.Deep.LoopGhost
namespace Go.Proofs.Ytlpldhcoplbopaa
open Go.RowKit

theorem hidM {p : Prop} (h : p) : Hid p := h

/-- The traps' names, by their numbers. -/
def names : List ByteArray := [⟨#[]⟩, ⟨#[103, 101, 116, 80, 114, 111, 116, 111, 116, 121, 112, 101, 79, 102]⟩, ⟨#[115, 101, 116, 80, 114, 111, 116, 111, 116, 121, 112, 101, 79, 102]⟩, ⟨#[105, 115, 69, 120, 116, 101, 110, 115, 105, 98, 108, 101]⟩,
  ⟨#[112, 114, 101, 118, 101, 110, 116, 69, 120, 116, 101, 110, 115, 105, 111, 110, 115]⟩, ⟨#[103, 101, 116, 79, 119, 110, 80, 114, 111, 112, 101, 114, 116, 121, 68, 101, 115, 99, 114, 105, 112, 116, 111, 114]⟩,
  ⟨#[100, 101, 102, 105, 110, 101, 80, 114, 111, 112, 101, 114, 116, 121]⟩, ⟨#[104, 97, 115]⟩, ⟨#[103, 101, 116]⟩, ⟨#[115, 101, 116]⟩, ⟨#[100, 101, 108, 101, 116, 101, 80, 114, 111, 112, 101, 114, 116, 121]⟩, ⟨#[111, 119, 110, 75, 101, 121, 115]⟩, ⟨#[97, 112, 112, 108, 121]⟩, ⟨#[99, 111, 110, 115, 116, 114, 117, 99, 116]⟩]
def nameOf (m : Int) : ByteArray := names.getD m.toNat ⟨#[]⟩

theorem cases14 (m : Int) (h0 : 0 ≤ m) : m = 1 ∨ m = 2 ∨ m = 3 ∨ m = 4 ∨ m = 5 ∨ m = 6 ∨ m = 7 ∨ m = 8 ∨ m = 9 ∨ m = 10 ∨ m = 11 ∨ m = 12 ∨ m = 13 ∨ ((m = 0 ∨ 13 < m) ∧ nameOf m = ⟨#[]⟩) := by
  by_cases h : 1 ≤ m ∧ m ≤ 13
  · omega
  · have h' : m = 0 ∨ 13 < m := by omega
    have e : nameOf m = ⟨#[]⟩ := by
      rcases h' with h' | h'
      · subst h'; rfl
      · unfold nameOf; rw [List.getD_eq_getElem?_getD, List.getElem?_eq_none (by show (14 : Nat) ≤ _; omega)]; rfl
    exact Or.inr (Or.inr (Or.inr (Or.inr (Or.inr (Or.inr (Or.inr (Or.inr (Or.inr (Or.inr (Or.inr (Or.inr (Or.inr ⟨h', e⟩))))))))))))

set_option maxHeartbeats 1000000 in
theorem name_any (m : Int) (h0 : 0 ≤ m) (w : World) :
    Calls Try.prog 9 #[.int .u8 m] w fun e w' => e = .returned (.string (nameOf m)) ∧ w = w' := by
  rcases cases14 m h0 with rfl | rfl | rfl | rfl | rfl | rfl | rfl | rfl | rfl | rfl | rfl | rfl | rfl | ⟨h, hn⟩
  case inr.inr.inr.inr.inr.inr.inr.inr.inr.inr.inr.inr.inr =>
    rw [hn]
    clear hn
    rcases h with rfl | h
    all_goals
      go_enter Try.func9, Try.ntmps9
      go_wp2
      go_ret
      exact ⟨rfl, rfl⟩
  all_goals
    go_enter Try.func9, Try.ntmps9
    go_wp2
    go_ret
    exact ⟨rfl, rfl⟩

set_option maxHeartbeats 1000000 in
theorem refName_any (m : Int) (h0 : 0 ≤ m) (w : World) :
    Calls Try.prog 10 #[.int .u8 m] w fun e w' => e = .returned (.string (nameOf m)) ∧ Below w.heap.size w w' := by
  rcases cases14 m h0 with rfl | rfl | rfl | rfl | rfl | rfl | rfl | rfl | rfl | rfl | rfl | rfl | rfl | ⟨h, hn⟩
  case inr.inr.inr.inr.inr.inr.inr.inr.inr.inr.inr.inr.inr =>
    rw [hn]
    clear hn
    rcases h with rfl | h
    all_goals
      go_enter Try.func10, Try.ntmps10
      go_wp2
      go_ret
      exact ⟨rfl, Below.refl _ _⟩
  all_goals
    go_enter Try.func10, Try.ntmps10
    go_wp2
    go_ret
    exact ⟨rfl, (Below.refl _ _).alloc (Nat.le_refl _) _⟩

end Go.Proofs.Ytlpldhcoplbopaa
