/-
  The walks of the kinds of bytes.
-/
import Derived.Test.YtkomjmgmancinaaDoorLxG
namespace Go.Proofs.YtkomjmgmancinaaDoor
open Go.RowKit

theorem isLet_iff (b : UInt8) : isLet b = true ↔ (97 ≤ b.toNat ∧ b.toNat ≤ 122) ∨ (65 ≤ b.toNat ∧ b.toNat ≤ 90) ∨ b.toNat = 95 ∨ b.toNat = 36 := by
  unfold isLet
  simp only [Bool.or_eq_true, Bool.and_eq_true, decide_eq_true_eq, UInt8.le_iff_toNat_le, beq_iff_eq, ← UInt8.toNat_inj, or_assoc]
  rfl
theorem isDig_iff (b : UInt8) : isDig b = true ↔ 48 ≤ b.toNat ∧ b.toNat ≤ 57 := by
  unfold isDig; simp
theorem isQu_iff (b : UInt8) : isQu b = true ↔ b.toNat = 34 ∨ b.toNat = 39 := by
  unfold isQu
  simp only [Bool.or_eq_true, beq_iff_eq, ← UInt8.toNat_inj]
  rfl
theorem kind_eq (b : UInt8) (k : Nat) (h : (k = 1 ∧ isLet b = true) ∨ (k = 2 ∧ isLet b = false ∧ isDig b = true) ∨ (k = 3 ∧ isLet b = false ∧ isDig b = false ∧ isQu b = true) ∨ (k = 0 ∧ isLet b = false ∧ isDig b = false ∧ isQu b = false)) : kindN b = k := by
  unfold kindN
  rcases h with ⟨rfl, h⟩ | ⟨rfl, h, h2⟩ | ⟨rfl, h, h2, h3⟩ | ⟨rfl, h, h2, h3⟩
  · rw [if_pos h]
  · rw [if_neg (by rw [h]; decide), if_pos h2]
  · rw [if_neg (by rw [h]; decide), if_neg (by rw [h2]; decide), if_pos h3]
  · rw [if_neg (by rw [h]; decide), if_neg (by rw [h2]; decide), if_neg (by rw [h3]; decide)]
theorem bfalse {b : Bool} {p : Prop} (h : b = true ↔ p) (hp : ¬ p) : b = false := by cases b; rfl; exact absurd (h.1 rfl) hp

set_option maxHeartbeats 4000000 in
theorem kind_any (b : UInt8) (w : World) : Calls Tryd.prog 43 #[.int .u8 b.toNat] w fun e w' => e = .returned (.int .i64 (kindN b : Nat)) ∧ w = w' := by
  have h256 := b.toNat_lt
  obtain ⟨n, hn⟩ : ∃ n, b.toNat = n := ⟨_, rfl⟩
  rcases (show (0 ≤ n ∧ n ≤ 33) ∨ (34 ≤ n ∧ n ≤ 34) ∨ (35 ≤ n ∧ n ≤ 35) ∨ (36 ≤ n ∧ n ≤ 36) ∨ (37 ≤ n ∧ n ≤ 38) ∨ (39 ≤ n ∧ n ≤ 39) ∨ (40 ≤ n ∧ n ≤ 47) ∨ (48 ≤ n ∧ n ≤ 57) ∨ (58 ≤ n ∧ n ≤ 64) ∨ (65 ≤ n ∧ n ≤ 90) ∨ (91 ≤ n ∧ n ≤ 94) ∨ (95 ≤ n ∧ n ≤ 95) ∨ (96 ≤ n ∧ n ≤ 96) ∨ (97 ≤ n ∧ n ≤ 122) ∨ (123 ≤ n ∧ n ≤ 255) by omega) with ⟨r1, r2⟩ | ⟨r1, r2⟩ | ⟨r1, r2⟩ | ⟨r1, r2⟩ | ⟨r1, r2⟩ | ⟨r1, r2⟩ | ⟨r1, r2⟩ | ⟨r1, r2⟩ | ⟨r1, r2⟩ | ⟨r1, r2⟩ | ⟨r1, r2⟩ | ⟨r1, r2⟩ | ⟨r1, r2⟩ | ⟨r1, r2⟩ | ⟨r1, r2⟩
  · have i1 : isLet b = false := (by first | exact (isLet_iff b).2 (by omega) | exact bfalse (isLet_iff b) (by omega))
    have i2 : isDig b = false := (by first | exact (isDig_iff b).2 (by omega) | exact bfalse (isDig_iff b) (by omega))
    have i3 : isQu b = false := (by first | exact (isQu_iff b).2 (by omega) | exact bfalse (isQu_iff b) (by omega))
    rw [kind_eq b 0 (by simp [i1, i2, i3])]
    clear i1 i2 i3
    rw [hn]
    clear hn h256
    have g97 : ¬ (97 : Int) ≤ (n : Int) := by omega
    have g65 : ¬ (65 : Int) ≤ (n : Int) := by omega
    have g48 : ¬ (48 : Int) ≤ (n : Int) := by omega
    have l122 : (n : Int) ≤ 122 := by omega
    have l90 : (n : Int) ≤ 90 := by omega
    have l57 : (n : Int) ≤ 57 := by omega
    have e95 : ((n : Int) == 95) = false := by first | (rw [beq_iff_eq]; omega) | (rw [beq_eq_false_iff_ne]; omega)
    have e36 : ((n : Int) == 36) = false := by first | (rw [beq_iff_eq]; omega) | (rw [beq_eq_false_iff_ne]; omega)
    have e34 : ((n : Int) == 34) = false := by first | (rw [beq_iff_eq]; omega) | (rw [beq_eq_false_iff_ne]; omega)
    have e39 : ((n : Int) == 39) = false := by first | (rw [beq_iff_eq]; omega) | (rw [beq_eq_false_iff_ne]; omega)
    clear r1 r2
    go_enter Tryd.func43, Tryd.ntmps43
    go_wp2_with fail
    go_ret
    exact ⟨rfl, rfl⟩
  · have i1 : isLet b = false := (by first | exact (isLet_iff b).2 (by omega) | exact bfalse (isLet_iff b) (by omega))
    have i2 : isDig b = false := (by first | exact (isDig_iff b).2 (by omega) | exact bfalse (isDig_iff b) (by omega))
    have i3 : isQu b = true := (by first | exact (isQu_iff b).2 (by omega) | exact bfalse (isQu_iff b) (by omega))
    rw [kind_eq b 3 (by simp [i1, i2, i3])]
    clear i1 i2 i3
    rw [hn]
    clear hn h256
    have g97 : ¬ (97 : Int) ≤ (n : Int) := by omega
    have g65 : ¬ (65 : Int) ≤ (n : Int) := by omega
    have g48 : ¬ (48 : Int) ≤ (n : Int) := by omega
    have l122 : (n : Int) ≤ 122 := by omega
    have l90 : (n : Int) ≤ 90 := by omega
    have l57 : (n : Int) ≤ 57 := by omega
    have e95 : ((n : Int) == 95) = false := by first | (rw [beq_iff_eq]; omega) | (rw [beq_eq_false_iff_ne]; omega)
    have e36 : ((n : Int) == 36) = false := by first | (rw [beq_iff_eq]; omega) | (rw [beq_eq_false_iff_ne]; omega)
    have e34 : ((n : Int) == 34) = true := by first | (rw [beq_iff_eq]; omega) | (rw [beq_eq_false_iff_ne]; omega)
    have e39 : ((n : Int) == 39) = false := by first | (rw [beq_iff_eq]; omega) | (rw [beq_eq_false_iff_ne]; omega)
    clear r1 r2
    go_enter Tryd.func43, Tryd.ntmps43
    go_wp2_with fail
    go_ret
    exact ⟨rfl, rfl⟩
  · have i1 : isLet b = false := (by first | exact (isLet_iff b).2 (by omega) | exact bfalse (isLet_iff b) (by omega))
    have i2 : isDig b = false := (by first | exact (isDig_iff b).2 (by omega) | exact bfalse (isDig_iff b) (by omega))
    have i3 : isQu b = false := (by first | exact (isQu_iff b).2 (by omega) | exact bfalse (isQu_iff b) (by omega))
    rw [kind_eq b 0 (by simp [i1, i2, i3])]
    clear i1 i2 i3
    rw [hn]
    clear hn h256
    have g97 : ¬ (97 : Int) ≤ (n : Int) := by omega
    have g65 : ¬ (65 : Int) ≤ (n : Int) := by omega
    have g48 : ¬ (48 : Int) ≤ (n : Int) := by omega
    have l122 : (n : Int) ≤ 122 := by omega
    have l90 : (n : Int) ≤ 90 := by omega
    have l57 : (n : Int) ≤ 57 := by omega
    have e95 : ((n : Int) == 95) = false := by first | (rw [beq_iff_eq]; omega) | (rw [beq_eq_false_iff_ne]; omega)
    have e36 : ((n : Int) == 36) = false := by first | (rw [beq_iff_eq]; omega) | (rw [beq_eq_false_iff_ne]; omega)
    have e34 : ((n : Int) == 34) = false := by first | (rw [beq_iff_eq]; omega) | (rw [beq_eq_false_iff_ne]; omega)
    have e39 : ((n : Int) == 39) = false := by first | (rw [beq_iff_eq]; omega) | (rw [beq_eq_false_iff_ne]; omega)
    clear r1 r2
    go_enter Tryd.func43, Tryd.ntmps43
    go_wp2_with fail
    go_ret
    exact ⟨rfl, rfl⟩
  · have i1 : isLet b = true := (by first | exact (isLet_iff b).2 (by omega) | exact bfalse (isLet_iff b) (by omega))
    have i2 : isDig b = false := (by first | exact (isDig_iff b).2 (by omega) | exact bfalse (isDig_iff b) (by omega))
    have i3 : isQu b = false := (by first | exact (isQu_iff b).2 (by omega) | exact bfalse (isQu_iff b) (by omega))
    rw [kind_eq b 1 (by simp [i1, i2, i3])]
    clear i1 i2 i3
    rw [hn]
    clear hn h256
    have g97 : ¬ (97 : Int) ≤ (n : Int) := by omega
    have g65 : ¬ (65 : Int) ≤ (n : Int) := by omega
    have g48 : ¬ (48 : Int) ≤ (n : Int) := by omega
    have l122 : (n : Int) ≤ 122 := by omega
    have l90 : (n : Int) ≤ 90 := by omega
    have l57 : (n : Int) ≤ 57 := by omega
    have e95 : ((n : Int) == 95) = false := by first | (rw [beq_iff_eq]; omega) | (rw [beq_eq_false_iff_ne]; omega)
    have e36 : ((n : Int) == 36) = true := by first | (rw [beq_iff_eq]; omega) | (rw [beq_eq_false_iff_ne]; omega)
    have e34 : ((n : Int) == 34) = false := by first | (rw [beq_iff_eq]; omega) | (rw [beq_eq_false_iff_ne]; omega)
    have e39 : ((n : Int) == 39) = false := by first | (rw [beq_iff_eq]; omega) | (rw [beq_eq_false_iff_ne]; omega)
    clear r1 r2
    go_enter Tryd.func43, Tryd.ntmps43
    go_wp2_with fail
    go_ret
    exact ⟨rfl, rfl⟩
  · have i1 : isLet b = false := (by first | exact (isLet_iff b).2 (by omega) | exact bfalse (isLet_iff b) (by omega))
    have i2 : isDig b = false := (by first | exact (isDig_iff b).2 (by omega) | exact bfalse (isDig_iff b) (by omega))
    have i3 : isQu b = false := (by first | exact (isQu_iff b).2 (by omega) | exact bfalse (isQu_iff b) (by omega))
    rw [kind_eq b 0 (by simp [i1, i2, i3])]
    clear i1 i2 i3
    rw [hn]
    clear hn h256
    have g97 : ¬ (97 : Int) ≤ (n : Int) := by omega
    have g65 : ¬ (65 : Int) ≤ (n : Int) := by omega
    have g48 : ¬ (48 : Int) ≤ (n : Int) := by omega
    have l122 : (n : Int) ≤ 122 := by omega
    have l90 : (n : Int) ≤ 90 := by omega
    have l57 : (n : Int) ≤ 57 := by omega
    have e95 : ((n : Int) == 95) = false := by first | (rw [beq_iff_eq]; omega) | (rw [beq_eq_false_iff_ne]; omega)
    have e36 : ((n : Int) == 36) = false := by first | (rw [beq_iff_eq]; omega) | (rw [beq_eq_false_iff_ne]; omega)
    have e34 : ((n : Int) == 34) = false := by first | (rw [beq_iff_eq]; omega) | (rw [beq_eq_false_iff_ne]; omega)
    have e39 : ((n : Int) == 39) = false := by first | (rw [beq_iff_eq]; omega) | (rw [beq_eq_false_iff_ne]; omega)
    clear r1 r2
    go_enter Tryd.func43, Tryd.ntmps43
    go_wp2_with fail
    go_ret
    exact ⟨rfl, rfl⟩
  · have i1 : isLet b = false := (by first | exact (isLet_iff b).2 (by omega) | exact bfalse (isLet_iff b) (by omega))
    have i2 : isDig b = false := (by first | exact (isDig_iff b).2 (by omega) | exact bfalse (isDig_iff b) (by omega))
    have i3 : isQu b = true := (by first | exact (isQu_iff b).2 (by omega) | exact bfalse (isQu_iff b) (by omega))
    rw [kind_eq b 3 (by simp [i1, i2, i3])]
    clear i1 i2 i3
    rw [hn]
    clear hn h256
    have g97 : ¬ (97 : Int) ≤ (n : Int) := by omega
    have g65 : ¬ (65 : Int) ≤ (n : Int) := by omega
    have g48 : ¬ (48 : Int) ≤ (n : Int) := by omega
    have l122 : (n : Int) ≤ 122 := by omega
    have l90 : (n : Int) ≤ 90 := by omega
    have l57 : (n : Int) ≤ 57 := by omega
    have e95 : ((n : Int) == 95) = false := by first | (rw [beq_iff_eq]; omega) | (rw [beq_eq_false_iff_ne]; omega)
    have e36 : ((n : Int) == 36) = false := by first | (rw [beq_iff_eq]; omega) | (rw [beq_eq_false_iff_ne]; omega)
    have e34 : ((n : Int) == 34) = false := by first | (rw [beq_iff_eq]; omega) | (rw [beq_eq_false_iff_ne]; omega)
    have e39 : ((n : Int) == 39) = true := by first | (rw [beq_iff_eq]; omega) | (rw [beq_eq_false_iff_ne]; omega)
    clear r1 r2
    go_enter Tryd.func43, Tryd.ntmps43
    go_wp2_with fail
    go_ret
    exact ⟨rfl, rfl⟩
  · have i1 : isLet b = false := (by first | exact (isLet_iff b).2 (by omega) | exact bfalse (isLet_iff b) (by omega))
    have i2 : isDig b = false := (by first | exact (isDig_iff b).2 (by omega) | exact bfalse (isDig_iff b) (by omega))
    have i3 : isQu b = false := (by first | exact (isQu_iff b).2 (by omega) | exact bfalse (isQu_iff b) (by omega))
    rw [kind_eq b 0 (by simp [i1, i2, i3])]
    clear i1 i2 i3
    rw [hn]
    clear hn h256
    have g97 : ¬ (97 : Int) ≤ (n : Int) := by omega
    have g65 : ¬ (65 : Int) ≤ (n : Int) := by omega
    have g48 : ¬ (48 : Int) ≤ (n : Int) := by omega
    have l122 : (n : Int) ≤ 122 := by omega
    have l90 : (n : Int) ≤ 90 := by omega
    have l57 : (n : Int) ≤ 57 := by omega
    have e95 : ((n : Int) == 95) = false := by first | (rw [beq_iff_eq]; omega) | (rw [beq_eq_false_iff_ne]; omega)
    have e36 : ((n : Int) == 36) = false := by first | (rw [beq_iff_eq]; omega) | (rw [beq_eq_false_iff_ne]; omega)
    have e34 : ((n : Int) == 34) = false := by first | (rw [beq_iff_eq]; omega) | (rw [beq_eq_false_iff_ne]; omega)
    have e39 : ((n : Int) == 39) = false := by first | (rw [beq_iff_eq]; omega) | (rw [beq_eq_false_iff_ne]; omega)
    clear r1 r2
    go_enter Tryd.func43, Tryd.ntmps43
    go_wp2_with fail
    go_ret
    exact ⟨rfl, rfl⟩
  · have i1 : isLet b = false := (by first | exact (isLet_iff b).2 (by omega) | exact bfalse (isLet_iff b) (by omega))
    have i2 : isDig b = true := (by first | exact (isDig_iff b).2 (by omega) | exact bfalse (isDig_iff b) (by omega))
    have i3 : isQu b = false := (by first | exact (isQu_iff b).2 (by omega) | exact bfalse (isQu_iff b) (by omega))
    rw [kind_eq b 2 (by simp [i1, i2, i3])]
    clear i1 i2 i3
    rw [hn]
    clear hn h256
    have g97 : ¬ (97 : Int) ≤ (n : Int) := by omega
    have g65 : ¬ (65 : Int) ≤ (n : Int) := by omega
    have g48 : (48 : Int) ≤ (n : Int) := by omega
    have l122 : (n : Int) ≤ 122 := by omega
    have l90 : (n : Int) ≤ 90 := by omega
    have l57 : (n : Int) ≤ 57 := by omega
    have e95 : ((n : Int) == 95) = false := by first | (rw [beq_iff_eq]; omega) | (rw [beq_eq_false_iff_ne]; omega)
    have e36 : ((n : Int) == 36) = false := by first | (rw [beq_iff_eq]; omega) | (rw [beq_eq_false_iff_ne]; omega)
    have e34 : ((n : Int) == 34) = false := by first | (rw [beq_iff_eq]; omega) | (rw [beq_eq_false_iff_ne]; omega)
    have e39 : ((n : Int) == 39) = false := by first | (rw [beq_iff_eq]; omega) | (rw [beq_eq_false_iff_ne]; omega)
    clear r1 r2
    go_enter Tryd.func43, Tryd.ntmps43
    go_wp2_with fail
    go_ret
    exact ⟨rfl, rfl⟩
  · have i1 : isLet b = false := (by first | exact (isLet_iff b).2 (by omega) | exact bfalse (isLet_iff b) (by omega))
    have i2 : isDig b = false := (by first | exact (isDig_iff b).2 (by omega) | exact bfalse (isDig_iff b) (by omega))
    have i3 : isQu b = false := (by first | exact (isQu_iff b).2 (by omega) | exact bfalse (isQu_iff b) (by omega))
    rw [kind_eq b 0 (by simp [i1, i2, i3])]
    clear i1 i2 i3
    rw [hn]
    clear hn h256
    have g97 : ¬ (97 : Int) ≤ (n : Int) := by omega
    have g65 : ¬ (65 : Int) ≤ (n : Int) := by omega
    have g48 : (48 : Int) ≤ (n : Int) := by omega
    have l122 : (n : Int) ≤ 122 := by omega
    have l90 : (n : Int) ≤ 90 := by omega
    have l57 : ¬ (n : Int) ≤ 57 := by omega
    have e95 : ((n : Int) == 95) = false := by first | (rw [beq_iff_eq]; omega) | (rw [beq_eq_false_iff_ne]; omega)
    have e36 : ((n : Int) == 36) = false := by first | (rw [beq_iff_eq]; omega) | (rw [beq_eq_false_iff_ne]; omega)
    have e34 : ((n : Int) == 34) = false := by first | (rw [beq_iff_eq]; omega) | (rw [beq_eq_false_iff_ne]; omega)
    have e39 : ((n : Int) == 39) = false := by first | (rw [beq_iff_eq]; omega) | (rw [beq_eq_false_iff_ne]; omega)
    clear r1 r2
    go_enter Tryd.func43, Tryd.ntmps43
    go_wp2_with fail
    go_ret
    exact ⟨rfl, rfl⟩
  · have i1 : isLet b = true := (by first | exact (isLet_iff b).2 (by omega) | exact bfalse (isLet_iff b) (by omega))
    have i2 : isDig b = false := (by first | exact (isDig_iff b).2 (by omega) | exact bfalse (isDig_iff b) (by omega))
    have i3 : isQu b = false := (by first | exact (isQu_iff b).2 (by omega) | exact bfalse (isQu_iff b) (by omega))
    rw [kind_eq b 1 (by simp [i1, i2, i3])]
    clear i1 i2 i3
    rw [hn]
    clear hn h256
    have g97 : ¬ (97 : Int) ≤ (n : Int) := by omega
    have g65 : (65 : Int) ≤ (n : Int) := by omega
    have g48 : (48 : Int) ≤ (n : Int) := by omega
    have l122 : (n : Int) ≤ 122 := by omega
    have l90 : (n : Int) ≤ 90 := by omega
    have l57 : ¬ (n : Int) ≤ 57 := by omega
    have e95 : ((n : Int) == 95) = false := by first | (rw [beq_iff_eq]; omega) | (rw [beq_eq_false_iff_ne]; omega)
    have e36 : ((n : Int) == 36) = false := by first | (rw [beq_iff_eq]; omega) | (rw [beq_eq_false_iff_ne]; omega)
    have e34 : ((n : Int) == 34) = false := by first | (rw [beq_iff_eq]; omega) | (rw [beq_eq_false_iff_ne]; omega)
    have e39 : ((n : Int) == 39) = false := by first | (rw [beq_iff_eq]; omega) | (rw [beq_eq_false_iff_ne]; omega)
    clear r1 r2
    go_enter Tryd.func43, Tryd.ntmps43
    go_wp2_with fail
    go_ret
    exact ⟨rfl, rfl⟩
  · have i1 : isLet b = false := (by first | exact (isLet_iff b).2 (by omega) | exact bfalse (isLet_iff b) (by omega))
    have i2 : isDig b = false := (by first | exact (isDig_iff b).2 (by omega) | exact bfalse (isDig_iff b) (by omega))
    have i3 : isQu b = false := (by first | exact (isQu_iff b).2 (by omega) | exact bfalse (isQu_iff b) (by omega))
    rw [kind_eq b 0 (by simp [i1, i2, i3])]
    clear i1 i2 i3
    rw [hn]
    clear hn h256
    have g97 : ¬ (97 : Int) ≤ (n : Int) := by omega
    have g65 : (65 : Int) ≤ (n : Int) := by omega
    have g48 : (48 : Int) ≤ (n : Int) := by omega
    have l122 : (n : Int) ≤ 122 := by omega
    have l90 : ¬ (n : Int) ≤ 90 := by omega
    have l57 : ¬ (n : Int) ≤ 57 := by omega
    have e95 : ((n : Int) == 95) = false := by first | (rw [beq_iff_eq]; omega) | (rw [beq_eq_false_iff_ne]; omega)
    have e36 : ((n : Int) == 36) = false := by first | (rw [beq_iff_eq]; omega) | (rw [beq_eq_false_iff_ne]; omega)
    have e34 : ((n : Int) == 34) = false := by first | (rw [beq_iff_eq]; omega) | (rw [beq_eq_false_iff_ne]; omega)
    have e39 : ((n : Int) == 39) = false := by first | (rw [beq_iff_eq]; omega) | (rw [beq_eq_false_iff_ne]; omega)
    clear r1 r2
    go_enter Tryd.func43, Tryd.ntmps43
    go_wp2_with fail
    go_ret
    exact ⟨rfl, rfl⟩
  · have i1 : isLet b = true := (by first | exact (isLet_iff b).2 (by omega) | exact bfalse (isLet_iff b) (by omega))
    have i2 : isDig b = false := (by first | exact (isDig_iff b).2 (by omega) | exact bfalse (isDig_iff b) (by omega))
    have i3 : isQu b = false := (by first | exact (isQu_iff b).2 (by omega) | exact bfalse (isQu_iff b) (by omega))
    rw [kind_eq b 1 (by simp [i1, i2, i3])]
    clear i1 i2 i3
    rw [hn]
    clear hn h256
    have g97 : ¬ (97 : Int) ≤ (n : Int) := by omega
    have g65 : (65 : Int) ≤ (n : Int) := by omega
    have g48 : (48 : Int) ≤ (n : Int) := by omega
    have l122 : (n : Int) ≤ 122 := by omega
    have l90 : ¬ (n : Int) ≤ 90 := by omega
    have l57 : ¬ (n : Int) ≤ 57 := by omega
    have e95 : ((n : Int) == 95) = true := by first | (rw [beq_iff_eq]; omega) | (rw [beq_eq_false_iff_ne]; omega)
    have e36 : ((n : Int) == 36) = false := by first | (rw [beq_iff_eq]; omega) | (rw [beq_eq_false_iff_ne]; omega)
    have e34 : ((n : Int) == 34) = false := by first | (rw [beq_iff_eq]; omega) | (rw [beq_eq_false_iff_ne]; omega)
    have e39 : ((n : Int) == 39) = false := by first | (rw [beq_iff_eq]; omega) | (rw [beq_eq_false_iff_ne]; omega)
    clear r1 r2
    go_enter Tryd.func43, Tryd.ntmps43
    go_wp2_with fail
    go_ret
    exact ⟨rfl, rfl⟩
  · have i1 : isLet b = false := (by first | exact (isLet_iff b).2 (by omega) | exact bfalse (isLet_iff b) (by omega))
    have i2 : isDig b = false := (by first | exact (isDig_iff b).2 (by omega) | exact bfalse (isDig_iff b) (by omega))
    have i3 : isQu b = false := (by first | exact (isQu_iff b).2 (by omega) | exact bfalse (isQu_iff b) (by omega))
    rw [kind_eq b 0 (by simp [i1, i2, i3])]
    clear i1 i2 i3
    rw [hn]
    clear hn h256
    have g97 : ¬ (97 : Int) ≤ (n : Int) := by omega
    have g65 : (65 : Int) ≤ (n : Int) := by omega
    have g48 : (48 : Int) ≤ (n : Int) := by omega
    have l122 : (n : Int) ≤ 122 := by omega
    have l90 : ¬ (n : Int) ≤ 90 := by omega
    have l57 : ¬ (n : Int) ≤ 57 := by omega
    have e95 : ((n : Int) == 95) = false := by first | (rw [beq_iff_eq]; omega) | (rw [beq_eq_false_iff_ne]; omega)
    have e36 : ((n : Int) == 36) = false := by first | (rw [beq_iff_eq]; omega) | (rw [beq_eq_false_iff_ne]; omega)
    have e34 : ((n : Int) == 34) = false := by first | (rw [beq_iff_eq]; omega) | (rw [beq_eq_false_iff_ne]; omega)
    have e39 : ((n : Int) == 39) = false := by first | (rw [beq_iff_eq]; omega) | (rw [beq_eq_false_iff_ne]; omega)
    clear r1 r2
    go_enter Tryd.func43, Tryd.ntmps43
    go_wp2_with fail
    go_ret
    exact ⟨rfl, rfl⟩
  · have i1 : isLet b = true := (by first | exact (isLet_iff b).2 (by omega) | exact bfalse (isLet_iff b) (by omega))
    have i2 : isDig b = false := (by first | exact (isDig_iff b).2 (by omega) | exact bfalse (isDig_iff b) (by omega))
    have i3 : isQu b = false := (by first | exact (isQu_iff b).2 (by omega) | exact bfalse (isQu_iff b) (by omega))
    rw [kind_eq b 1 (by simp [i1, i2, i3])]
    clear i1 i2 i3
    rw [hn]
    clear hn h256
    have g97 : (97 : Int) ≤ (n : Int) := by omega
    have g65 : (65 : Int) ≤ (n : Int) := by omega
    have g48 : (48 : Int) ≤ (n : Int) := by omega
    have l122 : (n : Int) ≤ 122 := by omega
    have l90 : ¬ (n : Int) ≤ 90 := by omega
    have l57 : ¬ (n : Int) ≤ 57 := by omega
    have e95 : ((n : Int) == 95) = false := by first | (rw [beq_iff_eq]; omega) | (rw [beq_eq_false_iff_ne]; omega)
    have e36 : ((n : Int) == 36) = false := by first | (rw [beq_iff_eq]; omega) | (rw [beq_eq_false_iff_ne]; omega)
    have e34 : ((n : Int) == 34) = false := by first | (rw [beq_iff_eq]; omega) | (rw [beq_eq_false_iff_ne]; omega)
    have e39 : ((n : Int) == 39) = false := by first | (rw [beq_iff_eq]; omega) | (rw [beq_eq_false_iff_ne]; omega)
    clear r1 r2
    go_enter Tryd.func43, Tryd.ntmps43
    go_wp2_with fail
    go_ret
    exact ⟨rfl, rfl⟩
  · have i1 : isLet b = false := (by first | exact (isLet_iff b).2 (by omega) | exact bfalse (isLet_iff b) (by omega))
    have i2 : isDig b = false := (by first | exact (isDig_iff b).2 (by omega) | exact bfalse (isDig_iff b) (by omega))
    have i3 : isQu b = false := (by first | exact (isQu_iff b).2 (by omega) | exact bfalse (isQu_iff b) (by omega))
    rw [kind_eq b 0 (by simp [i1, i2, i3])]
    clear i1 i2 i3
    rw [hn]
    clear hn h256
    have g97 : (97 : Int) ≤ (n : Int) := by omega
    have g65 : (65 : Int) ≤ (n : Int) := by omega
    have g48 : (48 : Int) ≤ (n : Int) := by omega
    have l122 : ¬ (n : Int) ≤ 122 := by omega
    have l90 : ¬ (n : Int) ≤ 90 := by omega
    have l57 : ¬ (n : Int) ≤ 57 := by omega
    have e95 : ((n : Int) == 95) = false := by first | (rw [beq_iff_eq]; omega) | (rw [beq_eq_false_iff_ne]; omega)
    have e36 : ((n : Int) == 36) = false := by first | (rw [beq_iff_eq]; omega) | (rw [beq_eq_false_iff_ne]; omega)
    have e34 : ((n : Int) == 34) = false := by first | (rw [beq_iff_eq]; omega) | (rw [beq_eq_false_iff_ne]; omega)
    have e39 : ((n : Int) == 39) = false := by first | (rw [beq_iff_eq]; omega) | (rw [beq_eq_false_iff_ne]; omega)
    clear r1 r2
    go_enter Tryd.func43, Tryd.ntmps43
    go_wp2_with fail
    go_ret
    exact ⟨rfl, rfl⟩

set_option maxHeartbeats 4000000 in
theorem first_any (b : UInt8) (w : World) : Calls Tryd.prog 59 #[.int .u8 b.toNat] w fun e w' => e = .returned (.bool (isLet b)) ∧ w = w' := by
  have h256 := b.toNat_lt
  obtain ⟨n, hn⟩ : ∃ n, b.toNat = n := ⟨_, rfl⟩
  rcases (show (0 ≤ n ∧ n ≤ 33) ∨ (34 ≤ n ∧ n ≤ 34) ∨ (35 ≤ n ∧ n ≤ 35) ∨ (36 ≤ n ∧ n ≤ 36) ∨ (37 ≤ n ∧ n ≤ 38) ∨ (39 ≤ n ∧ n ≤ 39) ∨ (40 ≤ n ∧ n ≤ 47) ∨ (48 ≤ n ∧ n ≤ 57) ∨ (58 ≤ n ∧ n ≤ 64) ∨ (65 ≤ n ∧ n ≤ 90) ∨ (91 ≤ n ∧ n ≤ 94) ∨ (95 ≤ n ∧ n ≤ 95) ∨ (96 ≤ n ∧ n ≤ 96) ∨ (97 ≤ n ∧ n ≤ 122) ∨ (123 ≤ n ∧ n ≤ 255) by omega) with ⟨r1, r2⟩ | ⟨r1, r2⟩ | ⟨r1, r2⟩ | ⟨r1, r2⟩ | ⟨r1, r2⟩ | ⟨r1, r2⟩ | ⟨r1, r2⟩ | ⟨r1, r2⟩ | ⟨r1, r2⟩ | ⟨r1, r2⟩ | ⟨r1, r2⟩ | ⟨r1, r2⟩ | ⟨r1, r2⟩ | ⟨r1, r2⟩ | ⟨r1, r2⟩
  · have i1 : isLet b = false := (by first | exact (isLet_iff b).2 (by omega) | exact bfalse (isLet_iff b) (by omega))
    have i2 : isDig b = false := (by first | exact (isDig_iff b).2 (by omega) | exact bfalse (isDig_iff b) (by omega))
    have i3 : isQu b = false := (by first | exact (isQu_iff b).2 (by omega) | exact bfalse (isQu_iff b) (by omega))
    rw [i1]
    clear i1 i2 i3
    rw [hn]
    clear hn h256
    have g97 : ¬ (97 : Int) ≤ (n : Int) := by omega
    have g65 : ¬ (65 : Int) ≤ (n : Int) := by omega
    have g48 : ¬ (48 : Int) ≤ (n : Int) := by omega
    have l122 : (n : Int) ≤ 122 := by omega
    have l90 : (n : Int) ≤ 90 := by omega
    have l57 : (n : Int) ≤ 57 := by omega
    have e95 : ((n : Int) == 95) = false := by first | (rw [beq_iff_eq]; omega) | (rw [beq_eq_false_iff_ne]; omega)
    have e36 : ((n : Int) == 36) = false := by first | (rw [beq_iff_eq]; omega) | (rw [beq_eq_false_iff_ne]; omega)
    have e34 : ((n : Int) == 34) = false := by first | (rw [beq_iff_eq]; omega) | (rw [beq_eq_false_iff_ne]; omega)
    have e39 : ((n : Int) == 39) = false := by first | (rw [beq_iff_eq]; omega) | (rw [beq_eq_false_iff_ne]; omega)
    clear r1 r2
    go_enter Tryd.func59, Tryd.ntmps59
    go_wp2_with fail
    go_ret
    exact ⟨rfl, rfl⟩
  · have i1 : isLet b = false := (by first | exact (isLet_iff b).2 (by omega) | exact bfalse (isLet_iff b) (by omega))
    have i2 : isDig b = false := (by first | exact (isDig_iff b).2 (by omega) | exact bfalse (isDig_iff b) (by omega))
    have i3 : isQu b = true := (by first | exact (isQu_iff b).2 (by omega) | exact bfalse (isQu_iff b) (by omega))
    rw [i1]
    clear i1 i2 i3
    rw [hn]
    clear hn h256
    have g97 : ¬ (97 : Int) ≤ (n : Int) := by omega
    have g65 : ¬ (65 : Int) ≤ (n : Int) := by omega
    have g48 : ¬ (48 : Int) ≤ (n : Int) := by omega
    have l122 : (n : Int) ≤ 122 := by omega
    have l90 : (n : Int) ≤ 90 := by omega
    have l57 : (n : Int) ≤ 57 := by omega
    have e95 : ((n : Int) == 95) = false := by first | (rw [beq_iff_eq]; omega) | (rw [beq_eq_false_iff_ne]; omega)
    have e36 : ((n : Int) == 36) = false := by first | (rw [beq_iff_eq]; omega) | (rw [beq_eq_false_iff_ne]; omega)
    have e34 : ((n : Int) == 34) = true := by first | (rw [beq_iff_eq]; omega) | (rw [beq_eq_false_iff_ne]; omega)
    have e39 : ((n : Int) == 39) = false := by first | (rw [beq_iff_eq]; omega) | (rw [beq_eq_false_iff_ne]; omega)
    clear r1 r2
    go_enter Tryd.func59, Tryd.ntmps59
    go_wp2_with fail
    go_ret
    exact ⟨rfl, rfl⟩
  · have i1 : isLet b = false := (by first | exact (isLet_iff b).2 (by omega) | exact bfalse (isLet_iff b) (by omega))
    have i2 : isDig b = false := (by first | exact (isDig_iff b).2 (by omega) | exact bfalse (isDig_iff b) (by omega))
    have i3 : isQu b = false := (by first | exact (isQu_iff b).2 (by omega) | exact bfalse (isQu_iff b) (by omega))
    rw [i1]
    clear i1 i2 i3
    rw [hn]
    clear hn h256
    have g97 : ¬ (97 : Int) ≤ (n : Int) := by omega
    have g65 : ¬ (65 : Int) ≤ (n : Int) := by omega
    have g48 : ¬ (48 : Int) ≤ (n : Int) := by omega
    have l122 : (n : Int) ≤ 122 := by omega
    have l90 : (n : Int) ≤ 90 := by omega
    have l57 : (n : Int) ≤ 57 := by omega
    have e95 : ((n : Int) == 95) = false := by first | (rw [beq_iff_eq]; omega) | (rw [beq_eq_false_iff_ne]; omega)
    have e36 : ((n : Int) == 36) = false := by first | (rw [beq_iff_eq]; omega) | (rw [beq_eq_false_iff_ne]; omega)
    have e34 : ((n : Int) == 34) = false := by first | (rw [beq_iff_eq]; omega) | (rw [beq_eq_false_iff_ne]; omega)
    have e39 : ((n : Int) == 39) = false := by first | (rw [beq_iff_eq]; omega) | (rw [beq_eq_false_iff_ne]; omega)
    clear r1 r2
    go_enter Tryd.func59, Tryd.ntmps59
    go_wp2_with fail
    go_ret
    exact ⟨rfl, rfl⟩
  · have i1 : isLet b = true := (by first | exact (isLet_iff b).2 (by omega) | exact bfalse (isLet_iff b) (by omega))
    have i2 : isDig b = false := (by first | exact (isDig_iff b).2 (by omega) | exact bfalse (isDig_iff b) (by omega))
    have i3 : isQu b = false := (by first | exact (isQu_iff b).2 (by omega) | exact bfalse (isQu_iff b) (by omega))
    rw [i1]
    clear i1 i2 i3
    rw [hn]
    clear hn h256
    have g97 : ¬ (97 : Int) ≤ (n : Int) := by omega
    have g65 : ¬ (65 : Int) ≤ (n : Int) := by omega
    have g48 : ¬ (48 : Int) ≤ (n : Int) := by omega
    have l122 : (n : Int) ≤ 122 := by omega
    have l90 : (n : Int) ≤ 90 := by omega
    have l57 : (n : Int) ≤ 57 := by omega
    have e95 : ((n : Int) == 95) = false := by first | (rw [beq_iff_eq]; omega) | (rw [beq_eq_false_iff_ne]; omega)
    have e36 : ((n : Int) == 36) = true := by first | (rw [beq_iff_eq]; omega) | (rw [beq_eq_false_iff_ne]; omega)
    have e34 : ((n : Int) == 34) = false := by first | (rw [beq_iff_eq]; omega) | (rw [beq_eq_false_iff_ne]; omega)
    have e39 : ((n : Int) == 39) = false := by first | (rw [beq_iff_eq]; omega) | (rw [beq_eq_false_iff_ne]; omega)
    clear r1 r2
    go_enter Tryd.func59, Tryd.ntmps59
    go_wp2_with fail
    go_ret
    exact ⟨rfl, rfl⟩
  · have i1 : isLet b = false := (by first | exact (isLet_iff b).2 (by omega) | exact bfalse (isLet_iff b) (by omega))
    have i2 : isDig b = false := (by first | exact (isDig_iff b).2 (by omega) | exact bfalse (isDig_iff b) (by omega))
    have i3 : isQu b = false := (by first | exact (isQu_iff b).2 (by omega) | exact bfalse (isQu_iff b) (by omega))
    rw [i1]
    clear i1 i2 i3
    rw [hn]
    clear hn h256
    have g97 : ¬ (97 : Int) ≤ (n : Int) := by omega
    have g65 : ¬ (65 : Int) ≤ (n : Int) := by omega
    have g48 : ¬ (48 : Int) ≤ (n : Int) := by omega
    have l122 : (n : Int) ≤ 122 := by omega
    have l90 : (n : Int) ≤ 90 := by omega
    have l57 : (n : Int) ≤ 57 := by omega
    have e95 : ((n : Int) == 95) = false := by first | (rw [beq_iff_eq]; omega) | (rw [beq_eq_false_iff_ne]; omega)
    have e36 : ((n : Int) == 36) = false := by first | (rw [beq_iff_eq]; omega) | (rw [beq_eq_false_iff_ne]; omega)
    have e34 : ((n : Int) == 34) = false := by first | (rw [beq_iff_eq]; omega) | (rw [beq_eq_false_iff_ne]; omega)
    have e39 : ((n : Int) == 39) = false := by first | (rw [beq_iff_eq]; omega) | (rw [beq_eq_false_iff_ne]; omega)
    clear r1 r2
    go_enter Tryd.func59, Tryd.ntmps59
    go_wp2_with fail
    go_ret
    exact ⟨rfl, rfl⟩
  · have i1 : isLet b = false := (by first | exact (isLet_iff b).2 (by omega) | exact bfalse (isLet_iff b) (by omega))
    have i2 : isDig b = false := (by first | exact (isDig_iff b).2 (by omega) | exact bfalse (isDig_iff b) (by omega))
    have i3 : isQu b = true := (by first | exact (isQu_iff b).2 (by omega) | exact bfalse (isQu_iff b) (by omega))
    rw [i1]
    clear i1 i2 i3
    rw [hn]
    clear hn h256
    have g97 : ¬ (97 : Int) ≤ (n : Int) := by omega
    have g65 : ¬ (65 : Int) ≤ (n : Int) := by omega
    have g48 : ¬ (48 : Int) ≤ (n : Int) := by omega
    have l122 : (n : Int) ≤ 122 := by omega
    have l90 : (n : Int) ≤ 90 := by omega
    have l57 : (n : Int) ≤ 57 := by omega
    have e95 : ((n : Int) == 95) = false := by first | (rw [beq_iff_eq]; omega) | (rw [beq_eq_false_iff_ne]; omega)
    have e36 : ((n : Int) == 36) = false := by first | (rw [beq_iff_eq]; omega) | (rw [beq_eq_false_iff_ne]; omega)
    have e34 : ((n : Int) == 34) = false := by first | (rw [beq_iff_eq]; omega) | (rw [beq_eq_false_iff_ne]; omega)
    have e39 : ((n : Int) == 39) = true := by first | (rw [beq_iff_eq]; omega) | (rw [beq_eq_false_iff_ne]; omega)
    clear r1 r2
    go_enter Tryd.func59, Tryd.ntmps59
    go_wp2_with fail
    go_ret
    exact ⟨rfl, rfl⟩
  · have i1 : isLet b = false := (by first | exact (isLet_iff b).2 (by omega) | exact bfalse (isLet_iff b) (by omega))
    have i2 : isDig b = false := (by first | exact (isDig_iff b).2 (by omega) | exact bfalse (isDig_iff b) (by omega))
    have i3 : isQu b = false := (by first | exact (isQu_iff b).2 (by omega) | exact bfalse (isQu_iff b) (by omega))
    rw [i1]
    clear i1 i2 i3
    rw [hn]
    clear hn h256
    have g97 : ¬ (97 : Int) ≤ (n : Int) := by omega
    have g65 : ¬ (65 : Int) ≤ (n : Int) := by omega
    have g48 : ¬ (48 : Int) ≤ (n : Int) := by omega
    have l122 : (n : Int) ≤ 122 := by omega
    have l90 : (n : Int) ≤ 90 := by omega
    have l57 : (n : Int) ≤ 57 := by omega
    have e95 : ((n : Int) == 95) = false := by first | (rw [beq_iff_eq]; omega) | (rw [beq_eq_false_iff_ne]; omega)
    have e36 : ((n : Int) == 36) = false := by first | (rw [beq_iff_eq]; omega) | (rw [beq_eq_false_iff_ne]; omega)
    have e34 : ((n : Int) == 34) = false := by first | (rw [beq_iff_eq]; omega) | (rw [beq_eq_false_iff_ne]; omega)
    have e39 : ((n : Int) == 39) = false := by first | (rw [beq_iff_eq]; omega) | (rw [beq_eq_false_iff_ne]; omega)
    clear r1 r2
    go_enter Tryd.func59, Tryd.ntmps59
    go_wp2_with fail
    go_ret
    exact ⟨rfl, rfl⟩
  · have i1 : isLet b = false := (by first | exact (isLet_iff b).2 (by omega) | exact bfalse (isLet_iff b) (by omega))
    have i2 : isDig b = true := (by first | exact (isDig_iff b).2 (by omega) | exact bfalse (isDig_iff b) (by omega))
    have i3 : isQu b = false := (by first | exact (isQu_iff b).2 (by omega) | exact bfalse (isQu_iff b) (by omega))
    rw [i1]
    clear i1 i2 i3
    rw [hn]
    clear hn h256
    have g97 : ¬ (97 : Int) ≤ (n : Int) := by omega
    have g65 : ¬ (65 : Int) ≤ (n : Int) := by omega
    have g48 : (48 : Int) ≤ (n : Int) := by omega
    have l122 : (n : Int) ≤ 122 := by omega
    have l90 : (n : Int) ≤ 90 := by omega
    have l57 : (n : Int) ≤ 57 := by omega
    have e95 : ((n : Int) == 95) = false := by first | (rw [beq_iff_eq]; omega) | (rw [beq_eq_false_iff_ne]; omega)
    have e36 : ((n : Int) == 36) = false := by first | (rw [beq_iff_eq]; omega) | (rw [beq_eq_false_iff_ne]; omega)
    have e34 : ((n : Int) == 34) = false := by first | (rw [beq_iff_eq]; omega) | (rw [beq_eq_false_iff_ne]; omega)
    have e39 : ((n : Int) == 39) = false := by first | (rw [beq_iff_eq]; omega) | (rw [beq_eq_false_iff_ne]; omega)
    clear r1 r2
    go_enter Tryd.func59, Tryd.ntmps59
    go_wp2_with fail
    go_ret
    exact ⟨rfl, rfl⟩
  · have i1 : isLet b = false := (by first | exact (isLet_iff b).2 (by omega) | exact bfalse (isLet_iff b) (by omega))
    have i2 : isDig b = false := (by first | exact (isDig_iff b).2 (by omega) | exact bfalse (isDig_iff b) (by omega))
    have i3 : isQu b = false := (by first | exact (isQu_iff b).2 (by omega) | exact bfalse (isQu_iff b) (by omega))
    rw [i1]
    clear i1 i2 i3
    rw [hn]
    clear hn h256
    have g97 : ¬ (97 : Int) ≤ (n : Int) := by omega
    have g65 : ¬ (65 : Int) ≤ (n : Int) := by omega
    have g48 : (48 : Int) ≤ (n : Int) := by omega
    have l122 : (n : Int) ≤ 122 := by omega
    have l90 : (n : Int) ≤ 90 := by omega
    have l57 : ¬ (n : Int) ≤ 57 := by omega
    have e95 : ((n : Int) == 95) = false := by first | (rw [beq_iff_eq]; omega) | (rw [beq_eq_false_iff_ne]; omega)
    have e36 : ((n : Int) == 36) = false := by first | (rw [beq_iff_eq]; omega) | (rw [beq_eq_false_iff_ne]; omega)
    have e34 : ((n : Int) == 34) = false := by first | (rw [beq_iff_eq]; omega) | (rw [beq_eq_false_iff_ne]; omega)
    have e39 : ((n : Int) == 39) = false := by first | (rw [beq_iff_eq]; omega) | (rw [beq_eq_false_iff_ne]; omega)
    clear r1 r2
    go_enter Tryd.func59, Tryd.ntmps59
    go_wp2_with fail
    go_ret
    exact ⟨rfl, rfl⟩
  · have i1 : isLet b = true := (by first | exact (isLet_iff b).2 (by omega) | exact bfalse (isLet_iff b) (by omega))
    have i2 : isDig b = false := (by first | exact (isDig_iff b).2 (by omega) | exact bfalse (isDig_iff b) (by omega))
    have i3 : isQu b = false := (by first | exact (isQu_iff b).2 (by omega) | exact bfalse (isQu_iff b) (by omega))
    rw [i1]
    clear i1 i2 i3
    rw [hn]
    clear hn h256
    have g97 : ¬ (97 : Int) ≤ (n : Int) := by omega
    have g65 : (65 : Int) ≤ (n : Int) := by omega
    have g48 : (48 : Int) ≤ (n : Int) := by omega
    have l122 : (n : Int) ≤ 122 := by omega
    have l90 : (n : Int) ≤ 90 := by omega
    have l57 : ¬ (n : Int) ≤ 57 := by omega
    have e95 : ((n : Int) == 95) = false := by first | (rw [beq_iff_eq]; omega) | (rw [beq_eq_false_iff_ne]; omega)
    have e36 : ((n : Int) == 36) = false := by first | (rw [beq_iff_eq]; omega) | (rw [beq_eq_false_iff_ne]; omega)
    have e34 : ((n : Int) == 34) = false := by first | (rw [beq_iff_eq]; omega) | (rw [beq_eq_false_iff_ne]; omega)
    have e39 : ((n : Int) == 39) = false := by first | (rw [beq_iff_eq]; omega) | (rw [beq_eq_false_iff_ne]; omega)
    clear r1 r2
    go_enter Tryd.func59, Tryd.ntmps59
    go_wp2_with fail
    go_ret
    exact ⟨rfl, rfl⟩
  · have i1 : isLet b = false := (by first | exact (isLet_iff b).2 (by omega) | exact bfalse (isLet_iff b) (by omega))
    have i2 : isDig b = false := (by first | exact (isDig_iff b).2 (by omega) | exact bfalse (isDig_iff b) (by omega))
    have i3 : isQu b = false := (by first | exact (isQu_iff b).2 (by omega) | exact bfalse (isQu_iff b) (by omega))
    rw [i1]
    clear i1 i2 i3
    rw [hn]
    clear hn h256
    have g97 : ¬ (97 : Int) ≤ (n : Int) := by omega
    have g65 : (65 : Int) ≤ (n : Int) := by omega
    have g48 : (48 : Int) ≤ (n : Int) := by omega
    have l122 : (n : Int) ≤ 122 := by omega
    have l90 : ¬ (n : Int) ≤ 90 := by omega
    have l57 : ¬ (n : Int) ≤ 57 := by omega
    have e95 : ((n : Int) == 95) = false := by first | (rw [beq_iff_eq]; omega) | (rw [beq_eq_false_iff_ne]; omega)
    have e36 : ((n : Int) == 36) = false := by first | (rw [beq_iff_eq]; omega) | (rw [beq_eq_false_iff_ne]; omega)
    have e34 : ((n : Int) == 34) = false := by first | (rw [beq_iff_eq]; omega) | (rw [beq_eq_false_iff_ne]; omega)
    have e39 : ((n : Int) == 39) = false := by first | (rw [beq_iff_eq]; omega) | (rw [beq_eq_false_iff_ne]; omega)
    clear r1 r2
    go_enter Tryd.func59, Tryd.ntmps59
    go_wp2_with fail
    go_ret
    exact ⟨rfl, rfl⟩
  · have i1 : isLet b = true := (by first | exact (isLet_iff b).2 (by omega) | exact bfalse (isLet_iff b) (by omega))
    have i2 : isDig b = false := (by first | exact (isDig_iff b).2 (by omega) | exact bfalse (isDig_iff b) (by omega))
    have i3 : isQu b = false := (by first | exact (isQu_iff b).2 (by omega) | exact bfalse (isQu_iff b) (by omega))
    rw [i1]
    clear i1 i2 i3
    rw [hn]
    clear hn h256
    have g97 : ¬ (97 : Int) ≤ (n : Int) := by omega
    have g65 : (65 : Int) ≤ (n : Int) := by omega
    have g48 : (48 : Int) ≤ (n : Int) := by omega
    have l122 : (n : Int) ≤ 122 := by omega
    have l90 : ¬ (n : Int) ≤ 90 := by omega
    have l57 : ¬ (n : Int) ≤ 57 := by omega
    have e95 : ((n : Int) == 95) = true := by first | (rw [beq_iff_eq]; omega) | (rw [beq_eq_false_iff_ne]; omega)
    have e36 : ((n : Int) == 36) = false := by first | (rw [beq_iff_eq]; omega) | (rw [beq_eq_false_iff_ne]; omega)
    have e34 : ((n : Int) == 34) = false := by first | (rw [beq_iff_eq]; omega) | (rw [beq_eq_false_iff_ne]; omega)
    have e39 : ((n : Int) == 39) = false := by first | (rw [beq_iff_eq]; omega) | (rw [beq_eq_false_iff_ne]; omega)
    clear r1 r2
    go_enter Tryd.func59, Tryd.ntmps59
    go_wp2_with fail
    go_ret
    exact ⟨rfl, rfl⟩
  · have i1 : isLet b = false := (by first | exact (isLet_iff b).2 (by omega) | exact bfalse (isLet_iff b) (by omega))
    have i2 : isDig b = false := (by first | exact (isDig_iff b).2 (by omega) | exact bfalse (isDig_iff b) (by omega))
    have i3 : isQu b = false := (by first | exact (isQu_iff b).2 (by omega) | exact bfalse (isQu_iff b) (by omega))
    rw [i1]
    clear i1 i2 i3
    rw [hn]
    clear hn h256
    have g97 : ¬ (97 : Int) ≤ (n : Int) := by omega
    have g65 : (65 : Int) ≤ (n : Int) := by omega
    have g48 : (48 : Int) ≤ (n : Int) := by omega
    have l122 : (n : Int) ≤ 122 := by omega
    have l90 : ¬ (n : Int) ≤ 90 := by omega
    have l57 : ¬ (n : Int) ≤ 57 := by omega
    have e95 : ((n : Int) == 95) = false := by first | (rw [beq_iff_eq]; omega) | (rw [beq_eq_false_iff_ne]; omega)
    have e36 : ((n : Int) == 36) = false := by first | (rw [beq_iff_eq]; omega) | (rw [beq_eq_false_iff_ne]; omega)
    have e34 : ((n : Int) == 34) = false := by first | (rw [beq_iff_eq]; omega) | (rw [beq_eq_false_iff_ne]; omega)
    have e39 : ((n : Int) == 39) = false := by first | (rw [beq_iff_eq]; omega) | (rw [beq_eq_false_iff_ne]; omega)
    clear r1 r2
    go_enter Tryd.func59, Tryd.ntmps59
    go_wp2_with fail
    go_ret
    exact ⟨rfl, rfl⟩
  · have i1 : isLet b = true := (by first | exact (isLet_iff b).2 (by omega) | exact bfalse (isLet_iff b) (by omega))
    have i2 : isDig b = false := (by first | exact (isDig_iff b).2 (by omega) | exact bfalse (isDig_iff b) (by omega))
    have i3 : isQu b = false := (by first | exact (isQu_iff b).2 (by omega) | exact bfalse (isQu_iff b) (by omega))
    rw [i1]
    clear i1 i2 i3
    rw [hn]
    clear hn h256
    have g97 : (97 : Int) ≤ (n : Int) := by omega
    have g65 : (65 : Int) ≤ (n : Int) := by omega
    have g48 : (48 : Int) ≤ (n : Int) := by omega
    have l122 : (n : Int) ≤ 122 := by omega
    have l90 : ¬ (n : Int) ≤ 90 := by omega
    have l57 : ¬ (n : Int) ≤ 57 := by omega
    have e95 : ((n : Int) == 95) = false := by first | (rw [beq_iff_eq]; omega) | (rw [beq_eq_false_iff_ne]; omega)
    have e36 : ((n : Int) == 36) = false := by first | (rw [beq_iff_eq]; omega) | (rw [beq_eq_false_iff_ne]; omega)
    have e34 : ((n : Int) == 34) = false := by first | (rw [beq_iff_eq]; omega) | (rw [beq_eq_false_iff_ne]; omega)
    have e39 : ((n : Int) == 39) = false := by first | (rw [beq_iff_eq]; omega) | (rw [beq_eq_false_iff_ne]; omega)
    clear r1 r2
    go_enter Tryd.func59, Tryd.ntmps59
    go_wp2_with fail
    go_ret
    exact ⟨rfl, rfl⟩
  · have i1 : isLet b = false := (by first | exact (isLet_iff b).2 (by omega) | exact bfalse (isLet_iff b) (by omega))
    have i2 : isDig b = false := (by first | exact (isDig_iff b).2 (by omega) | exact bfalse (isDig_iff b) (by omega))
    have i3 : isQu b = false := (by first | exact (isQu_iff b).2 (by omega) | exact bfalse (isQu_iff b) (by omega))
    rw [i1]
    clear i1 i2 i3
    rw [hn]
    clear hn h256
    have g97 : (97 : Int) ≤ (n : Int) := by omega
    have g65 : (65 : Int) ≤ (n : Int) := by omega
    have g48 : (48 : Int) ≤ (n : Int) := by omega
    have l122 : ¬ (n : Int) ≤ 122 := by omega
    have l90 : ¬ (n : Int) ≤ 90 := by omega
    have l57 : ¬ (n : Int) ≤ 57 := by omega
    have e95 : ((n : Int) == 95) = false := by first | (rw [beq_iff_eq]; omega) | (rw [beq_eq_false_iff_ne]; omega)
    have e36 : ((n : Int) == 36) = false := by first | (rw [beq_iff_eq]; omega) | (rw [beq_eq_false_iff_ne]; omega)
    have e34 : ((n : Int) == 34) = false := by first | (rw [beq_iff_eq]; omega) | (rw [beq_eq_false_iff_ne]; omega)
    have e39 : ((n : Int) == 39) = false := by first | (rw [beq_iff_eq]; omega) | (rw [beq_eq_false_iff_ne]; omega)
    clear r1 r2
    go_enter Tryd.func59, Tryd.ntmps59
    go_wp2_with fail
    go_ret
    exact ⟨rfl, rfl⟩

set_option maxHeartbeats 4000000 in
theorem digit_any (b : UInt8) (w : World) : Calls Tryd.prog 61 #[.int .u8 b.toNat] w fun e w' => e = .returned (.bool (isDig b)) ∧ w = w' := by
  have h256 := b.toNat_lt
  obtain ⟨n, hn⟩ : ∃ n, b.toNat = n := ⟨_, rfl⟩
  rcases (show (0 ≤ n ∧ n ≤ 33) ∨ (34 ≤ n ∧ n ≤ 34) ∨ (35 ≤ n ∧ n ≤ 35) ∨ (36 ≤ n ∧ n ≤ 36) ∨ (37 ≤ n ∧ n ≤ 38) ∨ (39 ≤ n ∧ n ≤ 39) ∨ (40 ≤ n ∧ n ≤ 47) ∨ (48 ≤ n ∧ n ≤ 57) ∨ (58 ≤ n ∧ n ≤ 64) ∨ (65 ≤ n ∧ n ≤ 90) ∨ (91 ≤ n ∧ n ≤ 94) ∨ (95 ≤ n ∧ n ≤ 95) ∨ (96 ≤ n ∧ n ≤ 96) ∨ (97 ≤ n ∧ n ≤ 122) ∨ (123 ≤ n ∧ n ≤ 255) by omega) with ⟨r1, r2⟩ | ⟨r1, r2⟩ | ⟨r1, r2⟩ | ⟨r1, r2⟩ | ⟨r1, r2⟩ | ⟨r1, r2⟩ | ⟨r1, r2⟩ | ⟨r1, r2⟩ | ⟨r1, r2⟩ | ⟨r1, r2⟩ | ⟨r1, r2⟩ | ⟨r1, r2⟩ | ⟨r1, r2⟩ | ⟨r1, r2⟩ | ⟨r1, r2⟩
  · have i1 : isLet b = false := (by first | exact (isLet_iff b).2 (by omega) | exact bfalse (isLet_iff b) (by omega))
    have i2 : isDig b = false := (by first | exact (isDig_iff b).2 (by omega) | exact bfalse (isDig_iff b) (by omega))
    have i3 : isQu b = false := (by first | exact (isQu_iff b).2 (by omega) | exact bfalse (isQu_iff b) (by omega))
    rw [i2]
    clear i1 i2 i3
    rw [hn]
    clear hn h256
    have g97 : ¬ (97 : Int) ≤ (n : Int) := by omega
    have g65 : ¬ (65 : Int) ≤ (n : Int) := by omega
    have g48 : ¬ (48 : Int) ≤ (n : Int) := by omega
    have l122 : (n : Int) ≤ 122 := by omega
    have l90 : (n : Int) ≤ 90 := by omega
    have l57 : (n : Int) ≤ 57 := by omega
    have e95 : ((n : Int) == 95) = false := by first | (rw [beq_iff_eq]; omega) | (rw [beq_eq_false_iff_ne]; omega)
    have e36 : ((n : Int) == 36) = false := by first | (rw [beq_iff_eq]; omega) | (rw [beq_eq_false_iff_ne]; omega)
    have e34 : ((n : Int) == 34) = false := by first | (rw [beq_iff_eq]; omega) | (rw [beq_eq_false_iff_ne]; omega)
    have e39 : ((n : Int) == 39) = false := by first | (rw [beq_iff_eq]; omega) | (rw [beq_eq_false_iff_ne]; omega)
    clear r1 r2
    go_enter Tryd.func61, Tryd.ntmps61
    go_wp2_with fail
    go_ret
    exact ⟨rfl, rfl⟩
  · have i1 : isLet b = false := (by first | exact (isLet_iff b).2 (by omega) | exact bfalse (isLet_iff b) (by omega))
    have i2 : isDig b = false := (by first | exact (isDig_iff b).2 (by omega) | exact bfalse (isDig_iff b) (by omega))
    have i3 : isQu b = true := (by first | exact (isQu_iff b).2 (by omega) | exact bfalse (isQu_iff b) (by omega))
    rw [i2]
    clear i1 i2 i3
    rw [hn]
    clear hn h256
    have g97 : ¬ (97 : Int) ≤ (n : Int) := by omega
    have g65 : ¬ (65 : Int) ≤ (n : Int) := by omega
    have g48 : ¬ (48 : Int) ≤ (n : Int) := by omega
    have l122 : (n : Int) ≤ 122 := by omega
    have l90 : (n : Int) ≤ 90 := by omega
    have l57 : (n : Int) ≤ 57 := by omega
    have e95 : ((n : Int) == 95) = false := by first | (rw [beq_iff_eq]; omega) | (rw [beq_eq_false_iff_ne]; omega)
    have e36 : ((n : Int) == 36) = false := by first | (rw [beq_iff_eq]; omega) | (rw [beq_eq_false_iff_ne]; omega)
    have e34 : ((n : Int) == 34) = true := by first | (rw [beq_iff_eq]; omega) | (rw [beq_eq_false_iff_ne]; omega)
    have e39 : ((n : Int) == 39) = false := by first | (rw [beq_iff_eq]; omega) | (rw [beq_eq_false_iff_ne]; omega)
    clear r1 r2
    go_enter Tryd.func61, Tryd.ntmps61
    go_wp2_with fail
    go_ret
    exact ⟨rfl, rfl⟩
  · have i1 : isLet b = false := (by first | exact (isLet_iff b).2 (by omega) | exact bfalse (isLet_iff b) (by omega))
    have i2 : isDig b = false := (by first | exact (isDig_iff b).2 (by omega) | exact bfalse (isDig_iff b) (by omega))
    have i3 : isQu b = false := (by first | exact (isQu_iff b).2 (by omega) | exact bfalse (isQu_iff b) (by omega))
    rw [i2]
    clear i1 i2 i3
    rw [hn]
    clear hn h256
    have g97 : ¬ (97 : Int) ≤ (n : Int) := by omega
    have g65 : ¬ (65 : Int) ≤ (n : Int) := by omega
    have g48 : ¬ (48 : Int) ≤ (n : Int) := by omega
    have l122 : (n : Int) ≤ 122 := by omega
    have l90 : (n : Int) ≤ 90 := by omega
    have l57 : (n : Int) ≤ 57 := by omega
    have e95 : ((n : Int) == 95) = false := by first | (rw [beq_iff_eq]; omega) | (rw [beq_eq_false_iff_ne]; omega)
    have e36 : ((n : Int) == 36) = false := by first | (rw [beq_iff_eq]; omega) | (rw [beq_eq_false_iff_ne]; omega)
    have e34 : ((n : Int) == 34) = false := by first | (rw [beq_iff_eq]; omega) | (rw [beq_eq_false_iff_ne]; omega)
    have e39 : ((n : Int) == 39) = false := by first | (rw [beq_iff_eq]; omega) | (rw [beq_eq_false_iff_ne]; omega)
    clear r1 r2
    go_enter Tryd.func61, Tryd.ntmps61
    go_wp2_with fail
    go_ret
    exact ⟨rfl, rfl⟩
  · have i1 : isLet b = true := (by first | exact (isLet_iff b).2 (by omega) | exact bfalse (isLet_iff b) (by omega))
    have i2 : isDig b = false := (by first | exact (isDig_iff b).2 (by omega) | exact bfalse (isDig_iff b) (by omega))
    have i3 : isQu b = false := (by first | exact (isQu_iff b).2 (by omega) | exact bfalse (isQu_iff b) (by omega))
    rw [i2]
    clear i1 i2 i3
    rw [hn]
    clear hn h256
    have g97 : ¬ (97 : Int) ≤ (n : Int) := by omega
    have g65 : ¬ (65 : Int) ≤ (n : Int) := by omega
    have g48 : ¬ (48 : Int) ≤ (n : Int) := by omega
    have l122 : (n : Int) ≤ 122 := by omega
    have l90 : (n : Int) ≤ 90 := by omega
    have l57 : (n : Int) ≤ 57 := by omega
    have e95 : ((n : Int) == 95) = false := by first | (rw [beq_iff_eq]; omega) | (rw [beq_eq_false_iff_ne]; omega)
    have e36 : ((n : Int) == 36) = true := by first | (rw [beq_iff_eq]; omega) | (rw [beq_eq_false_iff_ne]; omega)
    have e34 : ((n : Int) == 34) = false := by first | (rw [beq_iff_eq]; omega) | (rw [beq_eq_false_iff_ne]; omega)
    have e39 : ((n : Int) == 39) = false := by first | (rw [beq_iff_eq]; omega) | (rw [beq_eq_false_iff_ne]; omega)
    clear r1 r2
    go_enter Tryd.func61, Tryd.ntmps61
    go_wp2_with fail
    go_ret
    exact ⟨rfl, rfl⟩
  · have i1 : isLet b = false := (by first | exact (isLet_iff b).2 (by omega) | exact bfalse (isLet_iff b) (by omega))
    have i2 : isDig b = false := (by first | exact (isDig_iff b).2 (by omega) | exact bfalse (isDig_iff b) (by omega))
    have i3 : isQu b = false := (by first | exact (isQu_iff b).2 (by omega) | exact bfalse (isQu_iff b) (by omega))
    rw [i2]
    clear i1 i2 i3
    rw [hn]
    clear hn h256
    have g97 : ¬ (97 : Int) ≤ (n : Int) := by omega
    have g65 : ¬ (65 : Int) ≤ (n : Int) := by omega
    have g48 : ¬ (48 : Int) ≤ (n : Int) := by omega
    have l122 : (n : Int) ≤ 122 := by omega
    have l90 : (n : Int) ≤ 90 := by omega
    have l57 : (n : Int) ≤ 57 := by omega
    have e95 : ((n : Int) == 95) = false := by first | (rw [beq_iff_eq]; omega) | (rw [beq_eq_false_iff_ne]; omega)
    have e36 : ((n : Int) == 36) = false := by first | (rw [beq_iff_eq]; omega) | (rw [beq_eq_false_iff_ne]; omega)
    have e34 : ((n : Int) == 34) = false := by first | (rw [beq_iff_eq]; omega) | (rw [beq_eq_false_iff_ne]; omega)
    have e39 : ((n : Int) == 39) = false := by first | (rw [beq_iff_eq]; omega) | (rw [beq_eq_false_iff_ne]; omega)
    clear r1 r2
    go_enter Tryd.func61, Tryd.ntmps61
    go_wp2_with fail
    go_ret
    exact ⟨rfl, rfl⟩
  · have i1 : isLet b = false := (by first | exact (isLet_iff b).2 (by omega) | exact bfalse (isLet_iff b) (by omega))
    have i2 : isDig b = false := (by first | exact (isDig_iff b).2 (by omega) | exact bfalse (isDig_iff b) (by omega))
    have i3 : isQu b = true := (by first | exact (isQu_iff b).2 (by omega) | exact bfalse (isQu_iff b) (by omega))
    rw [i2]
    clear i1 i2 i3
    rw [hn]
    clear hn h256
    have g97 : ¬ (97 : Int) ≤ (n : Int) := by omega
    have g65 : ¬ (65 : Int) ≤ (n : Int) := by omega
    have g48 : ¬ (48 : Int) ≤ (n : Int) := by omega
    have l122 : (n : Int) ≤ 122 := by omega
    have l90 : (n : Int) ≤ 90 := by omega
    have l57 : (n : Int) ≤ 57 := by omega
    have e95 : ((n : Int) == 95) = false := by first | (rw [beq_iff_eq]; omega) | (rw [beq_eq_false_iff_ne]; omega)
    have e36 : ((n : Int) == 36) = false := by first | (rw [beq_iff_eq]; omega) | (rw [beq_eq_false_iff_ne]; omega)
    have e34 : ((n : Int) == 34) = false := by first | (rw [beq_iff_eq]; omega) | (rw [beq_eq_false_iff_ne]; omega)
    have e39 : ((n : Int) == 39) = true := by first | (rw [beq_iff_eq]; omega) | (rw [beq_eq_false_iff_ne]; omega)
    clear r1 r2
    go_enter Tryd.func61, Tryd.ntmps61
    go_wp2_with fail
    go_ret
    exact ⟨rfl, rfl⟩
  · have i1 : isLet b = false := (by first | exact (isLet_iff b).2 (by omega) | exact bfalse (isLet_iff b) (by omega))
    have i2 : isDig b = false := (by first | exact (isDig_iff b).2 (by omega) | exact bfalse (isDig_iff b) (by omega))
    have i3 : isQu b = false := (by first | exact (isQu_iff b).2 (by omega) | exact bfalse (isQu_iff b) (by omega))
    rw [i2]
    clear i1 i2 i3
    rw [hn]
    clear hn h256
    have g97 : ¬ (97 : Int) ≤ (n : Int) := by omega
    have g65 : ¬ (65 : Int) ≤ (n : Int) := by omega
    have g48 : ¬ (48 : Int) ≤ (n : Int) := by omega
    have l122 : (n : Int) ≤ 122 := by omega
    have l90 : (n : Int) ≤ 90 := by omega
    have l57 : (n : Int) ≤ 57 := by omega
    have e95 : ((n : Int) == 95) = false := by first | (rw [beq_iff_eq]; omega) | (rw [beq_eq_false_iff_ne]; omega)
    have e36 : ((n : Int) == 36) = false := by first | (rw [beq_iff_eq]; omega) | (rw [beq_eq_false_iff_ne]; omega)
    have e34 : ((n : Int) == 34) = false := by first | (rw [beq_iff_eq]; omega) | (rw [beq_eq_false_iff_ne]; omega)
    have e39 : ((n : Int) == 39) = false := by first | (rw [beq_iff_eq]; omega) | (rw [beq_eq_false_iff_ne]; omega)
    clear r1 r2
    go_enter Tryd.func61, Tryd.ntmps61
    go_wp2_with fail
    go_ret
    exact ⟨rfl, rfl⟩
  · have i1 : isLet b = false := (by first | exact (isLet_iff b).2 (by omega) | exact bfalse (isLet_iff b) (by omega))
    have i2 : isDig b = true := (by first | exact (isDig_iff b).2 (by omega) | exact bfalse (isDig_iff b) (by omega))
    have i3 : isQu b = false := (by first | exact (isQu_iff b).2 (by omega) | exact bfalse (isQu_iff b) (by omega))
    rw [i2]
    clear i1 i2 i3
    rw [hn]
    clear hn h256
    have g97 : ¬ (97 : Int) ≤ (n : Int) := by omega
    have g65 : ¬ (65 : Int) ≤ (n : Int) := by omega
    have g48 : (48 : Int) ≤ (n : Int) := by omega
    have l122 : (n : Int) ≤ 122 := by omega
    have l90 : (n : Int) ≤ 90 := by omega
    have l57 : (n : Int) ≤ 57 := by omega
    have e95 : ((n : Int) == 95) = false := by first | (rw [beq_iff_eq]; omega) | (rw [beq_eq_false_iff_ne]; omega)
    have e36 : ((n : Int) == 36) = false := by first | (rw [beq_iff_eq]; omega) | (rw [beq_eq_false_iff_ne]; omega)
    have e34 : ((n : Int) == 34) = false := by first | (rw [beq_iff_eq]; omega) | (rw [beq_eq_false_iff_ne]; omega)
    have e39 : ((n : Int) == 39) = false := by first | (rw [beq_iff_eq]; omega) | (rw [beq_eq_false_iff_ne]; omega)
    clear r1 r2
    go_enter Tryd.func61, Tryd.ntmps61
    go_wp2_with fail
    go_ret
    exact ⟨rfl, rfl⟩
  · have i1 : isLet b = false := (by first | exact (isLet_iff b).2 (by omega) | exact bfalse (isLet_iff b) (by omega))
    have i2 : isDig b = false := (by first | exact (isDig_iff b).2 (by omega) | exact bfalse (isDig_iff b) (by omega))
    have i3 : isQu b = false := (by first | exact (isQu_iff b).2 (by omega) | exact bfalse (isQu_iff b) (by omega))
    rw [i2]
    clear i1 i2 i3
    rw [hn]
    clear hn h256
    have g97 : ¬ (97 : Int) ≤ (n : Int) := by omega
    have g65 : ¬ (65 : Int) ≤ (n : Int) := by omega
    have g48 : (48 : Int) ≤ (n : Int) := by omega
    have l122 : (n : Int) ≤ 122 := by omega
    have l90 : (n : Int) ≤ 90 := by omega
    have l57 : ¬ (n : Int) ≤ 57 := by omega
    have e95 : ((n : Int) == 95) = false := by first | (rw [beq_iff_eq]; omega) | (rw [beq_eq_false_iff_ne]; omega)
    have e36 : ((n : Int) == 36) = false := by first | (rw [beq_iff_eq]; omega) | (rw [beq_eq_false_iff_ne]; omega)
    have e34 : ((n : Int) == 34) = false := by first | (rw [beq_iff_eq]; omega) | (rw [beq_eq_false_iff_ne]; omega)
    have e39 : ((n : Int) == 39) = false := by first | (rw [beq_iff_eq]; omega) | (rw [beq_eq_false_iff_ne]; omega)
    clear r1 r2
    go_enter Tryd.func61, Tryd.ntmps61
    go_wp2_with fail
    go_ret
    exact ⟨rfl, rfl⟩
  · have i1 : isLet b = true := (by first | exact (isLet_iff b).2 (by omega) | exact bfalse (isLet_iff b) (by omega))
    have i2 : isDig b = false := (by first | exact (isDig_iff b).2 (by omega) | exact bfalse (isDig_iff b) (by omega))
    have i3 : isQu b = false := (by first | exact (isQu_iff b).2 (by omega) | exact bfalse (isQu_iff b) (by omega))
    rw [i2]
    clear i1 i2 i3
    rw [hn]
    clear hn h256
    have g97 : ¬ (97 : Int) ≤ (n : Int) := by omega
    have g65 : (65 : Int) ≤ (n : Int) := by omega
    have g48 : (48 : Int) ≤ (n : Int) := by omega
    have l122 : (n : Int) ≤ 122 := by omega
    have l90 : (n : Int) ≤ 90 := by omega
    have l57 : ¬ (n : Int) ≤ 57 := by omega
    have e95 : ((n : Int) == 95) = false := by first | (rw [beq_iff_eq]; omega) | (rw [beq_eq_false_iff_ne]; omega)
    have e36 : ((n : Int) == 36) = false := by first | (rw [beq_iff_eq]; omega) | (rw [beq_eq_false_iff_ne]; omega)
    have e34 : ((n : Int) == 34) = false := by first | (rw [beq_iff_eq]; omega) | (rw [beq_eq_false_iff_ne]; omega)
    have e39 : ((n : Int) == 39) = false := by first | (rw [beq_iff_eq]; omega) | (rw [beq_eq_false_iff_ne]; omega)
    clear r1 r2
    go_enter Tryd.func61, Tryd.ntmps61
    go_wp2_with fail
    go_ret
    exact ⟨rfl, rfl⟩
  · have i1 : isLet b = false := (by first | exact (isLet_iff b).2 (by omega) | exact bfalse (isLet_iff b) (by omega))
    have i2 : isDig b = false := (by first | exact (isDig_iff b).2 (by omega) | exact bfalse (isDig_iff b) (by omega))
    have i3 : isQu b = false := (by first | exact (isQu_iff b).2 (by omega) | exact bfalse (isQu_iff b) (by omega))
    rw [i2]
    clear i1 i2 i3
    rw [hn]
    clear hn h256
    have g97 : ¬ (97 : Int) ≤ (n : Int) := by omega
    have g65 : (65 : Int) ≤ (n : Int) := by omega
    have g48 : (48 : Int) ≤ (n : Int) := by omega
    have l122 : (n : Int) ≤ 122 := by omega
    have l90 : ¬ (n : Int) ≤ 90 := by omega
    have l57 : ¬ (n : Int) ≤ 57 := by omega
    have e95 : ((n : Int) == 95) = false := by first | (rw [beq_iff_eq]; omega) | (rw [beq_eq_false_iff_ne]; omega)
    have e36 : ((n : Int) == 36) = false := by first | (rw [beq_iff_eq]; omega) | (rw [beq_eq_false_iff_ne]; omega)
    have e34 : ((n : Int) == 34) = false := by first | (rw [beq_iff_eq]; omega) | (rw [beq_eq_false_iff_ne]; omega)
    have e39 : ((n : Int) == 39) = false := by first | (rw [beq_iff_eq]; omega) | (rw [beq_eq_false_iff_ne]; omega)
    clear r1 r2
    go_enter Tryd.func61, Tryd.ntmps61
    go_wp2_with fail
    go_ret
    exact ⟨rfl, rfl⟩
  · have i1 : isLet b = true := (by first | exact (isLet_iff b).2 (by omega) | exact bfalse (isLet_iff b) (by omega))
    have i2 : isDig b = false := (by first | exact (isDig_iff b).2 (by omega) | exact bfalse (isDig_iff b) (by omega))
    have i3 : isQu b = false := (by first | exact (isQu_iff b).2 (by omega) | exact bfalse (isQu_iff b) (by omega))
    rw [i2]
    clear i1 i2 i3
    rw [hn]
    clear hn h256
    have g97 : ¬ (97 : Int) ≤ (n : Int) := by omega
    have g65 : (65 : Int) ≤ (n : Int) := by omega
    have g48 : (48 : Int) ≤ (n : Int) := by omega
    have l122 : (n : Int) ≤ 122 := by omega
    have l90 : ¬ (n : Int) ≤ 90 := by omega
    have l57 : ¬ (n : Int) ≤ 57 := by omega
    have e95 : ((n : Int) == 95) = true := by first | (rw [beq_iff_eq]; omega) | (rw [beq_eq_false_iff_ne]; omega)
    have e36 : ((n : Int) == 36) = false := by first | (rw [beq_iff_eq]; omega) | (rw [beq_eq_false_iff_ne]; omega)
    have e34 : ((n : Int) == 34) = false := by first | (rw [beq_iff_eq]; omega) | (rw [beq_eq_false_iff_ne]; omega)
    have e39 : ((n : Int) == 39) = false := by first | (rw [beq_iff_eq]; omega) | (rw [beq_eq_false_iff_ne]; omega)
    clear r1 r2
    go_enter Tryd.func61, Tryd.ntmps61
    go_wp2_with fail
    go_ret
    exact ⟨rfl, rfl⟩
  · have i1 : isLet b = false := (by first | exact (isLet_iff b).2 (by omega) | exact bfalse (isLet_iff b) (by omega))
    have i2 : isDig b = false := (by first | exact (isDig_iff b).2 (by omega) | exact bfalse (isDig_iff b) (by omega))
    have i3 : isQu b = false := (by first | exact (isQu_iff b).2 (by omega) | exact bfalse (isQu_iff b) (by omega))
    rw [i2]
    clear i1 i2 i3
    rw [hn]
    clear hn h256
    have g97 : ¬ (97 : Int) ≤ (n : Int) := by omega
    have g65 : (65 : Int) ≤ (n : Int) := by omega
    have g48 : (48 : Int) ≤ (n : Int) := by omega
    have l122 : (n : Int) ≤ 122 := by omega
    have l90 : ¬ (n : Int) ≤ 90 := by omega
    have l57 : ¬ (n : Int) ≤ 57 := by omega
    have e95 : ((n : Int) == 95) = false := by first | (rw [beq_iff_eq]; omega) | (rw [beq_eq_false_iff_ne]; omega)
    have e36 : ((n : Int) == 36) = false := by first | (rw [beq_iff_eq]; omega) | (rw [beq_eq_false_iff_ne]; omega)
    have e34 : ((n : Int) == 34) = false := by first | (rw [beq_iff_eq]; omega) | (rw [beq_eq_false_iff_ne]; omega)
    have e39 : ((n : Int) == 39) = false := by first | (rw [beq_iff_eq]; omega) | (rw [beq_eq_false_iff_ne]; omega)
    clear r1 r2
    go_enter Tryd.func61, Tryd.ntmps61
    go_wp2_with fail
    go_ret
    exact ⟨rfl, rfl⟩
  · have i1 : isLet b = true := (by first | exact (isLet_iff b).2 (by omega) | exact bfalse (isLet_iff b) (by omega))
    have i2 : isDig b = false := (by first | exact (isDig_iff b).2 (by omega) | exact bfalse (isDig_iff b) (by omega))
    have i3 : isQu b = false := (by first | exact (isQu_iff b).2 (by omega) | exact bfalse (isQu_iff b) (by omega))
    rw [i2]
    clear i1 i2 i3
    rw [hn]
    clear hn h256
    have g97 : (97 : Int) ≤ (n : Int) := by omega
    have g65 : (65 : Int) ≤ (n : Int) := by omega
    have g48 : (48 : Int) ≤ (n : Int) := by omega
    have l122 : (n : Int) ≤ 122 := by omega
    have l90 : ¬ (n : Int) ≤ 90 := by omega
    have l57 : ¬ (n : Int) ≤ 57 := by omega
    have e95 : ((n : Int) == 95) = false := by first | (rw [beq_iff_eq]; omega) | (rw [beq_eq_false_iff_ne]; omega)
    have e36 : ((n : Int) == 36) = false := by first | (rw [beq_iff_eq]; omega) | (rw [beq_eq_false_iff_ne]; omega)
    have e34 : ((n : Int) == 34) = false := by first | (rw [beq_iff_eq]; omega) | (rw [beq_eq_false_iff_ne]; omega)
    have e39 : ((n : Int) == 39) = false := by first | (rw [beq_iff_eq]; omega) | (rw [beq_eq_false_iff_ne]; omega)
    clear r1 r2
    go_enter Tryd.func61, Tryd.ntmps61
    go_wp2_with fail
    go_ret
    exact ⟨rfl, rfl⟩
  · have i1 : isLet b = false := (by first | exact (isLet_iff b).2 (by omega) | exact bfalse (isLet_iff b) (by omega))
    have i2 : isDig b = false := (by first | exact (isDig_iff b).2 (by omega) | exact bfalse (isDig_iff b) (by omega))
    have i3 : isQu b = false := (by first | exact (isQu_iff b).2 (by omega) | exact bfalse (isQu_iff b) (by omega))
    rw [i2]
    clear i1 i2 i3
    rw [hn]
    clear hn h256
    have g97 : (97 : Int) ≤ (n : Int) := by omega
    have g65 : (65 : Int) ≤ (n : Int) := by omega
    have g48 : (48 : Int) ≤ (n : Int) := by omega
    have l122 : ¬ (n : Int) ≤ 122 := by omega
    have l90 : ¬ (n : Int) ≤ 90 := by omega
    have l57 : ¬ (n : Int) ≤ 57 := by omega
    have e95 : ((n : Int) == 95) = false := by first | (rw [beq_iff_eq]; omega) | (rw [beq_eq_false_iff_ne]; omega)
    have e36 : ((n : Int) == 36) = false := by first | (rw [beq_iff_eq]; omega) | (rw [beq_eq_false_iff_ne]; omega)
    have e34 : ((n : Int) == 34) = false := by first | (rw [beq_iff_eq]; omega) | (rw [beq_eq_false_iff_ne]; omega)
    have e39 : ((n : Int) == 39) = false := by first | (rw [beq_iff_eq]; omega) | (rw [beq_eq_false_iff_ne]; omega)
    clear r1 r2
    go_enter Tryd.func61, Tryd.ntmps61
    go_wp2_with fail
    go_ret
    exact ⟨rfl, rfl⟩

end Go.Proofs.YtkomjmgmancinaaDoor
