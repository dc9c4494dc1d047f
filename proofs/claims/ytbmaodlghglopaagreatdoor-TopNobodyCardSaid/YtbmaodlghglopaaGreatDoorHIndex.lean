/-
  The index that a key is.
-/
import Derived.Test.YtbmaodlghglopaaGreatDoorHeap1
namespace Go.Proofs.YtbmaodlghglopaaGreatDoor
open Go.RowKit

/-- The number that digits write. -/
def numB : List UInt8 → Nat → Option Nat
  | [], n => some n
  | c :: r, n => if c.toNat < 48 ∨ 57 < c.toNat then none else numB r (n * 10 + (c.toNat - 48))
def capN : Option Nat → Option Nat
  | some n => if 1024 ≤ n then none else some n
  | none => none
def idxK (k : KI) : Option Nat := if 0 < k.n ∨ k.s.size = 0 ∨ 4 < k.s.size ∨ (1 < k.s.size ∧ k.s.data.toList.head? = some 48) then none else
  capN (numB k.s.data.toList 0)
def idxN (k : KI) : Int := match idxK k with | some n => n | none => 0
theorem numB_step (s : ByteArray) (k m : Nat) (h : k < s.size) : numB (s.data.toList.drop k) m = if (s[k]'h).toNat < 48 ∨ 57 < (s[k]'h).toNat then none else numB (s.data.toList.drop (k + 1)) (m * 10 + ((s[k]'h).toNat - 48)) := by
  rw [List.drop_eq_getElem_cons (by simpa using h), numB]; rfl
theorem idx_none {k : KI} (h : 0 < k.n ∨ k.s.size = 0 ∨ 4 < k.s.size ∨ (1 < k.s.size ∧ k.s.data.toList.head? = some 48)) : idxK k = none := if_pos h
theorem idx_num {k : KI} (h : ¬ (0 < k.n ∨ k.s.size = 0 ∨ 4 < k.s.size ∨ (1 < k.s.size ∧ k.s.data.toList.head? = some 48))) {o : Option Nat} (ho : numB k.s.data.toList 0 = o) : idxK k = capN o := by
  subst ho
  unfold idxK
  rw [if_neg h]
theorem head_at {s : ByteArray} (h : 0 < s.size) : s.data.toList.head? = some (s[0]'h) := by
  rw [List.head?_eq_getElem?, List.getElem?_eq_getElem (by simpa using h)]; rfl

set_option maxHeartbeats 8000000 in
set_option maxRecDepth 100000 in
theorem index_any (k : KI) (hs : k.s.size ≤ maxLen) (w : World) : Calls Tryz.prog 100 #[k.a] w fun e w' => e = .returned (.tuple #[.int .i64 (idxN k), .bool (idxK k).isSome]) ∧ Below w.heap.size w w' := by
  unfold maxLen at hs
  have X := hidB (show Bk (w.alloc (.cells (k.cells.toArray) 26)) (w.heap.size) 26 (k.cells.toArray) from Bk.new w _ _)
  have B := hidB (show Below w.heap.size w (w.alloc (.cells (k.cells.toArray) 26)) from box_one w _)
  go_enter Tryz.func100, Tryz.ntmps100
  go_upto_region 1 with fail
  generalize hW : (w.alloc (.cells (k.cells.toArray) 26)) = w1 at *
  clear hW
  have x0 : w1.cell? ⟨w.heap.size, 0, none⟩ = some (.string k.s) := X.out.cell 0
  have x1 : w1.cell? ⟨w.heap.size, 1, none⟩ = some (.int .i64 k.n) := X.out.cell 1
  by_cases hn : 0 < k.n
  · have HN := hidB hn
    have HK := hidB (show idxK k = none from idx_none (.inl HN.out))
    go_wp2_with fail
    go_ret2
    exact ⟨by unfold idxN; rw [HK.out]; rfl, B.out⟩
  by_cases he : k.s.size = 0
  · have HE := hidB he
    have e1 : k.s.toList.isEmpty = true := (empty_size k.s).2 he
    have e2 : (k.s.toList == []) = true := by rw [beq_iff_eq]; exact List.isEmpty_iff.1 e1
    clear he
    have HK := hidB (show idxK k = none from idx_none (.inr (.inl HE.out)))
    go_wp2_with fail
    go_ret2
    exact ⟨by unfold idxN; rw [HK.out]; rfl, B.out⟩
  have e1 : k.s.toList.isEmpty = false := by rw [Bool.eq_false_iff]; exact fun h => he ((empty_size k.s).1 h)
  have e2 : (k.s.toList == []) = false := by rw [beq_eq_false_iff_ne]; intro h; rw [h] at e1; cases e1
  have h0 : 0 < k.s.size := by omega
  have h0i : (0 : Int) < (k.s.size : Int) := by omega
  by_cases h4 : 4 < k.s.size
  · have H4 := hidB h4
    have h4i : (4 : Int) < (k.s.size : Int) := by omega
    have HK := hidB (show idxK k = none from idx_none (.inr (.inr (.inl H4.out))))
    go_wp2_with fail
    go_ret2
    exact ⟨by unfold idxN; rw [HK.out]; rfl, B.out⟩
  have h4i : ¬ (4 : Int) < (k.s.size : Int) := by omega
  by_cases h1 : 1 < k.s.size ∧ (k.s[0]'h0).toNat = 48
  · have h1i : (1 : Int) < (k.s.size : Int) := by omega
    have HD := hidB (show 1 < k.s.size ∧ k.s.data.toList.head? = some 48 from ⟨h1.1, by rw [head_at h0]; exact congrArg some (UInt8.toNat_inj.1 h1.2)⟩)
    have c0 : (((k.s[0]'h0).toNat : Int) == 48) = true := by rw [beq_iff_eq]; exact_mod_cast h1.2
    have c1 : ((k.s[0]'h0).toNat : Int) = 48 := by exact_mod_cast h1.2
    clear h1
    have HK := hidB (show idxK k = none from idx_none (.inr (.inr (.inr HD.out))))
    go_wp2_with fail
    go_ret2
    exact ⟨by unfold idxN; rw [HK.out]; rfl, B.out⟩
  have HNO := hidB (show ¬ (0 < k.n ∨ k.s.size = 0 ∨ 4 < k.s.size ∨ (1 < k.s.size ∧ k.s.data.toList.head? = some 48)) from fun h => by
    rcases h with h | h | h | ⟨h2, h3⟩
    · exact hn h
    · exact he h
    · exact h4 h
    · rw [head_at h0] at h3; exact h1 ⟨h2, by rw [Option.some.inj h3]; rfl⟩)
  have H4 := hidB (show k.s.size ≤ 4 by omega)
  have HC0 : Hid (1 < k.s.size → ¬ ((k.s[0]'h0).toNat : Int) = 48) := hidB (fun h2 h3 => h1 ⟨h2, by exact_mod_cast h3⟩)
  clear h1 h4 he
  by_cases h1 : 1 < k.s.size
  all_goals
    first
      | (have h1i : (1 : Int) < (k.s.size : Int) := by omega)
      | (have h1i : ¬ (1 : Int) < (k.s.size : Int) := by omega)
    try (have c1 := HC0.out h1; have c0 : (((k.s[0]'h0).toNat : Int) == 48) = false := by rw [beq_eq_false_iff_ne]; exact c1)
    clear HC0 h1
    go_wp2_with fail
    try clear c0 c1
    clear h0i h4i h1i e1 e2 x1
    go_loop [4, 35] (fun s4 s35 => ∃ i m : Nat, i ≤ k.s.size ∧ s35 = .int .i64 i ∧ s4 = .int .i64 m ∧ m < 10 ^ i ∧ numB (k.s.data.toList.drop i) m = numB k.s.data.toList 0) (fun _ i => k.s.size - (intOf i).toNat)
    case atStart => exact ⟨0, 0, by omega, rfl, rfl, by decide, rfl⟩
    case round =>
      obtain ⟨i, m, hi, rfl, rfl, hm, hnb⟩ := hrel
      have HNB := hidB hnb
      clear hnb
      have hm4 : m < 10000 := Nat.lt_of_lt_of_le hm (Nat.le_trans (Nat.pow_le_pow_right (by decide) (Nat.le_trans hi H4.out)) (by decide))
      have HM := hidB hm
      clear hm
      have hx2 : (0 : Int) ≤ (i : Int) := by omega
      by_cases hlt : i < k.s.size
      rotate_left
      · obtain rfl : i = k.s.size := by omega
        have hx4 : ¬ ((k.s.size : Int) < (k.s.size : Int)) := by omega
        have HV := hidB (show numB k.s.data.toList 0 = some m by rw [← HNB.out, List.drop_eq_nil_of_le (by simp)]; rfl)
        by_cases hbig : 1024 ≤ m
        · have hb1 : (1024 : Int) ≤ (m : Int) := by omega
          have HK := hidB (show idxK k = none by rw [idx_num HNO.out HV.out]; exact if_pos hbig)
          clear hbig
          go_wp2_with fail
          go_ret2
          exact ⟨by unfold idxN; rw [HK.out]; rfl, B.out⟩
        · have hb1 : ¬ (1024 : Int) ≤ (m : Int) := by omega
          have HK := hidB (show idxK k = some m by rw [idx_num HNO.out HV.out]; exact if_neg hbig)
          clear hbig
          go_wp2_with fail
          go_ret2
          exact ⟨by unfold idxN; rw [HK.out]; rfl, B.out⟩
      have hx1 : (i : Int) < (k.s.size : Int) := by omega
      have HST := hidB (numB_step k.s i m hlt)
      have hc8 : (k.s[i]'hlt).toNat < 256 := UInt8.toNat_lt _
      by_cases hc1 : (k.s[i]'hlt).toNat < 48
      · have hc2 : ((k.s[i]'hlt).toNat : Int) < 48 := by omega
        have HC := hidB (show (k.s[i]'hlt).toNat < 48 ∨ 57 < (k.s[i]'hlt).toNat from .inl hc1)
        clear hc1
        have HK := hidB (show idxK k = none by rw [idx_num HNO.out (o := none) (by rw [← HNB.out, HST.out]; exact if_pos HC.out)]; rfl)
        go_wp2_with fail
        go_ret2
        exact ⟨by unfold idxN; rw [HK.out]; rfl, B.out⟩
      have hc2 : ¬ ((k.s[i]'hlt).toNat : Int) < 48 := by omega
      by_cases hc3 : 57 < (k.s[i]'hlt).toNat
      · have hc4 : (57 : Int) < ((k.s[i]'hlt).toNat : Int) := by omega
        have HC := hidB (show (k.s[i]'hlt).toNat < 48 ∨ 57 < (k.s[i]'hlt).toNat from .inr hc3)
        clear hc3 hc1
        have HK := hidB (show idxK k = none by rw [idx_num HNO.out (o := none) (by rw [← HNB.out, HST.out]; exact if_pos HC.out)]; rfl)
        go_wp2_with fail
        go_ret2
        exact ⟨by unfold idxN; rw [HK.out]; rfl, B.out⟩
      have hc4 : ¬ (57 : Int) < ((k.s[i]'hlt).toNat : Int) := by omega
      have hc5 : (48 : Int) ≤ ((k.s[i]'hlt).toNat : Int) := by omega
      have hc6 : ((k.s[i]'hlt).toNat : Int) ≤ 57 := by omega
      have HN2 := hidB (show numB (k.s.data.toList.drop (i + 1)) (m * 10 + ((k.s[i]'hlt).toNat - 48)) = numB k.s.data.toList 0 by rw [← HNB.out, HST.out, if_neg (by omega)])
      have HPW := hidB (show m * 10 + ((k.s[i]'hlt).toNat - 48) < 10 ^ (i + 1) by have := HM.out; rw [Nat.pow_succ]; omega)
      have HEQ := hidB (show ((m * 10 + ((k.s[i]'hlt).toNat - 48) : Nat) : Int) = (m : Int) * 10 + (((k.s[i]'hlt).toNat : Int) - 48) by omega)
      have hm5 : (m : Int) < 10000 := by omega
      have hm6 : (0 : Int) ≤ (m : Int) := by omega
      clear HST HNB hc1 hc3 hc8 hm4
      go_wp2_with fail
      go_round
      case rel => exact ⟨i + 1, _, by omega, by go_num, by rw [HEQ.out], HPW.out, HN2.out⟩
      case measure => simp [intOf]; omega

end Go.Proofs.YtbmaodlghglopaaGreatDoor
