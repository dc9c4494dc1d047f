/-
  The index that a key is.
  The reference's Tens.
  The index that a key is, as the reference finds it: plainly.
-/
import Derived.Test.YtnidamkgfgddfaaGreatHeap1
import Derived.Test.YtnidamkgfgddfaaGreatMxF
import Derived.Lib.ItoaNum
import Derived.Lib.ItoaLen
import Derived.IntWalk
namespace Go.Proofs.YtnidamkgfgddfaaGreat
open Go.RowKit

/-- The number that digits write. -/
def numB : List UInt8 → Nat → Option Nat
  | [], n => some n
  | c :: r, n => if c.toNat < 48 ∨ 57 < c.toNat then none else numB r (n * 10 + (c.toNat - 48))
def capN : Option Nat → Option Nat
  | some n => if 1024 ≤ n then none else some n
  | none => none
def idxK (k : KI) : Option Nat := if 0 < k.n ∨ k.s.size = 0 ∨ 4 < k.s.size ∨ (1 < k.s.size ∧ k.s.data.toList.head? = some 48) then none else
  capN (numB k.s.data.toList 0)
def idxN (k : KI) : Int := match idxK k with | some n => n | none => 0
theorem numB_step (s : ByteArray) (k m : Nat) (h : k < s.size) : numB (s.data.toList.drop k) m = if (s[k]'h).toNat < 48 ∨ 57 < (s[k]'h).toNat then none else numB (s.data.toList.drop (k + 1)) (m * 10 + ((s[k]'h).toNat - 48)) := by
  rw [List.drop_eq_getElem_cons (by simpa using h), numB]; rfl
theorem idx_none {k : KI} (h : 0 < k.n ∨ k.s.size = 0 ∨ 4 < k.s.size ∨ (1 < k.s.size ∧ k.s.data.toList.head? = some 48)) : idxK k = none := if_pos h
theorem idx_num {k : KI} (h : ¬ (0 < k.n ∨ k.s.size = 0 ∨ 4 < k.s.size ∨ (1 < k.s.size ∧ k.s.data.toList.head? = some 48))) {o : Option Nat} (ho : numB k.s.data.toList 0 = o) : idxK k = capN o := by
  subst ho
  unfold idxK
  rw [if_neg h]
theorem head_at {s : ByteArray} (h : 0 < s.size) : s.data.toList.head? = some (s[0]'h) := by
  rw [List.head?_eq_getElem?, List.getElem?_eq_getElem (by simpa using h)]; rfl

set_option maxHeartbeats 8000000 in
set_option maxRecDepth 100000 in
theorem index_any (k : KI) (hs : k.s.size ≤ maxLen) (w : World) : Calls Tryz.prog 68 #[k.a] w fun e w' => e = .returned (.tuple #[.int .i64 (idxN k), .bool (idxK k).isSome]) ∧ Below w.heap.size w w' := by
  unfold maxLen at hs
  have X := hidB (show Bk (w.alloc (.cells (k.cells.toArray) 66)) (w.heap.size) 66 (k.cells.toArray) from Bk.new w _ _)
  have B := hidB (show Below w.heap.size w (w.alloc (.cells (k.cells.toArray) 66)) from box_one w _)
  go_enter Tryz.func68, Tryz.ntmps68
  go_upto_region 1 with fail
  generalize hW : (w.alloc (.cells (k.cells.toArray) 66)) = w1 at *
  clear hW
  have x0 : w1.cell? ⟨w.heap.size, 0, none⟩ = some (.string k.s) := X.out.cell 0
  have x1 : w1.cell? ⟨w.heap.size, 1, none⟩ = some (.int .i64 k.n) := X.out.cell 1
  by_cases hn : 0 < k.n
  · have HN := hidB hn
    have HK := hidB (show idxK k = none from idx_none (.inl HN.out))
    go_wp2_with fail
    go_ret2
    exact ⟨by unfold idxN; rw [HK.out]; rfl, B.out⟩
  by_cases he : k.s.size = 0
  · have HE := hidB he
    have e1 : k.s.toList.isEmpty = true := (empty_size k.s).2 he
    have e2 : (k.s.toList == []) = true := by rw [beq_iff_eq]; exact List.isEmpty_iff.1 e1
    clear he
    have HK := hidB (show idxK k = none from idx_none (.inr (.inl HE.out)))
    go_wp2_with fail
    go_ret2
    exact ⟨by unfold idxN; rw [HK.out]; rfl, B.out⟩
  have e1 : k.s.toList.isEmpty = false := by rw [Bool.eq_false_iff]; exact fun h => he ((empty_size k.s).1 h)
  have e2 : (k.s.toList == []) = false := by rw [beq_eq_false_iff_ne]; intro h; rw [h] at e1; cases e1
  have h0 : 0 < k.s.size := by omega
  have h0i : (0 : Int) < (k.s.size : Int) := by omega
  by_cases h4 : 4 < k.s.size
  · have H4 := hidB h4
    have h4i : (4 : Int) < (k.s.size : Int) := by omega
    have HK := hidB (show idxK k = none from idx_none (.inr (.inr (.inl H4.out))))
    go_wp2_with fail
    go_ret2
    exact ⟨by unfold idxN; rw [HK.out]; rfl, B.out⟩
  have h4i : ¬ (4 : Int) < (k.s.size : Int) := by omega
  by_cases h1 : 1 < k.s.size ∧ (k.s[0]'h0).toNat = 48
  · have h1i : (1 : Int) < (k.s.size : Int) := by omega
    have HD := hidB (show 1 < k.s.size ∧ k.s.data.toList.head? = some 48 from ⟨h1.1, by rw [head_at h0]; exact congrArg some (UInt8.toNat_inj.1 h1.2)⟩)
    have c0 : (((k.s[0]'h0).toNat : Int) == 48) = true := by rw [beq_iff_eq]; exact_mod_cast h1.2
    have c1 : ((k.s[0]'h0).toNat : Int) = 48 := by exact_mod_cast h1.2
    clear h1
    have HK := hidB (show idxK k = none from idx_none (.inr (.inr (.inr HD.out))))
    go_wp2_with fail
    go_ret2
    exact ⟨by unfold idxN; rw [HK.out]; rfl, B.out⟩
  have HNO := hidB (show ¬ (0 < k.n ∨ k.s.size = 0 ∨ 4 < k.s.size ∨ (1 < k.s.size ∧ k.s.data.toList.head? = some 48)) from fun h => by
    rcases h with h | h | h | ⟨h2, h3⟩
    · exact hn h
    · exact he h
    · exact h4 h
    · rw [head_at h0] at h3; exact h1 ⟨h2, by rw [Option.some.inj h3]; rfl⟩)
  have H4 := hidB (show k.s.size ≤ 4 by omega)
  have HC0 : Hid (1 < k.s.size → ¬ ((k.s[0]'h0).toNat : Int) = 48) := hidB (fun h2 h3 => h1 ⟨h2, by exact_mod_cast h3⟩)
  clear h1 h4 he
  by_cases h1 : 1 < k.s.size
  all_goals
    first
      | (have h1i : (1 : Int) < (k.s.size : Int) := by omega)
      | (have h1i : ¬ (1 : Int) < (k.s.size : Int) := by omega)
    try (have c1 := HC0.out h1; have c0 : (((k.s[0]'h0).toNat : Int) == 48) = false := by rw [beq_eq_false_iff_ne]; exact c1)
    clear HC0 h1
    go_wp2_with fail
    try clear c0 c1
    clear h0i h4i h1i e1 e2 x1
    go_loop [4, 35] (fun s4 s35 => ∃ i m : Nat, i ≤ k.s.size ∧ s35 = .int .i64 i ∧ s4 = .int .i64 m ∧ m < 10 ^ i ∧ numB (k.s.data.toList.drop i) m = numB k.s.data.toList 0) (fun _ i => k.s.size - (intOf i).toNat)
    case atStart => exact ⟨0, 0, by omega, rfl, rfl, by decide, rfl⟩
    case round =>
      obtain ⟨i, m, hi, rfl, rfl, hm, hnb⟩ := hrel
      have HNB := hidB hnb
      clear hnb
      have hm4 : m < 10000 := Nat.lt_of_lt_of_le hm (Nat.le_trans (Nat.pow_le_pow_right (by decide) (Nat.le_trans hi H4.out)) (by decide))
      have HM := hidB hm
      clear hm
      have hx2 : (0 : Int) ≤ (i : Int) := by omega
      by_cases hlt : i < k.s.size
      rotate_left
      · obtain rfl : i = k.s.size := by omega
        have hx4 : ¬ ((k.s.size : Int) < (k.s.size : Int)) := by omega
        have HV := hidB (show numB k.s.data.toList 0 = some m by rw [← HNB.out, List.drop_eq_nil_of_le (by simp)]; rfl)
        by_cases hbig : 1024 ≤ m
        · have hb1 : (1024 : Int) ≤ (m : Int) := by omega
          have HK := hidB (show idxK k = none by rw [idx_num HNO.out HV.out]; exact if_pos hbig)
          clear hbig
          go_wp2_with fail
          go_ret2
          exact ⟨by unfold idxN; rw [HK.out]; rfl, B.out⟩
        · have hb1 : ¬ (1024 : Int) ≤ (m : Int) := by omega
          have HK := hidB (show idxK k = some m by rw [idx_num HNO.out HV.out]; exact if_neg hbig)
          clear hbig
          go_wp2_with fail
          go_ret2
          exact ⟨by unfold idxN; rw [HK.out]; rfl, B.out⟩
      have hx1 : (i : Int) < (k.s.size : Int) := by omega
      have HST := hidB (numB_step k.s i m hlt)
      have hc8 : (k.s[i]'hlt).toNat < 256 := UInt8.toNat_lt _
      by_cases hc1 : (k.s[i]'hlt).toNat < 48
      · have hc2 : ((k.s[i]'hlt).toNat : Int) < 48 := by omega
        have HC := hidB (show (k.s[i]'hlt).toNat < 48 ∨ 57 < (k.s[i]'hlt).toNat from .inl hc1)
        clear hc1
        have HK := hidB (show idxK k = none by rw [idx_num HNO.out (o := none) (by rw [← HNB.out, HST.out]; exact if_pos HC.out)]; rfl)
        go_wp2_with fail
        go_ret2
        exact ⟨by unfold idxN; rw [HK.out]; rfl, B.out⟩
      have hc2 : ¬ ((k.s[i]'hlt).toNat : Int) < 48 := by omega
      by_cases hc3 : 57 < (k.s[i]'hlt).toNat
      · have hc4 : (57 : Int) < ((k.s[i]'hlt).toNat : Int) := by omega
        have HC := hidB (show (k.s[i]'hlt).toNat < 48 ∨ 57 < (k.s[i]'hlt).toNat from .inr hc3)
        clear hc3 hc1
        have HK := hidB (show idxK k = none by rw [idx_num HNO.out (o := none) (by rw [← HNB.out, HST.out]; exact if_pos HC.out)]; rfl)
        go_wp2_with fail
        go_ret2
        exact ⟨by unfold idxN; rw [HK.out]; rfl, B.out⟩
      have hc4 : ¬ (57 : Int) < ((k.s[i]'hlt).toNat : Int) := by omega
      have hc5 : (48 : Int) ≤ ((k.s[i]'hlt).toNat : Int) := by omega
      have hc6 : ((k.s[i]'hlt).toNat : Int) ≤ 57 := by omega
      have HN2 := hidB (show numB (k.s.data.toList.drop (i + 1)) (m * 10 + ((k.s[i]'hlt).toNat - 48)) = numB k.s.data.toList 0 by rw [← HNB.out, HST.out, if_neg (by omega)])
      have HPW := hidB (show m * 10 + ((k.s[i]'hlt).toNat - 48) < 10 ^ (i + 1) by have := HM.out; rw [Nat.pow_succ]; omega)
      have HEQ := hidB (show ((m * 10 + ((k.s[i]'hlt).toNat - 48) : Nat) : Int) = (m : Int) * 10 + (((k.s[i]'hlt).toNat : Int) - 48) by omega)
      have hm5 : (m : Int) < 10000 := by omega
      have hm6 : (0 : Int) ≤ (m : Int) := by omega
      clear HST HNB hc1 hc3 hc8 hm4
      go_wp2_with fail
      go_round
      case rel => exact ⟨i + 1, _, by omega, by go_num, by rw [HEQ.out], HPW.out, HN2.out⟩
      case measure => simp [intOf]; omega

end Go.Proofs.YtnidamkgfgddfaaGreat

namespace Go.Proofs.YtnidamkgfgddfaaGreat
open Go.RowKit

theorem decDigits_le (k : Nat) (h : k ≤ 9007199254740991) : (Lib.decDigits k).length ≤ 21 := by
  have := Lib.itoa_length_le (k : Int) (by omega) (by omega)
  rwa [Lib.itoa_nonneg] at this
theorem decDigits_step (k : Nat) (h : ¬ k < 10) : Lib.decDigits k = Lib.decDigits (k / 10) ++ [UInt8.ofNat (48 + k % 10)] := by
  rw [Lib.decDigits, dif_neg h]
theorem enc_dig (d : Nat) (h : d < 10) : Utf8.encode (48 + (d : Int)) = ⟨#[UInt8.ofNat (48 + d)]⟩ := by
  have : d = 0 ∨ d = 1 ∨ d = 2 ∨ d = 3 ∨ d = 4 ∨ d = 5 ∨ d = 6 ∨ d = 7 ∨ d = 8 ∨ d = 9 := by omega
  rcases this with rfl | rfl | rfl | rfl | rfl | rfl | rfl | rfl | rfl | rfl <;> rfl

set_option maxHeartbeats 1000000 in
set_option maxRecDepth 100000 in
theorem tens_pos (n : Nat) (h1 : n ≤ 9007199254740991) (w : World) : Calls Tryz.prog 91 #[.int .i64 n] w fun e w' => e = .returned (.string ⟨(Lib.decDigits n).toArray⟩) ∧ w = w' := by
  have hl := decDigits_le n h1
  have h0 : (0 : Int) ≤ (n : Int) := by omega
  go_enter Tryz.func91, Tryz.ntmps91
  go_wp2_with fail
  go_loop [0, 3] (fun v o => ∃ (k : Nat) (b : ByteArray), v = .int .i64 k ∧ k ≤ 9007199254740991 ∧ o = .string b ∧ Lib.decDigits n = Lib.decDigits k ++ b.data.toList) (fun v _ => (intOf v).toNat)
  case atStart => exact ⟨n, ⟨#[]⟩, rfl, h1, rfl, by simp⟩
  case round =>
    obtain ⟨k, b, rfl, hk, rfl, hd⟩ := hrel
    have hb : b.size ≤ 21 := by
      have := congrArg List.length hd
      rw [List.length_append] at this
      have e : b.size = b.data.toList.length := by simp
      omega
    have Hd := hid hd
    clear hd
    by_cases hc : 10 ≤ k
    · have e10 : (10 : Int) ≤ (k : Int) := by omega
      have m1 : (k : Int) % 10 < 10 := by omega
      have m0 : 0 ≤ (k : Int) % 10 := by omega
      have He : Hid (Utf8.encode (48 + (k : Int) % 10) = ⟨#[UInt8.ofNat (48 + k % 10)]⟩) := by
        have h := enc_dig (k % 10) (Nat.mod_lt _ (by decide))
        rw [show (((k % 10 : Nat)) : Int) = (k : Int) % 10 from by omega] at h
        exact hid h
      have hz : ¬ 9223372036854775807 < (Utf8.encode (48 + (k : Int) % 10)).size + b.size := by
        rw [He.out]
        show ¬ 9223372036854775807 < 1 + b.size
        omega
      go_wp2_with fail
      refine ⟨⟨k / 10, _, congrArg (Value.int .i64) (by omega), by omega, rfl, ?_⟩, ?_⟩
      · rw [Hd.out, decDigits_step k (by omega), He.out, ByteArray.data_append, Array.toList_append, List.append_assoc]
      · simp [intOf]; omega
    · have e10 : ¬ (10 : Int) ≤ (k : Int) := by omega
      have He := hid (enc_dig k (by omega))
      have hz : ¬ 9223372036854775807 < (Utf8.encode (48 + (k : Int))).size + b.size := by
        rw [He.out]
        show ¬ 9223372036854775807 < 1 + b.size
        omega
      go_wp2_with fail
      go_ret
      refine ⟨congrArg (fun v => Ending.returned (.string v)) ?_, rfl⟩
      rw [Hd.out, He.out]
      apply ByteArray.ext
      rw [ByteArray.data_append]
      apply Array.toList_inj.1
      rw [Array.toList_append, Lib.decDigits_one (by omega)]

set_option maxRecDepth 100000 in
theorem tens_any (n : Int) (h0 : -9007199254740991 ≤ n) (h1 : n ≤ 9007199254740991) (w : World) : Calls Tryz.prog 91 #[.int .i64 n] w fun e w' => e = .returned (.string ⟨(Lib.itoa n).toArray⟩) ∧ w = w' := by
  by_cases hn : n < 0
  · obtain ⟨k, hk⟩ : ∃ k : Nat, k = n.natAbs := ⟨_, rfl⟩
    have T : Hid (∀ W, Calls Tryz.prog 91 #[.int .i64 (-n)] W fun e w' => e = .returned (.string ⟨(Lib.decDigits k).toArray⟩) ∧ W = w') := by
      rw [show -n = (k : Int) from by omega]
      exact hid fun W => tens_pos k (by omega) W
    have hl := decDigits_le k (by omega)
    have e : Lib.itoa n = 45 :: Lib.decDigits k := by unfold Lib.itoa; rw [if_pos hn, hk]
    rw [e]
    clear e hk
    generalize Lib.decDigits k = l at *
    go_enter Tryz.func91, Tryz.ntmps91
    go_wp2_with (go_at_call 91; refine (T.out _).mono ?_; rintro e w' ⟨rfl, rfl⟩)
    go_ret
    refine ⟨congrArg (fun v => Ending.returned (.string v)) ?_, rfl⟩
    apply ByteArray.ext
    rw [ByteArray.data_append]
    apply Array.toList_inj.1
    rw [Array.toList_append]
    rfl
  · obtain ⟨k, rfl⟩ : ∃ k : Nat, n = k := ⟨n.toNat, by omega⟩
    rw [Lib.itoa_nonneg]
    exact tens_pos k (by omega) w


theorem tens7_any (n : Nat) (h1 : n ≤ 9007199254740991) (w : World) : Calls Tryz.prog 83 #[.int .i64 n] w fun e w' => e = .returned (.string ⟨(Lib.decDigits n).toArray⟩) ∧ w = w' := by
  have h0 : (0 : Int) ≤ (n : Int) := by omega
  have hx : ¬ (n : Int) < 0 := by omega
  have h9 : (n : Int) ≤ 9007199254740991 := by omega
  go_enter Tryz.func83, Tryz.ntmps83
  go_wp2_with fail
  refine (tens_pos n h1 _).mono ?_; rintro e w1 ⟨rfl, rfl⟩
  go_wp2_with fail
  go_ret
  exact ⟨rfl, rfl⟩

end Go.Proofs.YtnidamkgfgddfaaGreat

namespace Go.Proofs.YtnidamkgfgddfaaGreat
open Go.RowKit

def chr (n : Nat) : UInt8 := UInt8.ofNat (48 + n)
/-- The digits of a number below ten thousand. -/
def dg4 (n : Nat) : List UInt8 := if n < 10 then [chr n] else if n < 100 then [chr (n / 10), chr (n % 10)] else if n < 1000 then [chr (n / 10 / 10), chr (n / 10 % 10), chr (n % 10)] else [chr (n / 10 / 10 / 10), chr (n / 10 / 10 % 10), chr (n / 10 % 10), chr (n % 10)]
theorem dg4_dec {n : Nat} (h : n < 10000) : Lib.decDigits n = dg4 n := by
  unfold dg4
  split
  · rename_i h1; exact Lib.decDigits_one h1
  · rename_i h1
    split
    · rename_i h2; rw [decDigits_step n h1, Lib.decDigits_one (by omega)]; rfl
    · rename_i h2
      split
      · rw [decDigits_step n h1, decDigits_step (n / 10) (by omega), Lib.decDigits_one (by omega)]; rfl
      · rw [decDigits_step n h1, decDigits_step (n / 10) (by omega), decDigits_step (n / 10 / 10) (by omega), Lib.decDigits_one (by omega)]; rfl
theorem idx_dg4 : ∀ n : Fin 1024, idxK ⟨⟨(dg4 n.val).toArray⟩, 0⟩ = some n.val := by decide +kernel
theorem idxK_sym (s : ByteArray) {m : Int} (h : ¬ 0 < m) : idxK ⟨s, m⟩ = idxK ⟨s, 0⟩ := by
  unfold idxK
  simp only [h, false_or, show ¬ (0 : Int) < 0 by decide]
theorem chr_of {c : UInt8} (h : ¬ (c.toNat < 48 ∨ 57 < c.toNat)) : c = chr (c.toNat - 48) ∧ c.toNat - 48 < 10 := by
  refine ⟨?_, by omega⟩
  apply UInt8.toNat_inj.1
  unfold chr
  rw [UInt8.toNat_ofNat']
  omega
theorem numB_cons {c : UInt8} {r : List UInt8} {m n : Nat} (h : numB (c :: r) m = some n) : ∃ x, x < 10 ∧ c = chr x ∧ numB r (m * 10 + x) = some n := by
  unfold numB at h
  split at h
  · cases h
  · rename_i hc
    have := chr_of hc
    exact ⟨c.toNat - 48, this.2, this.1, h⟩
theorem chr_zero {x : Nat} (h : x < 10) (h0 : chr x ≠ 48) : 0 < x := by
  rcases Nat.eq_zero_or_pos x with rfl | h1
  · exact absurd rfl h0
  · exact h1
theorem dg4_of {l : List UInt8} {n : Nat} (h0 : l ≠ []) (h4 : l.length ≤ 4) (hz : ¬ (1 < l.length ∧ l.head? = some 48)) (h : numB l 0 = some n) : l = dg4 n ∧ n < 10000 := by
  match l, h0, h4, hz, h with
  | [a], _, _, _, h =>
    obtain ⟨x, hx, rfl, q1⟩ := numB_cons h
    simp only [numB, Option.some.injEq, Nat.zero_mul, Nat.zero_add] at q1
    subst q1
    unfold dg4
    rw [if_pos hx]
    exact ⟨rfl, by omega⟩
  | [a, b], _, _, hz, h =>
    obtain ⟨x, hx, rfl, q1⟩ := numB_cons h
    obtain ⟨y, hy, rfl, q2⟩ := numB_cons q1
    simp only [numB, Option.some.injEq, Nat.zero_mul, Nat.zero_add] at q2
    have hx0 := chr_zero hx (fun e => hz ⟨by simp, by simp [e]⟩)
    subst q2
    unfold dg4
    rw [if_neg (by omega), if_pos (by omega), show (x * 10 + y) / 10 = x by omega, show (x * 10 + y) % 10 = y by omega]
    exact ⟨rfl, by omega⟩
  | [a, b, c], _, _, hz, h =>
    obtain ⟨x, hx, rfl, q1⟩ := numB_cons h
    obtain ⟨y, hy, rfl, q2⟩ := numB_cons q1
    obtain ⟨z, hz', rfl, q3⟩ := numB_cons q2
    simp only [numB, Option.some.injEq, Nat.zero_mul, Nat.zero_add] at q3
    have hx0 := chr_zero hx (fun e => hz ⟨by simp, by simp [e]⟩)
    subst q3
    unfold dg4
    rw [if_neg (by omega), if_neg (by omega), if_pos (by omega), show ((x * 10 + y) * 10 + z) / 10 = x * 10 + y by omega, show ((x * 10 + y) * 10 + z) % 10 = z by omega, show (x * 10 + y) / 10 = x by omega, show (x * 10 + y) % 10 = y by omega]
    exact ⟨rfl, by omega⟩
  | [a, b, c, d], _, _, hz, h =>
    obtain ⟨x, hx, rfl, q1⟩ := numB_cons h
    obtain ⟨y, hy, rfl, q2⟩ := numB_cons q1
    obtain ⟨z, hz', rfl, q3⟩ := numB_cons q2
    obtain ⟨u, hu, rfl, q4⟩ := numB_cons q3
    simp only [numB, Option.some.injEq, Nat.zero_mul, Nat.zero_add] at q4
    have hx0 := chr_zero hx (fun e => hz ⟨by simp, by simp [e]⟩)
    subst q4
    unfold dg4
    rw [if_neg (by omega), if_neg (by omega), if_neg (by omega), show (((x * 10 + y) * 10 + z) * 10 + u) / 10 = (x * 10 + y) * 10 + z by omega, show (((x * 10 + y) * 10 + z) * 10 + u) % 10 = u by omega, show ((x * 10 + y) * 10 + z) / 10 = x * 10 + y by omega, show ((x * 10 + y) * 10 + z) % 10 = z by omega, show (x * 10 + y) / 10 = x by omega, show (x * 10 + y) % 10 = y by omega]
    exact ⟨rfl, by omega⟩
  | _ :: _ :: _ :: _ :: _ :: _, _, h4, _, _ => exact absurd h4 (by simp)
/-- A key's index is the number below 1024 whose digits it is. -/
theorem idx_some {k : KI} {n : Nat} (h : idxK k = some n) : n < 1024 ∧ k.s.data.toList = Lib.decDigits n := by
  unfold idxK at h
  split at h
  · cases h
  · rename_i hc
    simp only [not_or] at hc
    have hs : k.s.size = k.s.data.toList.length := by simp
    unfold capN at h
    split at h
    · rename_i m hm
      split at h
      · cases h
      · rename_i h1
        cases h
        have := dg4_of (l := k.s.data.toList) (fun e => hc.2.1 (by rw [hs, e]; rfl)) (by omega) (by rw [← hs]; exact hc.2.2.2) hm
        exact ⟨by omega, by rw [dg4_dec (by omega)]; exact this.1⟩
    · cases h
theorem idx_of {k : KI} {n : Nat} (hn : n < 1024) (h0 : ¬ 0 < k.n) (h : k.s.data.toList = Lib.decDigits n) : idxK k = some n := by
  obtain ⟨⟨⟨l⟩⟩, m⟩ := k
  rw [idxK_sym _ h0]
  have e := idx_dg4 ⟨n, hn⟩
  rw [← dg4_dec (show n < 10000 by omega)] at e
  rw [show l = Lib.decDigits n from h]
  exact e
end Go.Proofs.YtnidamkgfgddfaaGreat
