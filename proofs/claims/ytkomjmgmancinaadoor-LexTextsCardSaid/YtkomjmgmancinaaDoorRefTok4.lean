/-
  The walk of the reference's token: signs.
-/
import Derived.Test.YtkomjmgmancinaaDoorRefTok2
namespace Go.Proofs.YtkomjmgmancinaaDoor
open Go.RowKit

set_option maxHeartbeats 8000000 in
set_option maxRecDepth 100000 in
theorem rtok_other (s : ByteArray) (p : Nat) (hp : p < s.size) (hs : s.size ≤ 70000) (hc : isLet s[p] = false) (hd : isDig s[p] = false) (hq : isQu s[p] = false) (w : World) : Calls Tryd.prog 38 #[.string s, .int .i64 p] w (TokAt s.data.toList p w) := by
  have K1 := hidB (fun W => first_any s[p] W)
  rw [hc] at K1
  have K2 := hidB (fun W => digit_any s[p] W)
  rw [hd] at K2
  have b34 : ((s[p].toNat : Int) == 34) = decide (s[p] = 34) := byte_eq s[p] 34 34 rfl
  have b39 : ((s[p].toNat : Int) == 39) = decide (s[p] = 39) := byte_eq s[p] 39 39 rfl
  have hqq : s[p] ≠ 34 ∧ s[p] ≠ 39 := by unfold isQu at hq; rw [Bool.or_eq_false_iff, beq_eq_false_iff_ne, beq_eq_false_iff_ne] at hq; exact hq
  rw [decide_eq_false hqq.1] at b34
  rw [decide_eq_false hqq.2] at b39
  clear hqq
  obtain ⟨l, hl⟩ : ∃ l, l = s.data.toList := ⟨_, rfl⟩
  rw [← hl]
  have HL := hidB hl.symm
  have zl : s.size = l.length := by rw [hl, ba_size]
  clear hl
  have hpl : p < l.length := by rw [← zl]; exact hp
  have hl0 : 0 < (l.drop p).length := by rw [List.length_drop]; omega
  have hcl : (l.drop p)[0] = s[p] := by rw [drop_head hpl]; exact (ba_at s l HL.out p hp hpl).symm
  have HT := hidB (tokR_other (l.drop p) hl0 (by rw [hcl]; exact hc) (by rw [hcl]; exact hd) (by rw [hcl]; exact hq))
  have ZL := hidB zl
  clear hcl hl0 hpl hc hd hq zl
  have hx0 : (0 : Int) ≤ (p : Int) := by omega
  have hx1 : (p : Int) < (s.size : Int) := by omega
  go_enter Tryd.func38, Tryd.ntmps38
  go_wp2_with fail
  refine (K1.out _).mono ?_; rintro e w1 ⟨rfl, rfl⟩
  go_wp2_with fail
  refine (K2.out _).mono ?_; rintro e w1 ⟨rfl, rfl⟩
  go_wp2_with fail
  go_loop [17] (fun v => ∃ k : Nat, k ≤ 3 ∧ v = .int .i64 k ∧ tokR (l.drop p) = signOf (l.drop p) k) (fun v => (intOf v).toNat)
  case atStart => exact ⟨3, by omega, rfl, HT.out⟩
  case round =>
    clear HT
    obtain ⟨k, hk3, rfl, hn⟩ := hrel
    have HN := hidB hn
    clear hn
    cases k with
    | zero =>
      have hx2 : ¬ (0 : Int) < ((0 : Nat) : Int) := by omega
      go_wp2_with fail
      refine bodyPost_ret (v := .tuple #[.agg #[.int .u8 0, .int .i64 0, .string ⟨#[]⟩, .float .f64 0], .int .i64 p, .bool false]) (by simp [results, Tryd.results38, go_sem]) rfl ?_
      exact tokAt_bad HN.out (by omega) _ _ _ _ (box_two _ _ _)
    | succ k =>
      have hx2 : (0 : Int) < ((k + 1 : Nat) : Int) := by omega
      have SG := hidB (fun W m (hm : m = p + (k + 1)) => by have h := refSign_any (s.extract p m) (by have := cut_size s p m; omega) W; rw [cut_data s p _ m hm, HL.out] at h; exact h)
      have TD := hidB (fun m (hm : m = p + (k + 1)) => by have h := cut_data s p _ m hm; rw [HL.out] at h; exact h)
      have e2 : signOf (l.drop p) (k + 1) = if k + 1 ≤ (l.drop p).length ∧ signB ((l.drop p).take (k + 1)) = true then ⟨true, 5, (l.drop p).take (k + 1), 0, k + 1⟩ else signOf (l.drop p) k := by rw [signOf]
      rw [e2, List.length_drop] at HN
      clear e2
      obtain ⟨j, hj⟩ : ∃ j, j = k + 1 := ⟨_, rfl⟩
      obtain ⟨m, hm⟩ : ∃ m, m = p + j := ⟨_, rfl⟩
      rw [← hj] at SG TD HN hx2 ⊢
      replace SG := hidB (fun W => SG.out W m hm)
      replace TD := hidB (TD.out m hm)
      have HJ := hidB hj
      have hw1 : IntKind.i64.wrap ((p : Int) + (j : Int)) = (m : Int) := by rw [IntWalk.i64_in _ (by omega)]; omega
      have hw2 : IntKind.i64.wrap ((j : Int) - 1) = (k : Int) := by rw [IntWalk.i64_in _ (by omega)]; omega
      have hw3 : (p : Int) ≤ (m : Int) := by omega
      by_cases hle : m ≤ s.size
      · have hw4 : (m : Int) ≤ (s.size : Int) := by omega
        cases hsg : signB ((l.drop p).take j)
        · rw [hsg] at SG HN
          have HN2 : Hid (tokR (l.drop p) = signOf (l.drop p) k) := hidB (by rw [HN.out, if_neg (fun h => by cases h.2)])
          clear hsg HN hj hm
          go_wp2_with fail
          refine (SG.out _).mono ?_; rintro e w1 ⟨rfl, rfl⟩
          go_wp2_with fail
          go_round
          case rel => exact ⟨k, by have := HJ.out; omega, rfl, HN2.out⟩
          case measure =>
            have hj2 := HJ.out
            simp [intOf]; omega
        · rw [hsg] at SG HN
          have HN2 : Hid (tokR (l.drop p) = ⟨true, 5, (l.drop p).take j, 0, j⟩) := hidB (by rw [HN.out, if_pos ⟨by rw [← ZL.out]; omega, rfl⟩])
          have HM := hidB hm
          clear hsg HN hj hm
          go_wp2_with fail
          refine (SG.out _).mono ?_; rintro e w1 ⟨rfl, rfl⟩
          go_wp2_with fail
          refine bodyPost_ret (v := .tuple #[.agg #[.int .u8 5, .int .i64 p, .string (s.extract p m), .float .f64 0], .int .i64 m, .bool true]) (by simp [results, Tryd.results38, go_sem]) rfl ?_
          exact tokAt_ok HN2.out rfl (show ((m : Nat) : Int) = ((p + j : Nat) : Int) by have := HM.out; omega) rfl rfl TD.out Fl.is_0 (box_two _ _ _)
      · have hw4 : ¬ (m : Int) ≤ (s.size : Int) := by omega
        have HN2 : Hid (tokR (l.drop p) = signOf (l.drop p) k) := hidB (by rw [HN.out, if_neg (fun h => by have h1 := h.1; have h2 := ZL.out; omega)])
        clear HN hj hm SG TD
        go_wp2_with fail
        go_round
        case rel => exact ⟨k, by have := HJ.out; omega, rfl, HN2.out⟩
        case measure =>
          have hj2 := HJ.out
          simp [intOf]; omega

end Go.Proofs.YtkomjmgmancinaaDoor
