/-
  The walk of the reference's token: strings.
-/
import Derived.Test.YtkomjmgmancinaaDoorRefTok2
namespace Go.Proofs.YtkomjmgmancinaaDoor
open Go.RowKit

theorem close_shift (q : UInt8) (l : List UInt8) (p : Nat) : CloseAt q (l.drop p) 1 = (CloseAt q l (p + 1)).map (· - p) := by
  unfold CloseAt
  rw [List.drop_drop, Option.map_map]
  congr 1; funext x; simp; omega

set_option linter.unusedSimpArgs false in
set_option maxHeartbeats 16000000 in
set_option maxRecDepth 100000 in
theorem rtok_qu (s : ByteArray) (p : Nat) (hp : p < s.size) (hs : s.size ≤ 70000) (hc : isLet s[p] = false) (hd : isDig s[p] = false) (hq : isQu s[p] = true) (w : World) : Calls Tryd.prog 38 #[.string s, .int .i64 p] w (TokAt s.data.toList p w) := by
  obtain ⟨l, hl⟩ : ∃ l, l = s.data.toList := ⟨_, rfl⟩
  rw [← hl]
  have HL := hidB hl.symm
  have zl : s.size = l.length := by rw [hl, ba_size]
  clear hl
  have K1 := hidB (fun W => first_any s[p] W)
  rw [hc] at K1
  have K2 := hidB (fun W => digit_any s[p] W)
  rw [hd] at K2
  obtain ⟨q, hqe⟩ : ∃ q, s[p] = q := ⟨_, rfl⟩
  have BQ := hidB (fun (k : Nat) (h : k < s.size) (h2 : k < l.length) => (by rw [bne]; exact congrArg (!·) (byte_eq2 s[k] s[p]) : ((s[k].toNat : Int) != (s[p].toNat : Int)) = !decide (s[k] = s[p])))
  have b34 : ((s[p].toNat : Int) == 34) = decide (q = 34) := by rw [← hqe]; exact byte_eq s[p] 34 34 rfl
  have b39 : ((s[p].toNat : Int) == 39) = decide (q = 39) := by rw [← hqe]; exact byte_eq s[p] 39 39 rfl
  have hqq : s[p] = 34 ∨ s[p] = 39 := by unfold isQu at hq; rw [Bool.or_eq_true, beq_iff_eq, beq_iff_eq] at hq; exact hq
  have hpl : p < l.length := by rw [← zl]; exact hp
  have hl0 : 0 < (l.drop p).length := by rw [List.length_drop]; omega
  have hcl : (l.drop p)[0] = s[p] := by rw [drop_head hpl]; exact (ba_at s l HL.out p hp hpl).symm
  have ht := tokR_qu (l.drop p) hl0 (by rw [hcl]; exact hc) (by rw [hcl]; exact hd) (by rw [hcl]; exact hq)
  rw [hcl, close_shift, List.drop_drop] at ht
  have HNONE := hidB (fun (h : CloseAt s[p] l (p + 1) = none) => (by rw [ht, h]; rfl : tokR (l.drop p) = .bad 0))
  have HHIT := hidB (fun (k : Nat) (h : CloseAt s[p] l (p + 1) = some k) => (by
    rw [ht, h, show k - (p + 1) = k - p - 1 by omega]; rfl : tokR (l.drop p) = if (plainR ((l.drop (p + 1)).take (k - (p + 1)))).2.2 = 5 then .bad (1 + (plainR ((l.drop (p + 1)).take (k - (p + 1)))).2.1) else if (plainR ((l.drop (p + 1)).take (k - (p + 1)))).2.2 ≠ 0 then .bad 0 else ⟨true, 4, (plainR ((l.drop (p + 1)).take (k - (p + 1)))).1, 0, k - p + 1⟩))
  have HPL := hidB zl
  have HQ := hidB hqe
  rw [hqe] at HNONE HHIT hqq
  have E := hidB (fun k h h2 => ba_at s l HL.out k h h2)
  clear ht hcl hpl hc hd hq hqe zl
  have hx0 : (0 : Int) ≤ (p : Int) := by omega
  have hx1 : (p : Int) < (s.size : Int) := by omega
  have hw2 : IntKind.i64.wrap ((p : Int) + 1) = (p : Int) + 1 := IntWalk.i64_in _ (by omega)
  rcases hqq with rfl | rfl
  · simp only [decide_true, show decide ((34 : UInt8) = 39) = false from rfl] at b34 b39
    go_enter Tryd.func38, Tryd.ntmps38
    go_wp2_with fail
    refine (K1.out _).mono ?_; rintro e w1 ⟨rfl, rfl⟩
    go_wp2_with fail
    refine (K2.out _).mono ?_; rintro e w1 ⟨rfl, rfl⟩
    go_wp2_with fail
    go_loop [13] (fun v => ∃ k : Nat, p + 1 ≤ k ∧ k ≤ s.size ∧ v = .int .i64 k ∧ CloseAt 34 l (p + 1) = CloseAt 34 l k) (fun v => s.size - (intOf v).toNat)
    case atStart => exact ⟨p + 1, by omega, by omega, by go_num, rfl⟩
    case round =>
      obtain ⟨k, hk1, hk, rfl, hn⟩ := hrel
      have HN := hidB hn
      clear hn
      by_cases hlt : k < s.size
      · have hlt2 : k < l.length := by rw [← HPL.out]; exact hlt
        have e0 := hidB (E.out k hlt hlt2)
        have hx3 : (0 : Int) ≤ (k : Int) := by omega
        have c1 : ((s[k].toNat : Int) != (s[p].toNat : Int)) = !decide (l[k] = 34) := by rw [BQ.out k hlt hlt2, HQ.out, e0.out]
        have c2 : ((s[k].toNat : Int) != 10) = !decide (l[k] = 10) := by rw [bne, ← e0.out]; exact congrArg (!·) (byte_eq s[k] 10 10 rfl)
        have c3 : ((s[k].toNat : Int) != 13) = !decide (l[k] = 13) := by rw [bne, ← e0.out]; exact congrArg (!·) (byte_eq s[k] 13 13 rfl)
        have c4 : ((s[k].toNat : Int) == 92) = decide (l[k] = 92) := by rw [← e0.out]; exact byte_eq s[k] 92 92 rfl
        by_cases d1 : l[k] = 34
        · rw [decide_eq_true d1] at c1
          simp only [Bool.not_true] at c1
          have CN : Hid (CloseAt 34 l (p + 1) = some k) := hidB (HN.out.trans (close_hit 34 _ k hlt2 d1))
          clear c2 c3 c4 d1
          obtain ⟨pr, hpr⟩ : ∃ pr, plainR ((l.drop (p + 1)).take (k - (p + 1))) = pr := ⟨_, rfl⟩
          have HT2 := hidB (HHIT.out k CN.out)
          rw [hpr] at HT2
          have PL := hidB (fun W => refPlain_any (s.extract (p + 1) k) W (by have := cut_size s (p + 1) k; omega))
          unfold PlainOk at PL
          rw [cut_data s (p + 1) (k - (p + 1)) k (by omega), HL.out, hpr] at PL
          have hpl := plain_place ((l.drop (p + 1)).take (k - (p + 1)))
          rw [hpr, List.length_take] at hpl
          clear hpr
          obtain ⟨out, pl, er⟩ := pr
          simp only at HT2 PL hpl
          have hpl2 : pl ≤ 70000 := by omega
          have hw6 : IntKind.i64.wrap ((p : Int) + 1 + (pl : Int)) = (p : Int) + 1 + (pl : Int) := IntWalk.i64_in _ (by omega)
          have hw7 : (p : Int) + 1 ≤ (k : Int) := by omega
          have hw8 : (k : Int) ≤ (s.size : Int) := by omega
          have hw9 : IntKind.i64.wrap ((k : Int) + 1) = (k : Int) + 1 := IntWalk.i64_in _ (by omega)
          have hw10 : ((p : Int) + 1).toNat = p + 1 := by omega
          have hw11 : (0 : Int) ≤ (p : Int) + 1 := by omega
          clear hpl
          by_cases h5 : er = 5
          · subst h5
            have HB : Hid (tokR (l.drop p) = .bad (1 + pl)) := hidB (by rw [HT2.out, if_pos rfl])
            clear HT2
            go_wp2_with fail
            refine (PL.out _).mono ?_; rintro e w3 ⟨rfl, b3⟩
            have Bt := hidB (grow (box_two _ _ _) b3)
            have TT := hidB ((Two.new w 25 #[.int .u8 0, .int .i64 0, .string ⟨#[]⟩, .float .f64 0] #[.int .u8 0, .int .i64 p, .string ⟨#[]⟩, .float .f64 0]).on b3)
            obtain ⟨a0, a1, a2, a3, b0, b1, b2, b3, fa, fb⟩ := TT.out.facts
            go_wp2_with fail
            refine bodyPost_ret (v := .tuple #[.agg #[.int .u8 0, .int .i64 0, .string ⟨#[]⟩, .float .f64 0], .int .i64 ((p : Int) + 1 + (pl : Int)), .bool false]) (by simp [results, Tryd.results38, go_sem, a0, a1, a2, a3, b0, b1, b2, b3, fa, fb]) rfl ?_
            exact tokAt_bad HB.out (by omega) _ _ _ _ (by (repeat (refine Below.setCell ?_ (by first | exact Nat.le_refl _ | exact Nat.le_succ _) _)); exact Bt.out)
          · by_cases h0' : er = 0
            · subst h0'
              have HO : Hid (tokR (l.drop p) = ⟨true, 4, out, 0, k - p + 1⟩) := hidB (by rw [HT2.out, if_neg (by decide), if_neg (by decide)])
              have HK := hidB (show ((k : Int) + 1) = ((p + (k - p + 1) : Nat) : Int) by omega)
              clear HT2 h5
              go_wp2_with fail
              refine (PL.out _).mono ?_; rintro e w3 ⟨rfl, b3⟩
              have Bt := hidB (grow (box_two _ _ _) b3)
              have TT := hidB ((Two.new w 25 #[.int .u8 0, .int .i64 0, .string ⟨#[]⟩, .float .f64 0] #[.int .u8 0, .int .i64 p, .string ⟨#[]⟩, .float .f64 0]).on b3)
              obtain ⟨a0, a1, a2, a3, b0, b1, b2, b3, fa, fb⟩ := TT.out.facts
              go_wp2_with fail
              refine bodyPost_ret (v := .tuple #[.agg #[.int .u8 4, .int .i64 p, .string ⟨out.toArray⟩, .float .f64 0], .int .i64 ((k : Int) + 1), .bool true]) (by simp [results, Tryd.results38, go_sem, a0, a1, a2, a3, b0, b1, b2, b3, fa, fb]) rfl ?_
              exact tokAt_ok HO.out rfl HK.out rfl rfl rfl Fl.is_0 (by (repeat (refine Below.setCell ?_ (by first | exact Nat.le_refl _ | exact Nat.le_succ _) _)); exact Bt.out)
            · have HB : Hid (tokR (l.drop p) = .bad 0) := hidB (by rw [HT2.out, if_neg h5, if_pos h0'])
              have e5 : (er == 5) = false := by rw [beq_eq_false_iff_ne]; exact h5
              have e0 : (er != 0) = true := by simpa using h0'
              clear HT2 h5 h0'
              go_wp2_with fail
              refine (PL.out _).mono ?_; rintro e w3 ⟨rfl, b3⟩
              have Bt := hidB (grow (box_two _ _ _) b3)
              have TT := hidB ((Two.new w 25 #[.int .u8 0, .int .i64 0, .string ⟨#[]⟩, .float .f64 0] #[.int .u8 0, .int .i64 p, .string ⟨#[]⟩, .float .f64 0]).on b3)
              obtain ⟨a0, a1, a2, a3, b0, b1, b2, b3, fa, fb⟩ := TT.out.facts
              go_wp2_with fail
              refine bodyPost_ret (v := .tuple #[.agg #[.int .u8 0, .int .i64 0, .string ⟨#[]⟩, .float .f64 0], .int .i64 p, .bool false]) (by simp [results, Tryd.results38, go_sem, a0, a1, a2, a3, b0, b1, b2, b3, fa, fb]) rfl ?_
              exact tokAt_bad HB.out (by omega) _ _ _ _ (by (repeat (refine Below.setCell ?_ (by first | exact Nat.le_refl _ | exact Nat.le_succ _) _)); exact Bt.out)
        · rw [decide_eq_false d1] at c1
          simp only [Bool.not_false] at c1
          by_cases d2 : l[k] = 10
          · rw [decide_eq_true d2] at c2
            simp only [Bool.not_true] at c2
            have CN : Hid (CloseAt 34 l (p + 1) = none) := hidB (HN.out.trans (close_stop 34 _ k hlt2 d1 (Or.inl d2)))
            clear c3 c4 d1 d2
            have HB : Hid (tokR (l.drop p) = .bad 0) := hidB (HNONE.out CN.out)
            go_wp2_with fail
            refine bodyPost_ret (v := .tuple #[.agg #[.int .u8 0, .int .i64 0, .string ⟨#[]⟩, .float .f64 0], .int .i64 p, .bool false]) (by simp [results, Tryd.results38, go_sem]) rfl ?_
            exact tokAt_bad HB.out (by omega) _ _ _ _ (box_two _ _ _)
          · rw [decide_eq_false d2] at c2
            simp only [Bool.not_false] at c2
            by_cases d3 : l[k] = 13
            · rw [decide_eq_true d3] at c3
              simp only [Bool.not_true] at c3
              have CN : Hid (CloseAt 34 l (p + 1) = none) := hidB (HN.out.trans (close_stop 34 _ k hlt2 d1 (Or.inr d3)))
              clear c4 d1 d2 d3
              have HB : Hid (tokR (l.drop p) = .bad 0) := hidB (HNONE.out CN.out)
              go_wp2_with fail
              refine bodyPost_ret (v := .tuple #[.agg #[.int .u8 0, .int .i64 0, .string ⟨#[]⟩, .float .f64 0], .int .i64 p, .bool false]) (by simp [results, Tryd.results38, go_sem]) rfl ?_
              exact tokAt_bad HB.out (by omega) _ _ _ _ (box_two _ _ _)
            · rw [decide_eq_false d3] at c3
              simp only [Bool.not_false] at c3
              have D1 := hidB d1
              have D2 := hidB d2
              have D3 := hidB d3
              have hv1 : IntKind.i64.wrap ((k : Int) + 1) = (k : Int) + 1 := IntWalk.i64_in _ (by omega)
              have hv2 : (0 : Int) ≤ (k : Int) + 1 := by omega
              have hv3 : ((k : Int) + 1).toNat = k + 1 := by omega
              have hv4 : IntKind.i64.wrap ((k : Int) + 1 + 1) = (k : Int) + 1 + 1 := IntWalk.i64_in _ (by omega)
              by_cases d4 : l[k] = 92
              · rw [decide_eq_true d4] at c4
                by_cases h2 : k + 1 < s.size
                · have h22 : k + 1 < l.length := by rw [← HPL.out]; exact h2
                  have e1 := hidB (E.out (k + 1) h2 h22)
                  have hv5 : (k : Int) + 1 < (s.size : Int) := by omega
                  have c5 : ((s[k + 1].toNat : Int) != 10) = !decide (l[k + 1] = 10) := by rw [bne, ← e1.out]; exact congrArg (!·) (byte_eq s[k + 1] 10 10 rfl)
                  have c6 : ((s[k + 1].toNat : Int) != 13) = !decide (l[k + 1] = 13) := by rw [bne, ← e1.out]; exact congrArg (!·) (byte_eq s[k + 1] 13 13 rfl)
                  by_cases d5 : l[k + 1] = 10
                  · rw [decide_eq_true d5] at c5
                    simp only [Bool.not_true] at c5
                    have HH := hidB (close_one 34 _ k hlt2 D1.out (by rintro (h | h); exact D2.out h; exact D3.out h) (fun _ => Or.inr ⟨h22, Or.inl d5⟩))
                    clear c6 d1 d2 d3 d4 d5
                    go_wp2_with fail
                    go_round
                    case rel => exact ⟨k + 1, by omega, by omega, by go_num, HN.out.trans HH.out⟩
                    case measure => simp [intOf]; omega
                  · rw [decide_eq_false d5] at c5
                    simp only [Bool.not_false] at c5
                    by_cases d6 : l[k + 1] = 13
                    · rw [decide_eq_true d6] at c6
                      simp only [Bool.not_true] at c6
                      have HH := hidB (close_one 34 _ k hlt2 D1.out (by rintro (h | h); exact D2.out h; exact D3.out h) (fun _ => Or.inr ⟨h22, Or.inr d6⟩))
                      clear d1 d2 d3 d4 d5 d6
                      go_wp2_with fail
                      go_round
                      case rel => exact ⟨k + 1, by omega, by omega, by go_num, HN.out.trans HH.out⟩
                      case measure => simp [intOf]; omega
                    · rw [decide_eq_false d6] at c6
                      simp only [Bool.not_false] at c6
                      have HH := hidB (close_two 34 _ k hlt2 D1.out (by rintro (h | h); exact D2.out h; exact D3.out h) d4 h22 d5 d6)
                      clear d1 d2 d3 d4 d5 d6
                      go_wp2_with fail
                      go_round
                      case rel => exact ⟨k + 2, by omega, by omega, congrArg (fun k => Value.int .i64 k) (by omega), HN.out.trans HH.out⟩
                      case measure => simp [intOf]; omega
                · have HH := hidB (close_one 34 _ k hlt2 D1.out (by rintro (h | h); exact D2.out h; exact D3.out h) (fun _ => Or.inl (by rw [← HPL.out]; omega)))
                  have hv5 : ¬ (k : Int) + 1 < (s.size : Int) := by omega
                  clear d1 d2 d3 d4
                  go_wp2_with fail
                  go_round
                  case rel => exact ⟨k + 1, by omega, by omega, by go_num, HN.out.trans HH.out⟩
                  case measure => simp [intOf]; omega
              · rw [decide_eq_false d4] at c4
                have HH := hidB (close_one 34 _ k hlt2 D1.out (by rintro (h | h); exact D2.out h; exact D3.out h) (fun h => absurd h d4))
                clear d1 d2 d3 d4
                go_wp2_with fail
                go_round
                case rel => exact ⟨k + 1, by omega, by omega, by go_num, HN.out.trans HH.out⟩
                case measure => simp [intOf]; omega
      · have CN : Hid (CloseAt 34 l (p + 1) = none) := hidB (HN.out.trans (close_end 34 _ k (by rw [← HPL.out]; omega)))
        have HB : Hid (tokR (l.drop p) = .bad 0) := hidB (HNONE.out CN.out)
        go_wp2_with fail
        refine bodyPost_ret (v := .tuple #[.agg #[.int .u8 0, .int .i64 0, .string ⟨#[]⟩, .float .f64 0], .int .i64 p, .bool false]) (by simp [results, Tryd.results38, go_sem]) rfl ?_
        exact tokAt_bad HB.out (by omega) _ _ _ _ (box_two _ _ _)
  · simp only [decide_true, show decide ((39 : UInt8) = 34) = false from rfl] at b34 b39
    go_enter Tryd.func38, Tryd.ntmps38
    go_wp2_with fail
    refine (K1.out _).mono ?_; rintro e w1 ⟨rfl, rfl⟩
    go_wp2_with fail
    refine (K2.out _).mono ?_; rintro e w1 ⟨rfl, rfl⟩
    go_wp2_with fail
    go_loop [13] (fun v => ∃ k : Nat, p + 1 ≤ k ∧ k ≤ s.size ∧ v = .int .i64 k ∧ CloseAt 39 l (p + 1) = CloseAt 39 l k) (fun v => s.size - (intOf v).toNat)
    case atStart => exact ⟨p + 1, by omega, by omega, by go_num, rfl⟩
    case round =>
      obtain ⟨k, hk1, hk, rfl, hn⟩ := hrel
      have HN := hidB hn
      clear hn
      by_cases hlt : k < s.size
      · have hlt2 : k < l.length := by rw [← HPL.out]; exact hlt
        have e0 := hidB (E.out k hlt hlt2)
        have hx3 : (0 : Int) ≤ (k : Int) := by omega
        have c1 : ((s[k].toNat : Int) != (s[p].toNat : Int)) = !decide (l[k] = 39) := by rw [BQ.out k hlt hlt2, HQ.out, e0.out]
        have c2 : ((s[k].toNat : Int) != 10) = !decide (l[k] = 10) := by rw [bne, ← e0.out]; exact congrArg (!·) (byte_eq s[k] 10 10 rfl)
        have c3 : ((s[k].toNat : Int) != 13) = !decide (l[k] = 13) := by rw [bne, ← e0.out]; exact congrArg (!·) (byte_eq s[k] 13 13 rfl)
        have c4 : ((s[k].toNat : Int) == 92) = decide (l[k] = 92) := by rw [← e0.out]; exact byte_eq s[k] 92 92 rfl
        by_cases d1 : l[k] = 39
        · rw [decide_eq_true d1] at c1
          simp only [Bool.not_true] at c1
          have CN : Hid (CloseAt 39 l (p + 1) = some k) := hidB (HN.out.trans (close_hit 39 _ k hlt2 d1))
          clear c2 c3 c4 d1
          obtain ⟨pr, hpr⟩ : ∃ pr, plainR ((l.drop (p + 1)).take (k - (p + 1))) = pr := ⟨_, rfl⟩
          have HT2 := hidB (HHIT.out k CN.out)
          rw [hpr] at HT2
          have PL := hidB (fun W => refPlain_any (s.extract (p + 1) k) W (by have := cut_size s (p + 1) k; omega))
          unfold PlainOk at PL
          rw [cut_data s (p + 1) (k - (p + 1)) k (by omega), HL.out, hpr] at PL
          have hpl := plain_place ((l.drop (p + 1)).take (k - (p + 1)))
          rw [hpr, List.length_take] at hpl
          clear hpr
          obtain ⟨out, pl, er⟩ := pr
          simp only at HT2 PL hpl
          have hpl2 : pl ≤ 70000 := by omega
          have hw6 : IntKind.i64.wrap ((p : Int) + 1 + (pl : Int)) = (p : Int) + 1 + (pl : Int) := IntWalk.i64_in _ (by omega)
          have hw7 : (p : Int) + 1 ≤ (k : Int) := by omega
          have hw8 : (k : Int) ≤ (s.size : Int) := by omega
          have hw9 : IntKind.i64.wrap ((k : Int) + 1) = (k : Int) + 1 := IntWalk.i64_in _ (by omega)
          have hw10 : ((p : Int) + 1).toNat = p + 1 := by omega
          have hw11 : (0 : Int) ≤ (p : Int) + 1 := by omega
          clear hpl
          by_cases h5 : er = 5
          · subst h5
            have HB : Hid (tokR (l.drop p) = .bad (1 + pl)) := hidB (by rw [HT2.out, if_pos rfl])
            clear HT2
            go_wp2_with fail
            refine (PL.out _).mono ?_; rintro e w3 ⟨rfl, b3⟩
            have Bt := hidB (grow (box_two _ _ _) b3)
            have TT := hidB ((Two.new w 25 #[.int .u8 0, .int .i64 0, .string ⟨#[]⟩, .float .f64 0] #[.int .u8 0, .int .i64 p, .string ⟨#[]⟩, .float .f64 0]).on b3)
            obtain ⟨a0, a1, a2, a3, b0, b1, b2, b3, fa, fb⟩ := TT.out.facts
            go_wp2_with fail
            refine bodyPost_ret (v := .tuple #[.agg #[.int .u8 0, .int .i64 0, .string ⟨#[]⟩, .float .f64 0], .int .i64 ((p : Int) + 1 + (pl : Int)), .bool false]) (by simp [results, Tryd.results38, go_sem, a0, a1, a2, a3, b0, b1, b2, b3, fa, fb]) rfl ?_
            exact tokAt_bad HB.out (by omega) _ _ _ _ (by (repeat (refine Below.setCell ?_ (by first | exact Nat.le_refl _ | exact Nat.le_succ _) _)); exact Bt.out)
          · by_cases h0' : er = 0
            · subst h0'
              have HO : Hid (tokR (l.drop p) = ⟨true, 4, out, 0, k - p + 1⟩) := hidB (by rw [HT2.out, if_neg (by decide), if_neg (by decide)])
              have HK := hidB (show ((k : Int) + 1) = ((p + (k - p + 1) : Nat) : Int) by omega)
              clear HT2 h5
              go_wp2_with fail
              refine (PL.out _).mono ?_; rintro e w3 ⟨rfl, b3⟩
              have Bt := hidB (grow (box_two _ _ _) b3)
              have TT := hidB ((Two.new w 25 #[.int .u8 0, .int .i64 0, .string ⟨#[]⟩, .float .f64 0] #[.int .u8 0, .int .i64 p, .string ⟨#[]⟩, .float .f64 0]).on b3)
              obtain ⟨a0, a1, a2, a3, b0, b1, b2, b3, fa, fb⟩ := TT.out.facts
              go_wp2_with fail
              refine bodyPost_ret (v := .tuple #[.agg #[.int .u8 4, .int .i64 p, .string ⟨out.toArray⟩, .float .f64 0], .int .i64 ((k : Int) + 1), .bool true]) (by simp [results, Tryd.results38, go_sem, a0, a1, a2, a3, b0, b1, b2, b3, fa, fb]) rfl ?_
              exact tokAt_ok HO.out rfl HK.out rfl rfl rfl Fl.is_0 (by (repeat (refine Below.setCell ?_ (by first | exact Nat.le_refl _ | exact Nat.le_succ _) _)); exact Bt.out)
            · have HB : Hid (tokR (l.drop p) = .bad 0) := hidB (by rw [HT2.out, if_neg h5, if_pos h0'])
              have e5 : (er == 5) = false := by rw [beq_eq_false_iff_ne]; exact h5
              have e0 : (er != 0) = true := by simpa using h0'
              clear HT2 h5 h0'
              go_wp2_with fail
              refine (PL.out _).mono ?_; rintro e w3 ⟨rfl, b3⟩
              have Bt := hidB (grow (box_two _ _ _) b3)
              have TT := hidB ((Two.new w 25 #[.int .u8 0, .int .i64 0, .string ⟨#[]⟩, .float .f64 0] #[.int .u8 0, .int .i64 p, .string ⟨#[]⟩, .float .f64 0]).on b3)
              obtain ⟨a0, a1, a2, a3, b0, b1, b2, b3, fa, fb⟩ := TT.out.facts
              go_wp2_with fail
              refine bodyPost_ret (v := .tuple #[.agg #[.int .u8 0, .int .i64 0, .string ⟨#[]⟩, .float .f64 0], .int .i64 p, .bool false]) (by simp [results, Tryd.results38, go_sem, a0, a1, a2, a3, b0, b1, b2, b3, fa, fb]) rfl ?_
              exact tokAt_bad HB.out (by omega) _ _ _ _ (by (repeat (refine Below.setCell ?_ (by first | exact Nat.le_refl _ | exact Nat.le_succ _) _)); exact Bt.out)
        · rw [decide_eq_false d1] at c1
          simp only [Bool.not_false] at c1
          by_cases d2 : l[k] = 10
          · rw [decide_eq_true d2] at c2
            simp only [Bool.not_true] at c2
            have CN : Hid (CloseAt 39 l (p + 1) = none) := hidB (HN.out.trans (close_stop 39 _ k hlt2 d1 (Or.inl d2)))
            clear c3 c4 d1 d2
            have HB : Hid (tokR (l.drop p) = .bad 0) := hidB (HNONE.out CN.out)
            go_wp2_with fail
            refine bodyPost_ret (v := .tuple #[.agg #[.int .u8 0, .int .i64 0, .string ⟨#[]⟩, .float .f64 0], .int .i64 p, .bool false]) (by simp [results, Tryd.results38, go_sem]) rfl ?_
            exact tokAt_bad HB.out (by omega) _ _ _ _ (box_two _ _ _)
          · rw [decide_eq_false d2] at c2
            simp only [Bool.not_false] at c2
            by_cases d3 : l[k] = 13
            · rw [decide_eq_true d3] at c3
              simp only [Bool.not_true] at c3
              have CN : Hid (CloseAt 39 l (p + 1) = none) := hidB (HN.out.trans (close_stop 39 _ k hlt2 d1 (Or.inr d3)))
              clear c4 d1 d2 d3
              have HB : Hid (tokR (l.drop p) = .bad 0) := hidB (HNONE.out CN.out)
              go_wp2_with fail
              refine bodyPost_ret (v := .tuple #[.agg #[.int .u8 0, .int .i64 0, .string ⟨#[]⟩, .float .f64 0], .int .i64 p, .bool false]) (by simp [results, Tryd.results38, go_sem]) rfl ?_
              exact tokAt_bad HB.out (by omega) _ _ _ _ (box_two _ _ _)
            · rw [decide_eq_false d3] at c3
              simp only [Bool.not_false] at c3
              have D1 := hidB d1
              have D2 := hidB d2
              have D3 := hidB d3
              have hv1 : IntKind.i64.wrap ((k : Int) + 1) = (k : Int) + 1 := IntWalk.i64_in _ (by omega)
              have hv2 : (0 : Int) ≤ (k : Int) + 1 := by omega
              have hv3 : ((k : Int) + 1).toNat = k + 1 := by omega
              have hv4 : IntKind.i64.wrap ((k : Int) + 1 + 1) = (k : Int) + 1 + 1 := IntWalk.i64_in _ (by omega)
              by_cases d4 : l[k] = 92
              · rw [decide_eq_true d4] at c4
                by_cases h2 : k + 1 < s.size
                · have h22 : k + 1 < l.length := by rw [← HPL.out]; exact h2
                  have e1 := hidB (E.out (k + 1) h2 h22)
                  have hv5 : (k : Int) + 1 < (s.size : Int) := by omega
                  have c5 : ((s[k + 1].toNat : Int) != 10) = !decide (l[k + 1] = 10) := by rw [bne, ← e1.out]; exact congrArg (!·) (byte_eq s[k + 1] 10 10 rfl)
                  have c6 : ((s[k + 1].toNat : Int) != 13) = !decide (l[k + 1] = 13) := by rw [bne, ← e1.out]; exact congrArg (!·) (byte_eq s[k + 1] 13 13 rfl)
                  by_cases d5 : l[k + 1] = 10
                  · rw [decide_eq_true d5] at c5
                    simp only [Bool.not_true] at c5
                    have HH := hidB (close_one 39 _ k hlt2 D1.out (by rintro (h | h); exact D2.out h; exact D3.out h) (fun _ => Or.inr ⟨h22, Or.inl d5⟩))
                    clear c6 d1 d2 d3 d4 d5
                    go_wp2_with fail
                    go_round
                    case rel => exact ⟨k + 1, by omega, by omega, by go_num, HN.out.trans HH.out⟩
                    case measure => simp [intOf]; omega
                  · rw [decide_eq_false d5] at c5
                    simp only [Bool.not_false] at c5
                    by_cases d6 : l[k + 1] = 13
                    · rw [decide_eq_true d6] at c6
                      simp only [Bool.not_true] at c6
                      have HH := hidB (close_one 39 _ k hlt2 D1.out (by rintro (h | h); exact D2.out h; exact D3.out h) (fun _ => Or.inr ⟨h22, Or.inr d6⟩))
                      clear d1 d2 d3 d4 d5 d6
                      go_wp2_with fail
                      go_round
                      case rel => exact ⟨k + 1, by omega, by omega, by go_num, HN.out.trans HH.out⟩
                      case measure => simp [intOf]; omega
                    · rw [decide_eq_false d6] at c6
                      simp only [Bool.not_false] at c6
                      have HH := hidB (close_two 39 _ k hlt2 D1.out (by rintro (h | h); exact D2.out h; exact D3.out h) d4 h22 d5 d6)
                      clear d1 d2 d3 d4 d5 d6
                      go_wp2_with fail
                      go_round
                      case rel => exact ⟨k + 2, by omega, by omega, congrArg (fun k => Value.int .i64 k) (by omega), HN.out.trans HH.out⟩
                      case measure => simp [intOf]; omega
                · have HH := hidB (close_one 39 _ k hlt2 D1.out (by rintro (h | h); exact D2.out h; exact D3.out h) (fun _ => Or.inl (by rw [← HPL.out]; omega)))
                  have hv5 : ¬ (k : Int) + 1 < (s.size : Int) := by omega
                  clear d1 d2 d3 d4
                  go_wp2_with fail
                  go_round
                  case rel => exact ⟨k + 1, by omega, by omega, by go_num, HN.out.trans HH.out⟩
                  case measure => simp [intOf]; omega
              · rw [decide_eq_false d4] at c4
                have HH := hidB (close_one 39 _ k hlt2 D1.out (by rintro (h | h); exact D2.out h; exact D3.out h) (fun h => absurd h d4))
                clear d1 d2 d3 d4
                go_wp2_with fail
                go_round
                case rel => exact ⟨k + 1, by omega, by omega, by go_num, HN.out.trans HH.out⟩
                case measure => simp [intOf]; omega
      · have CN : Hid (CloseAt 39 l (p + 1) = none) := hidB (HN.out.trans (close_end 39 _ k (by rw [← HPL.out]; omega)))
        have HB : Hid (tokR (l.drop p) = .bad 0) := hidB (HNONE.out CN.out)
        go_wp2_with fail
        refine bodyPost_ret (v := .tuple #[.agg #[.int .u8 0, .int .i64 0, .string ⟨#[]⟩, .float .f64 0], .int .i64 p, .bool false]) (by simp [results, Tryd.results38, go_sem]) rfl ?_
        exact tokAt_bad HB.out (by omega) _ _ _ _ (box_two _ _ _)

end Go.Proofs.YtkomjmgmancinaaDoor
