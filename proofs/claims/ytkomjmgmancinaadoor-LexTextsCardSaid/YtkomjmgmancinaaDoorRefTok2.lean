/-
  The walk of the reference's token: numbers.
-/
import Derived.Test.YtkomjmgmancinaaDoorRefTok1
import Derived.Test.YtkomjmgmancinaaDoorBlk
namespace Go.Proofs.YtkomjmgmancinaaDoor
open Go.RowKit

/-- How many bytes of a text are digits. -/
def digN (l : List UInt8) : Nat := (l.takeWhile isDig).length
theorem digN_at {l : List UInt8} {k : Nat} (h : k < l.length) (hc : isDig l[k] = true) : k + digN (l.drop k) = k + 1 + digN (l.drop (k + 1)) := by
  unfold digN
  rw [List.drop_eq_getElem_cons h, List.takeWhile_cons, if_pos hc, List.length_cons]; omega
theorem digN_stop {l : List UInt8} {k : Nat} (h : k < l.length) (hc : isDig l[k] = false) : k + digN (l.drop k) = k := by
  unfold digN
  rw [List.drop_eq_getElem_cons h, List.takeWhile_cons, if_neg (by rw [hc]; decide)]; rfl
theorem digN_end {l : List UInt8} {k : Nat} (h : l.length ≤ k) : k + digN (l.drop k) = k := by
  unfold digN
  rw [List.drop_eq_nil_of_le h]; rfl
theorem dig_all (l : List UInt8) : runN l = digN l ↔ (l.take (runN l)).all isDig = true := by
  induction l with
  | nil => simp [runN, digN]
  | cons c r ih =>
    unfold digN at *
    rw [List.takeWhile_cons, runN_cons]
    cases hd : isDig c
    · cases hn : isNm c
      · simp
      · simp [hd]
    · have hn : isNm c = true := by unfold isNm; rw [hd, Bool.or_true]
      rw [if_pos hn, if_pos rfl, List.length_cons]
      have e : ∀ m : Nat, (List.take (m + 1) (c :: r)).all isDig = (List.take m r).all isDig := fun m => by rw [List.take_succ_cons, List.all_cons, hd, Bool.true_and]
      rw [e, ← ih]
      omega

set_option linter.unusedSimpArgs false in
set_option maxHeartbeats 16000000 in
set_option maxRecDepth 100000 in
theorem rtok_dig (s : ByteArray) (p : Nat) (hp : p < s.size) (hs : s.size ≤ 70000) (hc : isLet s[p] = false) (hd : isDig s[p] = true) (w : World) : Calls Tryd.prog 38 #[.string s, .int .i64 p] w (TokAt s.data.toList p w) := by
  have K1 := hidB (fun W => first_any s[p] W)
  rw [hc] at K1
  have K2 := hidB (fun W => digit_any s[p] W)
  rw [hd] at K2
  obtain ⟨z, hz0⟩ : ∃ z, decide (s[p] = 48) = z := ⟨_, rfl⟩
  have b48 : ((s[p].toNat : Int) == 48) = z := (byte_eq s[p] 48 48 rfl).trans hz0
  have hpl : p < s.data.toList.length := by rw [← ba_size]; exact hp
  have hl0 : 0 < (s.data.toList.drop p).length := by rw [List.length_drop]; omega
  have hcl : (s.data.toList.drop p)[0] = s[p] := by rw [drop_head hpl]; rfl
  have HT := hidB (tokR_dig (s.data.toList.drop p) hl0 (by rw [hcl]; exact hc) (by rw [hcl]; exact hd))
  have R := hidB (fun W => named_any s (by omega) p (by omega) W)
  have hrl := runN_le (s.data.toList.drop p)
  have hrp := run_pos (s.data.toList.drop p) hl0 (by show (isLet (s.data.toList.drop p)[0] || isDig (s.data.toList.drop p)[0]) = true; rw [hcl, hc, hd]; rfl)
  rw [List.length_drop, ← ba_size] at hrl
  have hne : (s.data.toList.drop p).take (runN (s.data.toList.drop p)) ≠ [] := by
    intro e
    have := congrArg List.length e
    rw [List.length_take, List.length_drop] at this; simp only [List.length_nil] at this; omega
  have RD := hidB (fun h => read_digits ((s.data.toList.drop p).take (runN (s.data.toList.drop p))) hne h)
  have RA := hidB (fun W m (hm : m = p + runN (s.data.toList.drop p)) (h16 : runN (s.data.toList.drop p) ≤ 5000) => by have h := refRead_any (s.extract p m) W (by rw [ba_size, cut_data s p _ m hm, List.length_take]; omega); rw [cut_data s p _ m hm] at h; exact h)
  have DA := dig_all (s.data.toList.drop p)
  have HALL := hidB (fun d (hd : p + digN (s.data.toList.drop p) = d) (h : p + runN (s.data.toList.drop p) = d) => DA.1 (by omega))
  have HNOT := hidB (fun d (hd : p + digN (s.data.toList.drop p) = d) (h : ¬ p + runN (s.data.toList.drop p) = d) => (by rw [Bool.eq_false_iff]; intro h2; have := DA.2 h2; omega : ((s.data.toList.drop p).take (runN (s.data.toList.drop p))).all isDig = false))
  clear DA hne
  have hz : decide ((s.data.toList.drop p)[0] = 48) = z := by rw [hcl]; exact hz0
  have HZ := hidB hz
  have HPL := hidB (ba_size s)
  clear hz hz0 hcl hc hd hpl
  generalize runN (s.data.toList.drop p) = n at *
  obtain ⟨m, hm⟩ : ∃ m, m = p + n := ⟨_, rfl⟩
  rw [← hm] at R
  have hx0 : (0 : Int) ≤ (p : Int) := by omega
  have hx1 : (p : Int) < (s.size : Int) := by omega
  go_enter Tryd.func38, Tryd.ntmps38
  go_wp2_with fail
  refine (K1.out _).mono ?_; rintro e w1 ⟨rfl, rfl⟩
  go_wp2_with fail
  refine (K2.out _).mono ?_; rintro e w1 ⟨rfl, rfl⟩
  go_wp2_with fail
  go_loop [10] (fun v => ∃ k : Nat, p ≤ k ∧ k ≤ s.size ∧ v = .int .i64 k ∧ p + digN (s.data.toList.drop p) = k + digN (s.data.toList.drop k)) (fun v => s.size - (intOf v).toNat)
  case atStart => exact ⟨p, by omega, by omega, rfl, rfl⟩
  case round =>
    obtain ⟨d, hd0, hd1, rfl, hdn⟩ := hrel
    have DN := hidB hdn
    clear hdn
    have hw1 : IntKind.i64.wrap ((d : Int) - (p : Int)) = (d : Int) - (p : Int) := IntWalk.i64_in _ (by omega)
    have hw2 : IntKind.i64.wrap ((p : Int) + 1) = (p : Int) + 1 := IntWalk.i64_in _ (by omega)
    have hw3 : (p : Int) ≤ (d : Int) := by omega
    have hw4 : (d : Int) ≤ (s.size : Int) := by omega
    by_cases hlt : d < s.size
    · have hx3 : (0 : Int) ≤ (d : Int) := by omega
      have K3 := hidB (fun W => digit_any s[d] W)
      obtain ⟨c, hc⟩ : ∃ c, s[d] = c := ⟨_, rfl⟩
      have hlt2 : d < s.data.toList.length := by rw [← HPL.out]; exact hlt
      have hcl : s.data.toList[d] = c := by rw [← hc]; rfl
      cases hdc : isDig s[d]
      · rw [hdc] at K3
        have DE := hidB (DN.out.trans (digN_stop hlt2 (by rw [hcl, ← hc]; exact hdc)))
        replace HALL := hidB (HALL.out d DE.out)
        replace HNOT := hidB (HNOT.out d DE.out)
        clear hdc hcl hc hlt2
        by_cases hnd : p + n = d
        · have hmd : m = d := hm.trans hnd
          replace R := hidB (fun W => hmd ▸ R.out W)
          have HD := hidB (HALL.out hnd)
          have RA2 := hidB (fun W h16 => RA.out W d hnd.symm h16)
          replace RD := hidB (RD.out HD.out)
          by_cases c1 : z = true ∧ 1 < n
          · obtain ⟨hz1, c2⟩ := c1
            have HB : Hid (tokR (s.data.toList.drop p) = .bad 0) := hidB (by rw [HT.out, if_pos (Or.inr (Or.inl ⟨of_decide_eq_true (by rw [HZ.out]; exact hz1), c2⟩))])
            have hx5 : (p : Int) + 1 < (d : Int) := by omega
            rw [hz1] at b48
            clear hnd c2
            go_wp2_with (go_at_call 61; refine (K3.out _).mono ?_; rintro e w' ⟨rfl, rfl⟩)
            refine (R.out _).mono ?_; rintro e w1 ⟨rfl, rfl⟩
            go_wp2_with fail
            refine bodyPost_ret (v := .tuple #[.agg #[.int .u8 0, .int .i64 0, .string ⟨#[]⟩, .float .f64 0], .int .i64 p, .bool false]) (by simp [results, Tryd.results38, go_sem]) rfl ?_
            exact tokAt_bad HB.out (by omega) _ _ _ _ (box_two _ _ _)
          · have N1 : Hid (¬ ((s.data.toList.drop p)[0] = 48 ∧ 1 < n)) := hidB (by rintro ⟨h1, h2⟩; exact c1 ⟨by rw [← HZ.out]; exact decide_eq_true h1, h2⟩)
            have c2 : z = false ∨ (z = true ∧ ¬ (p : Int) + 1 < (d : Int)) := by
              cases z
              · exact Or.inl rfl
              · right; refine ⟨rfl, fun h => ?_⟩; exact c1 ⟨rfl, by omega⟩
            clear c1
            by_cases c3 : 16 < n
            · have HB : Hid (tokR (s.data.toList.drop p) = .bad 0) := hidB (by rw [HT.out, if_pos (Or.inr (Or.inr (Or.inl c3)))])
              have hx5 : (16 : Int) < (d : Int) - (p : Int) := by omega
              rcases c2 with hz1 | ⟨hz1, hx6⟩
              · rw [hz1] at b48
                clear hnd
                go_wp2_with (go_at_call 61; refine (K3.out _).mono ?_; rintro e w' ⟨rfl, rfl⟩)
                refine (R.out _).mono ?_; rintro e w1 ⟨rfl, rfl⟩
                go_wp2_with fail
                refine bodyPost_ret (v := .tuple #[.agg #[.int .u8 0, .int .i64 0, .string ⟨#[]⟩, .float .f64 0], .int .i64 p, .bool false]) (by simp [results, Tryd.results38, go_sem]) rfl ?_
                exact tokAt_bad HB.out (by omega) _ _ _ _ (box_two _ _ _)
              · omega
            · have hx5 : ¬ (16 : Int) < (d : Int) - (p : Int) := by omega
              have RA3 := hidB (fun W => RA2.out W (by omega))
              rw [RD.out] at RA3
              by_cases c4 : 9007199254740991 < worth ((s.data.toList.drop p).take n)
              · rw [if_pos c4] at RA3
                have HB : Hid (tokR (s.data.toList.drop p) = .bad 0) := hidB (by rw [HT.out, if_pos (Or.inr (Or.inr (Or.inr c4)))])
                clear hnd c4
                rcases c2 with hz1 | ⟨hz1, hx6⟩
                · rw [hz1] at b48
                  go_wp2_with (go_at_call 61; refine (K3.out _).mono ?_; rintro e w' ⟨rfl, rfl⟩)
                  refine (R.out _).mono ?_; rintro e w1 ⟨rfl, rfl⟩
                  go_wp2_with fail
                  refine (RA3.out _).mono ?_; rintro e w3 ⟨⟨v, rfl, hv⟩, b3⟩
                  have Bt := hidB (grow (box_two _ _ _) b3)
                  have TT := hidB ((Two.new w 25 #[.int .u8 0, .int .i64 0, .string ⟨#[]⟩, .float .f64 0] #[.int .u8 0, .int .i64 p, .string ⟨#[]⟩, .float .f64 0]).on b3)
                  obtain ⟨a0, a1, a2, a3, b0, b1, b2, b3, fa, fb⟩ := TT.out.facts
                  clear hv
                  go_wp2_with fail
                  refine bodyPost_ret (v := .tuple #[.agg #[.int .u8 0, .int .i64 0, .string ⟨#[]⟩, .float .f64 0], .int .i64 p, .bool false]) (by simp [results, Tryd.results38, go_sem, a0, a1, a2, a3, b0, b1, b2, b3, fa, fb]) rfl ?_
                  exact tokAt_bad HB.out (by omega) _ _ _ _ (by (repeat (refine Below.setCell ?_ (by first | exact Nat.le_refl _ | exact Nat.le_succ _) _)); exact Bt.out)
                · rw [hz1] at b48
                  go_wp2_with (go_at_call 61; refine (K3.out _).mono ?_; rintro e w' ⟨rfl, rfl⟩)
                  refine (R.out _).mono ?_; rintro e w1 ⟨rfl, rfl⟩
                  go_wp2_with fail
                  refine (RA3.out _).mono ?_; rintro e w3 ⟨⟨v, rfl, hv⟩, b3⟩
                  have Bt := hidB (grow (box_two _ _ _) b3)
                  have TT := hidB ((Two.new w 25 #[.int .u8 0, .int .i64 0, .string ⟨#[]⟩, .float .f64 0] #[.int .u8 0, .int .i64 p, .string ⟨#[]⟩, .float .f64 0]).on b3)
                  obtain ⟨a0, a1, a2, a3, b0, b1, b2, b3, fa, fb⟩ := TT.out.facts
                  clear hv
                  go_wp2_with fail
                  refine bodyPost_ret (v := .tuple #[.agg #[.int .u8 0, .int .i64 0, .string ⟨#[]⟩, .float .f64 0], .int .i64 p, .bool false]) (by simp [results, Tryd.results38, go_sem, a0, a1, a2, a3, b0, b1, b2, b3, fa, fb]) rfl ?_
                  exact tokAt_bad HB.out (by omega) _ _ _ _ (by (repeat (refine Below.setCell ?_ (by first | exact Nat.le_refl _ | exact Nat.le_succ _) _)); exact Bt.out)
              · rw [if_neg c4] at RA3
                have HO : Hid (tokR (s.data.toList.drop p) = ⟨true, 3, [], worth ((s.data.toList.drop p).take n), n⟩) := hidB (by
                  rw [HT.out, if_neg]
                  rintro (h | h | h | h)
                  · rw [HD.out] at h; cases h
                  · exact N1.out h
                  · exact c3 h
                  · exact c4 h)
                have HS := hidB (show worth ((s.data.toList.drop p).take n) ≤ 9007199254740991 by omega)
                have HN := hidB hnd
                clear hnd c4
                rcases c2 with hz1 | ⟨hz1, hx6⟩
                · rw [hz1] at b48
                  go_wp2_with (go_at_call 61; refine (K3.out _).mono ?_; rintro e w' ⟨rfl, rfl⟩)
                  refine (R.out _).mono ?_; rintro e w1 ⟨rfl, rfl⟩
                  go_wp2_with fail
                  refine (RA3.out _).mono ?_; rintro e w3 ⟨⟨v, rfl, hv⟩, b3⟩
                  have Bt := hidB (grow (box_two _ _ _) b3)
                  have TT := hidB ((Two.new w 25 #[.int .u8 0, .int .i64 0, .string ⟨#[]⟩, .float .f64 0] #[.int .u8 0, .int .i64 p, .string ⟨#[]⟩, .float .f64 0]).on b3)
                  have MV := hidB (fun W => refMay_any v W)
                  rw [may_is hv HS.out] at MV
                  have HV := hidB hv
                  obtain ⟨a0, a1, a2, a3, b0, b1, b2, b3, fa, fb⟩ := TT.out.facts
                  clear hv
                  go_wp2_with fail
                  refine (MV.out _).mono ?_; rintro e w4 ⟨rfl, rfl⟩
                  go_wp2_with fail
                  refine bodyPost_ret (v := .tuple #[.agg #[.int .u8 3, .int .i64 p, .string ⟨#[]⟩, .float .f64 v], .int .i64 d, .bool true]) (by simp [results, Tryd.results38, go_sem, a0, a1, a2, a3, b0, b1, b2, b3, fa, fb]) rfl ?_
                  exact tokAt_ok HO.out rfl (show ((d : Nat) : Int) = ((p + n : Nat) : Int) by have := HN.out; omega) rfl rfl rfl HV.out (by (repeat (refine Below.setCell ?_ (by first | exact Nat.le_refl _ | exact Nat.le_succ _) _)); exact Bt.out)
                · rw [hz1] at b48
                  go_wp2_with (go_at_call 61; refine (K3.out _).mono ?_; rintro e w' ⟨rfl, rfl⟩)
                  refine (R.out _).mono ?_; rintro e w1 ⟨rfl, rfl⟩
                  go_wp2_with fail
                  refine (RA3.out _).mono ?_; rintro e w3 ⟨⟨v, rfl, hv⟩, b3⟩
                  have Bt := hidB (grow (box_two _ _ _) b3)
                  have TT := hidB ((Two.new w 25 #[.int .u8 0, .int .i64 0, .string ⟨#[]⟩, .float .f64 0] #[.int .u8 0, .int .i64 p, .string ⟨#[]⟩, .float .f64 0]).on b3)
                  have MV := hidB (fun W => refMay_any v W)
                  rw [may_is hv HS.out] at MV
                  have HV := hidB hv
                  obtain ⟨a0, a1, a2, a3, b0, b1, b2, b3, fa, fb⟩ := TT.out.facts
                  clear hv
                  go_wp2_with fail
                  refine (MV.out _).mono ?_; rintro e w4 ⟨rfl, rfl⟩
                  go_wp2_with fail
                  refine bodyPost_ret (v := .tuple #[.agg #[.int .u8 3, .int .i64 p, .string ⟨#[]⟩, .float .f64 v], .int .i64 d, .bool true]) (by simp [results, Tryd.results38, go_sem, a0, a1, a2, a3, b0, b1, b2, b3, fa, fb]) rfl ?_
                  exact tokAt_ok HO.out rfl (show ((d : Nat) : Int) = ((p + n : Nat) : Int) by have := HN.out; omega) rfl rfl rfl HV.out (by (repeat (refine Below.setCell ?_ (by first | exact Nat.le_refl _ | exact Nat.le_succ _) _)); exact Bt.out)
        · have HB : Hid (tokR (s.data.toList.drop p) = .bad 0) := hidB (by rw [HT.out, if_pos (Or.inl (HNOT.out hnd))])
          have b5 : ((m : Int) != (d : Int)) = true := by rw [bne_iff_ne]; omega
          have hmd : ¬ m = d := by omega
          clear hnd hm
          go_wp2_with (go_at_call 61; refine (K3.out _).mono ?_; rintro e w' ⟨rfl, rfl⟩)
          refine (R.out _).mono ?_; rintro e w1 ⟨rfl, rfl⟩
          go_wp2_with fail
          refine bodyPost_ret (v := .tuple #[.agg #[.int .u8 0, .int .i64 0, .string ⟨#[]⟩, .float .f64 0], .int .i64 p, .bool false]) (by simp [results, Tryd.results38, go_sem]) rfl ?_
          exact tokAt_bad HB.out (by omega) _ _ _ _ (box_two _ _ _)
      · rw [hdc] at K3
        have DE := hidB (DN.out.trans (digN_at hlt2 (by rw [hcl, ← hc]; exact hdc)))
        clear hdc hcl hc hlt2
        go_wp2_with (go_at_call 61; refine (K3.out _).mono ?_; rintro e w' ⟨rfl, rfl⟩)
        go_round
        case rel => exact ⟨d + 1, by omega, by omega, by go_num, DE.out⟩
        case measure => simp [intOf]; omega
    · have DE := hidB (DN.out.trans (digN_end (k := d) (by rw [← HPL.out]; omega)))
      replace HALL := hidB (HALL.out d DE.out)
      replace HNOT := hidB (HNOT.out d DE.out)
      by_cases hnd : p + n = d
      · have hmd : m = d := hm.trans hnd
        replace R := hidB (fun W => hmd ▸ R.out W)
        have HD := hidB (HALL.out hnd)
        have RA2 := hidB (fun W h16 => RA.out W d hnd.symm h16)
        replace RD := hidB (RD.out HD.out)
        by_cases c1 : z = true ∧ 1 < n
        · obtain ⟨hz1, c2⟩ := c1
          have HB : Hid (tokR (s.data.toList.drop p) = .bad 0) := hidB (by rw [HT.out, if_pos (Or.inr (Or.inl ⟨of_decide_eq_true (by rw [HZ.out]; exact hz1), c2⟩))])
          have hx5 : (p : Int) + 1 < (d : Int) := by omega
          rw [hz1] at b48
          clear hnd c2
          go_wp2_with fail
          refine (R.out _).mono ?_; rintro e w1 ⟨rfl, rfl⟩
          go_wp2_with fail
          refine bodyPost_ret (v := .tuple #[.agg #[.int .u8 0, .int .i64 0, .string ⟨#[]⟩, .float .f64 0], .int .i64 p, .bool false]) (by simp [results, Tryd.results38, go_sem]) rfl ?_
          exact tokAt_bad HB.out (by omega) _ _ _ _ (box_two _ _ _)
        · have N1 : Hid (¬ ((s.data.toList.drop p)[0] = 48 ∧ 1 < n)) := hidB (by rintro ⟨h1, h2⟩; exact c1 ⟨by rw [← HZ.out]; exact decide_eq_true h1, h2⟩)
          have c2 : z = false ∨ (z = true ∧ ¬ (p : Int) + 1 < (d : Int)) := by
            cases z
            · exact Or.inl rfl
            · right; refine ⟨rfl, fun h => ?_⟩; exact c1 ⟨rfl, by omega⟩
          clear c1
          by_cases c3 : 16 < n
          · have HB : Hid (tokR (s.data.toList.drop p) = .bad 0) := hidB (by rw [HT.out, if_pos (Or.inr (Or.inr (Or.inl c3)))])
            have hx5 : (16 : Int) < (d : Int) - (p : Int) := by omega
            rcases c2 with hz1 | ⟨hz1, hx6⟩
            · rw [hz1] at b48
              clear hnd
              go_wp2_with fail
              refine (R.out _).mono ?_; rintro e w1 ⟨rfl, rfl⟩
              go_wp2_with fail
              refine bodyPost_ret (v := .tuple #[.agg #[.int .u8 0, .int .i64 0, .string ⟨#[]⟩, .float .f64 0], .int .i64 p, .bool false]) (by simp [results, Tryd.results38, go_sem]) rfl ?_
              exact tokAt_bad HB.out (by omega) _ _ _ _ (box_two _ _ _)
            · omega
          · have hx5 : ¬ (16 : Int) < (d : Int) - (p : Int) := by omega
            have RA3 := hidB (fun W => RA2.out W (by omega))
            rw [RD.out] at RA3
            by_cases c4 : 9007199254740991 < worth ((s.data.toList.drop p).take n)
            · rw [if_pos c4] at RA3
              have HB : Hid (tokR (s.data.toList.drop p) = .bad 0) := hidB (by rw [HT.out, if_pos (Or.inr (Or.inr (Or.inr c4)))])
              clear hnd c4
              rcases c2 with hz1 | ⟨hz1, hx6⟩
              · rw [hz1] at b48
                go_wp2_with fail
                refine (R.out _).mono ?_; rintro e w1 ⟨rfl, rfl⟩
                go_wp2_with fail
                refine (RA3.out _).mono ?_; rintro e w3 ⟨⟨v, rfl, hv⟩, b3⟩
                have Bt := hidB (grow (box_two _ _ _) b3)
                have TT := hidB ((Two.new w 25 #[.int .u8 0, .int .i64 0, .string ⟨#[]⟩, .float .f64 0] #[.int .u8 0, .int .i64 p, .string ⟨#[]⟩, .float .f64 0]).on b3)
                obtain ⟨a0, a1, a2, a3, b0, b1, b2, b3, fa, fb⟩ := TT.out.facts
                clear hv
                go_wp2_with fail
                refine bodyPost_ret (v := .tuple #[.agg #[.int .u8 0, .int .i64 0, .string ⟨#[]⟩, .float .f64 0], .int .i64 p, .bool false]) (by simp [results, Tryd.results38, go_sem, a0, a1, a2, a3, b0, b1, b2, b3, fa, fb]) rfl ?_
                exact tokAt_bad HB.out (by omega) _ _ _ _ (by (repeat (refine Below.setCell ?_ (by first | exact Nat.le_refl _ | exact Nat.le_succ _) _)); exact Bt.out)
              · rw [hz1] at b48
                go_wp2_with fail
                refine (R.out _).mono ?_; rintro e w1 ⟨rfl, rfl⟩
                go_wp2_with fail
                refine (RA3.out _).mono ?_; rintro e w3 ⟨⟨v, rfl, hv⟩, b3⟩
                have Bt := hidB (grow (box_two _ _ _) b3)
                have TT := hidB ((Two.new w 25 #[.int .u8 0, .int .i64 0, .string ⟨#[]⟩, .float .f64 0] #[.int .u8 0, .int .i64 p, .string ⟨#[]⟩, .float .f64 0]).on b3)
                obtain ⟨a0, a1, a2, a3, b0, b1, b2, b3, fa, fb⟩ := TT.out.facts
                clear hv
                go_wp2_with fail
                refine bodyPost_ret (v := .tuple #[.agg #[.int .u8 0, .int .i64 0, .string ⟨#[]⟩, .float .f64 0], .int .i64 p, .bool false]) (by simp [results, Tryd.results38, go_sem, a0, a1, a2, a3, b0, b1, b2, b3, fa, fb]) rfl ?_
                exact tokAt_bad HB.out (by omega) _ _ _ _ (by (repeat (refine Below.setCell ?_ (by first | exact Nat.le_refl _ | exact Nat.le_succ _) _)); exact Bt.out)
            · rw [if_neg c4] at RA3
              have HO : Hid (tokR (s.data.toList.drop p) = ⟨true, 3, [], worth ((s.data.toList.drop p).take n), n⟩) := hidB (by
                rw [HT.out, if_neg]
                rintro (h | h | h | h)
                · rw [HD.out] at h; cases h
                · exact N1.out h
                · exact c3 h
                · exact c4 h)
              have HS := hidB (show worth ((s.data.toList.drop p).take n) ≤ 9007199254740991 by omega)
              have HN := hidB hnd
              clear hnd c4
              rcases c2 with hz1 | ⟨hz1, hx6⟩
              · rw [hz1] at b48
                go_wp2_with fail
                refine (R.out _).mono ?_; rintro e w1 ⟨rfl, rfl⟩
                go_wp2_with fail
                refine (RA3.out _).mono ?_; rintro e w3 ⟨⟨v, rfl, hv⟩, b3⟩
                have Bt := hidB (grow (box_two _ _ _) b3)
                have TT := hidB ((Two.new w 25 #[.int .u8 0, .int .i64 0, .string ⟨#[]⟩, .float .f64 0] #[.int .u8 0, .int .i64 p, .string ⟨#[]⟩, .float .f64 0]).on b3)
                have MV := hidB (fun W => refMay_any v W)
                rw [may_is hv HS.out] at MV
                have HV := hidB hv
                obtain ⟨a0, a1, a2, a3, b0, b1, b2, b3, fa, fb⟩ := TT.out.facts
                clear hv
                go_wp2_with fail
                refine (MV.out _).mono ?_; rintro e w4 ⟨rfl, rfl⟩
                go_wp2_with fail
                refine bodyPost_ret (v := .tuple #[.agg #[.int .u8 3, .int .i64 p, .string ⟨#[]⟩, .float .f64 v], .int .i64 d, .bool true]) (by simp [results, Tryd.results38, go_sem, a0, a1, a2, a3, b0, b1, b2, b3, fa, fb]) rfl ?_
                exact tokAt_ok HO.out rfl (show ((d : Nat) : Int) = ((p + n : Nat) : Int) by have := HN.out; omega) rfl rfl rfl HV.out (by (repeat (refine Below.setCell ?_ (by first | exact Nat.le_refl _ | exact Nat.le_succ _) _)); exact Bt.out)
              · rw [hz1] at b48
                go_wp2_with fail
                refine (R.out _).mono ?_; rintro e w1 ⟨rfl, rfl⟩
                go_wp2_with fail
                refine (RA3.out _).mono ?_; rintro e w3 ⟨⟨v, rfl, hv⟩, b3⟩
                have Bt := hidB (grow (box_two _ _ _) b3)
                have TT := hidB ((Two.new w 25 #[.int .u8 0, .int .i64 0, .string ⟨#[]⟩, .float .f64 0] #[.int .u8 0, .int .i64 p, .string ⟨#[]⟩, .float .f64 0]).on b3)
                have MV := hidB (fun W => refMay_any v W)
                rw [may_is hv HS.out] at MV
                have HV := hidB hv
                obtain ⟨a0, a1, a2, a3, b0, b1, b2, b3, fa, fb⟩ := TT.out.facts
                clear hv
                go_wp2_with fail
                refine (MV.out _).mono ?_; rintro e w4 ⟨rfl, rfl⟩
                go_wp2_with fail
                refine bodyPost_ret (v := .tuple #[.agg #[.int .u8 3, .int .i64 p, .string ⟨#[]⟩, .float .f64 v], .int .i64 d, .bool true]) (by simp [results, Tryd.results38, go_sem, a0, a1, a2, a3, b0, b1, b2, b3, fa, fb]) rfl ?_
                exact tokAt_ok HO.out rfl (show ((d : Nat) : Int) = ((p + n : Nat) : Int) by have := HN.out; omega) rfl rfl rfl HV.out (by (repeat (refine Below.setCell ?_ (by first | exact Nat.le_refl _ | exact Nat.le_succ _) _)); exact Bt.out)
      · have HB : Hid (tokR (s.data.toList.drop p) = .bad 0) := hidB (by rw [HT.out, if_pos (Or.inl (HNOT.out hnd))])
        have b5 : ((m : Int) != (d : Int)) = true := by rw [bne_iff_ne]; omega
        have hmd : ¬ m = d := by omega
        clear hnd hm
        go_wp2_with fail
        refine (R.out _).mono ?_; rintro e w1 ⟨rfl, rfl⟩
        go_wp2_with fail
        refine bodyPost_ret (v := .tuple #[.agg #[.int .u8 0, .int .i64 0, .string ⟨#[]⟩, .float .f64 0], .int .i64 p, .bool false]) (by simp [results, Tryd.results38, go_sem]) rfl ?_
        exact tokAt_bad HB.out (by omega) _ _ _ _ (box_two _ _ _)

end Go.Proofs.YtkomjmgmancinaaDoor
