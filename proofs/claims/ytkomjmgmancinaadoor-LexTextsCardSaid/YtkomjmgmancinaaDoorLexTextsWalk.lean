/-
  The walk of the statement LexTexts.
-/
import Derived.Test.YtkomjmgmancinaaDoorSameT
namespace Go.Proofs.YtkomjmgmancinaaDoor
open Go.RowKit

def longB (n : Nat) : Bool := (decide (33000 < n) && decide (n ≤ 65536)) || decide (66000 < n)
theorem long_any (s : ByteArray) (w : World) : Calls Tryd.prog 11 #[.string s] w fun e w' => e = .returned (.bool (longB s.size)) ∧ w = w' := by
  unfold longB
  by_cases h1 : 33000 < s.size
  · by_cases h2 : s.size ≤ 65536
    · have hx1 : (33000 : Int) < (s.size : Int) := by omega
      have hx2 : (s.size : Int) ≤ 65536 := by omega
      rw [decide_eq_true h1, decide_eq_true h2]
      go_enter Tryd.func11, Tryd.ntmps11
      go_wp2_with fail
      go_ret
      exact ⟨rfl, rfl⟩
    · have hx1 : (33000 : Int) < (s.size : Int) := by omega
      have hx2 : ¬ (s.size : Int) ≤ 65536 := by omega
      rw [decide_eq_true h1, decide_eq_false h2]
      by_cases h3 : 66000 < s.size
      · have hx3 : (66000 : Int) < (s.size : Int) := by omega
        rw [decide_eq_true h3]
        go_enter Tryd.func11, Tryd.ntmps11
        go_wp2_with fail
        go_ret
        exact ⟨rfl, rfl⟩
      · have hx3 : ¬ (66000 : Int) < (s.size : Int) := by omega
        rw [decide_eq_false h3]
        go_enter Tryd.func11, Tryd.ntmps11
        go_wp2_with fail
        go_ret
        exact ⟨rfl, rfl⟩
  · have hx1 : ¬ (33000 : Int) < (s.size : Int) := by omega
    have hx3 : ¬ (66000 : Int) < (s.size : Int) := by omega
    rw [decide_eq_false h1, decide_eq_false (show ¬ 66000 < s.size by omega)]
    go_enter Tryd.func11, Tryd.ntmps11
    go_wp2_with fail
    go_ret
    exact ⟨rfl, rfl⟩

theorem set_grownT (w : World) (p : Addr) (u : Value) : w.grownBy (w.setCell p u) (some p.block) := ⟨rfl, rfl, rfl, by simp [World.setCell], fun k _ hn => Below.heap_setCell w p u k (by rintro rfl; exact hn rfl)⟩
theorem own_setCell {w : World} {base : Nat} {e : TypeId} {sz : Nat} {v : Value} {n : Nat} {xs : List Value} (h : w.ownsRow base e sz v n xs) {p : Addr} (hn : v.ownBlock ≠ some p.block) (u : Value) : (w.setCell p u).ownsRow base e sz v n xs :=
  h.kept (set_grownT w p u) (Or.inr hn)
theorem row_small {B : Nat} {cs : List TC} {v : Value} {w : World} (h : RowT B cs v w) : cs.length ≤ 9223372036854775807 := by
  obtain ⟨_, ⟨_, h1⟩ | ⟨g2, cap, cur, h1, h2, h3, h4, h5, _⟩⟩ := h
  · omega
  · unfold maxLen at h5; omega
theorem row_block {B : Nat} {cs : List TC} {g c : Nat} {w : World} (h : RowT B cs (.slice (some ⟨g, 0, none⟩) cs.length c) w) : ∃ cur, Bk w g 25 cur ∧ cs.length * 4 ≤ cur.size ∧ B ≤ g := by
  obtain ⟨_, ⟨h1, _⟩ | ⟨g2, cap, cur, h1, h2, h3, h4, _, h5, _⟩⟩ := h
  · cases h1
  · cases h1
    exact ⟨cur, h3, by rw [h5]; omega, h2⟩
theorem bk_store {w : World} {g : Nat} {cur : Array Value} (h : Bk w g 25 cur) (o : Nat) (a b c d : Value) : Bk ((((w.setCell ⟨g, o, none⟩ a).setCell ⟨g, o + 1, none⟩ b).setCell ⟨g, o + 2, none⟩ c).setCell ⟨g, o + 3, none⟩ d) g 25 ((((cur.setIfInBounds o a).setIfInBounds (o + 1) b).setIfInBounds (o + 2) c).setIfInBounds (o + 3) d) :=
  (((h.set o a).set (o + 1) b).set (o + 2) c).set (o + 3) d
theorem bk_some {w : World} {g : Nat} {cur : Array Value} (h : Bk w g 25 cur) (i : Nat) (hi : i < cur.size) : ∃ u, w.cell? ⟨g, i, none⟩ = some u := ⟨cur[i], by rw [h.cell i]; simp [hi]⟩

set_option maxHeartbeats 8000000 in
set_option maxRecDepth 100000 in
theorem law_texts (s : ByteArray) (w : World) (hm : Mx w) : Calls Tryd.prog 4 #[.string s] w fun e w' => e = .returned (.bool true) ∧ Below w.heap.size w w' := by
  have LG := hidB (fun W => long_any s W)
  cases hlong : longB s.size
  · rw [hlong] at LG
    have hs : s.size ≤ 70000 := by
      unfold longB at hlong
      rw [Bool.or_eq_false_iff, Bool.and_eq_false_iff, decide_eq_false_iff_not, decide_eq_false_iff_not, decide_eq_false_iff_not] at hlong
      omega
    have TA := hidB (fun W h => tokens_any s hs W h)
    have TB := hidB (fun W => refTokens_any s hs W)
    have WA := hidB (fun W h => wordP_any s (by omega) W h)
    have WB := hidB (fun W => refWord_any s (by omega) W)
    have SA := hidB (fun W h => signP_any s (by omega) W h)
    have SB := hidB (fun W => refSign_any s (by omega) W)
    unfold TokensQ at TA TB
    have M := hidB hm
    clear hm hlong
    generalize wordB s.data.toList = wb at *
    generalize signB s.data.toList = sb at *
    generalize lexR s.data.toList = lx at *
    obtain ⟨ts, pl, er⟩ := lx
    simp only at TA TB
    go_enter Tryd.func4, Tryd.ntmps4
    go_wp2_with fail
    refine (LG.out _).mono ?_; rintro e w1 ⟨rfl, rfl⟩
    go_wp2_with fail
    refine (TA.out _ M.out).mono ?_; rintro e w1 ⟨v1, c1, rfl, hr1, hm1, hb1⟩
    have R1 := hidB hr1
    have M1 := hidB hm1
    have B1 := hidB hb1
    clear hr1 hm1 hb1
    obtain ⟨pa, xa, rfl, hpa⟩ := rowT_form R1.out
    have PA := hidB hpa
    clear hpa
    go_wp2_with fail
    refine (TB.out _).mono ?_; rintro e w2 ⟨v2, c2, rfl, hr2, hm2, hb2⟩
    have R2 := hidB hr2
    have M2 := hidB hm2
    have R1b := hidB (row_below R1.out hb2)
    have B2 := hidB (grow B1.out hb2)
    have HB2 := hidB hb2
    clear hr2 hm2 hb2
    obtain ⟨pb, xb, rfl, hpb⟩ := rowT_form R2.out
    clear hpb
    have hlen : ts.length ≤ 9223372036854775807 := by rw [mts_length M1.out]; exact row_small R1.out
    have hlc : c1.length ≤ 9223372036854775807 := row_small R1.out
    have SM := hidB (fun W (h1 : RowT w.heap.size c1 (.slice pa c1.length xa) W) (h2 : RowT w1.heap.size c2 (.slice pb c2.length xb) W) => refSame_any ts c1 c2 M1.out M2.out hlen _ _ _ _ W h1 h2)
    go_wp2_with fail
    refine (SM.out _ R1b.out R2.out).mono ?_; rintro e w3 ⟨rfl, hb3⟩
    have R1c := hidB (row_below R1b.out hb3)
    have R2c := hidB (row_below R2.out hb3)
    have B3 := hidB (grow B2.out hb3)
    have HB3 := hidB hb3
    clear hb3
    go_wp2_with fail
    refine (WA.out _ (mx_below M.out B3.out)).mono ?_; rintro e w4 ⟨rfl, rfl⟩
    go_wp2_with fail
    refine (WB.out _).mono ?_; rintro e w4 ⟨rfl, rfl⟩
    go_wp2_with fail
    refine (SA.out _ (mx_below M.out B3.out)).mono ?_; rintro e w4 ⟨rfl, rfl⟩
    go_wp2_with fail
    refine (SB.out _).mono ?_; rintro e w4 ⟨rfl, rfl⟩
    go_wp2_with fail
    go_loopw [9] (fun i wr => ∃ k : Nat, k ≤ c1.length ∧ i = .int .i64 k ∧ Below w.heap.size w wr ∧ RowT w1.heap.size c2 (.slice pb c2.length xb) wr ∧ (∀ g, pa = some ⟨g, 0, none⟩ → ∃ cur, Bk wr g 25 cur ∧ c1.length * 4 ≤ cur.size)) (fun i _ => c1.length - (intOf i).toNat)
    case atStart => exact ⟨0, by omega, rfl, B3.out, R2c.out, fun g hg => by
      have h := R1c.out
      rw [hg] at h
      obtain ⟨cur, h1, h2, _⟩ := row_block h
      exact ⟨cur, h1, h2⟩⟩
    case round =>
      obtain ⟨k, hk, rfl, hb, hr, hc⟩ := hrel
      have Bt := hidB hb
      have RR := hidB hr
      have CC := hidB hc
      clear hb hr hc
      by_cases hlt : k < c1.length
      · obtain ⟨g, rfl⟩ := PA.out (by omega)
        obtain ⟨cur, hbk, hcs⟩ := CC.out g rfl
        have BK := hidB hbk
        have hg1 := (row_block R1.out)
        obtain ⟨cur1, hk1, _, hge⟩ := hg1
        have HGE := hidB hge
        have HLT := hidB hk1.lt
        have HCS := hidB hcs
        obtain ⟨u0, f0⟩ := bk_some BK.out (k * 4) (by omega)
        obtain ⟨u1, f1⟩ := bk_some BK.out (k * 4 + 1) (by omega)
        obtain ⟨u2, f2⟩ := bk_some BK.out (k * 4 + 2) (by omega)
        obtain ⟨u3, f3⟩ := bk_some BK.out (k * 4 + 3) (by omega)
        have fr := BK.out.free
        have hx1 : (0 : Int) ≤ (k : Int) := by omega
        have hx2 : (k : Int) < (c1.length : Int) := by omega
        clear hbk hk1 hge hcs
        go_wp2_with fail
        go_roundw
        case rel =>
          have hne : (Value.slice pb c2.length xb).ownBlock ≠ some g := by
            intro he
            have h1 := (RR.out.lt g he).1
            have h2 := HLT.out
            omega
          refine ⟨k + 1, by omega, by go_num, (by (repeat (refine Below.setCell ?_ HGE.out _)); exact Bt.out), (by (repeat (refine own_setCell ?_ hne _)); exact RR.out), fun g2 hg2 => ?_⟩
          cases hg2
          exact ⟨_, bk_store BK.out (k * 4) _ _ _ _, by simp; exact HCS.out⟩
        case measure => simp [intOf]; omega
      · go_wp2_with fail
        refine (TA.out _ (mx_below M.out Bt.out)).mono ?_; rintro e w5 ⟨v3, c3, rfl, hr3, hm3, hb5⟩
        have R3 := hidB hr3
        have M3 := hidB hm3
        have RR2 := hidB (row_below RR.out hb5)
        have B5 := hidB (grow Bt.out hb5)
        clear hr3 hm3 hb5
        obtain ⟨pc, xc, rfl, hpc⟩ := rowT_form R3.out
        clear hpc
        have SM2 := hidB (refSame_any ts c3 c2 M3.out M2.out hlen _ _ _ _ _ R3.out RR2.out)
        go_wp2_with fail
        refine SM2.out.mono ?_; rintro e w6 ⟨rfl, hb6⟩
        have B6 := hidB (grow B5.out hb6)
        clear hb6
        go_wp2_with fail
        go_ret
        exact ⟨rfl, B6.out⟩
  · rw [hlong] at LG
    clear hlong
    go_enter Tryd.func4, Tryd.ntmps4
    go_wp2_with fail
    refine (LG.out _).mono ?_; rintro e w1 ⟨rfl, rfl⟩
    go_wp2_with fail
    go_ret
    exact ⟨rfl, Below.refl _ _⟩

end Go.Proofs.YtkomjmgmancinaaDoor
