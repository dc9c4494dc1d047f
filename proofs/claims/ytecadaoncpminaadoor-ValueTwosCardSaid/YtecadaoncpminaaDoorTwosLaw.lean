/-
  The reference's Plain at all kinds; ValueTwos, walked.
-/
import Derived.Test.YtecadaoncpminaaDoorRefPlain
namespace Go.Proofs.YtecadaoncpminaaDoor
open Go.RowKit

theorem rplain_any (k1 : Int) (x1 : Nat) (s1 : ByteArray) (r1 : Int) (k2 : Int) (x2 : Nat) (s2 : ByteArray) (r2 : Int) (h0 : 0 ≤ k1) (g0 : 0 ≤ k2) (w : World) : Calls Tryd.prog 8 #[val k1 x1 s1 r1, val k2 x2 s2 r2] w (Pl (plainV k1 x1 s1 r1 k2 x2 s2 r2) w) := by
  unfold plainV
  cases m1 : mayV k1 x1 s1 r1
  · rw [if_pos (Or.inl rfl)]; exact rplain_no1 k1 x1 s1 r1 k2 x2 s2 r2 h0 m1 w
  cases m2 : mayV k2 x2 s2 r2
  · rw [if_pos (Or.inr (Or.inl rfl))]; exact rplain_no2 k1 x1 s1 r1 k2 x2 s2 r2 h0 g0 m1 m2 w
  cases o1 : isObj k1
  case true => rw [if_pos (by simp)]; exact rplain_no3 k1 x1 s1 r1 k2 x2 s2 r2 h0 g0 m1 m2 o1 w
  cases o2 : isObj k2
  case true => rw [if_pos (by simp)]; exact rplain_no4 k1 x1 s1 r1 k2 x2 s2 r2 h0 g0 m1 m2 o1 o2 w
  rw [if_neg (by simp)]
  by_cases hk : k1 = k2
  · rw [if_pos hk]; exact rplain_eq k1 x1 s1 r1 k2 x2 s2 r2 h0 g0 m1 m2 o1 o2 (by simp [hk]) w
  rw [if_neg hk]
  have n2 : (k1 == k2) = false := by rw [beq_eq_false_iff_ne]; exact hk
  have e3 : ∀ (y1 : Nat) (t1 : ByteArray) (u1 : Int) (y2 : Nat) (t2 : ByteArray) (u2 : Int), strictV 3 y1 t1 u1 3 y2 t2 u2 = (FloatKind.f64.format.order y1 y2 == some .eq) := fun y1 t1 u1 y2 t2 u2 => by
    rw [strict_eq y1 t1 u1 y2 t2 u2 (by decide), if_neg (by simp), if_pos (by simp)]
  by_cases hA : k1 = 2
  · subst hA
    refine rplain_2 x1 s1 r1 k2 x2 s2 r2 g0 m1 m2 o2 n2 _ (hid fun W => ?_) w
    by_cases h3 : k2 = 3
    · subst h3
      rw [if_pos (by simp), ← e3 x1 ⟨#[]⟩ 0 x2 s2 r2]
      exact rplain_eq 3 x1 ⟨#[]⟩ 0 3 x2 s2 r2 (by decide) (by decide) (may_num (may_2 m1)) m2 (by decide) (by decide) (by decide) W
    · rw [if_neg (by omega), if_neg (by omega), if_neg (by omega)]
      by_cases h4 : k2 = 4
      · subst h4
        rw [if_pos (by simp)]
        exact rplain_34 x1 ⟨#[]⟩ 0 x2 s2 r2 (may_num (may_2 m1)) m2 W
      · rw [if_neg (by omega)]
        exact rplain_o3 x1 ⟨#[]⟩ 0 k2 x2 s2 r2 g0 (may_num (may_2 m1)) m2 o2 (by rw [beq_eq_false_iff_ne]; omega) (by rw [beq_eq_false_iff_ne]; omega) (by rw [beq_eq_false_iff_ne]; omega) W
  by_cases hB : k2 = 2
  · subst hB
    refine rplain_b k1 x1 s1 r1 x2 s2 r2 h0 m1 m2 o1 (by rw [beq_eq_false_iff_ne]; omega) _ (hid fun W => ?_) w
    rcases val_kinds m1 o1 with rfl | rfl | rfl | rfl | rfl | rfl
    · rw [if_neg (by omega), if_neg (by omega), if_neg (by omega), if_neg (by omega)]
      exact rplain_o0 x1 s1 r1 3 x2 ⟨#[]⟩ 0 (by decide) m1 (may_num (may_2 m2)) (by decide) (by decide) (by decide) (by decide) (by decide) W
    · rw [if_neg (by omega), if_neg (by omega), if_neg (by omega), if_neg (by omega)]
      exact rplain_o1 x1 s1 r1 3 x2 ⟨#[]⟩ 0 (by decide) m1 (may_num (may_2 m2)) (by decide) (by decide) (by decide) (by decide) (by decide) W
    · exact absurd rfl hA
    · rw [if_pos (by simp), ← e3 x1 s1 r1 x2 ⟨#[]⟩ 0]
      exact rplain_eq 3 x1 s1 r1 3 x2 ⟨#[]⟩ 0 (by decide) (by decide) m1 (may_num (may_2 m2)) (by decide) (by decide) (by decide) W
    · rw [if_neg (by omega), if_neg (by omega), if_pos (by simp)]
      exact rplain_43 x1 s1 r1 x2 ⟨#[]⟩ 0 m1 (may_num (may_2 m2)) W
    · rw [if_neg (by omega), if_neg (by omega), if_neg (by omega), if_neg (by omega)]
      exact rplain_o5 x1 s1 r1 3 x2 ⟨#[]⟩ 0 (by decide) m1 (may_num (may_2 m2)) (by decide) (by decide) (by decide) W
  have n3 : (k2 == 2) = false := by rw [beq_eq_false_iff_ne]; exact hB
  rw [if_neg (by omega)]
  rcases val_kinds m1 o1 with rfl | rfl | rfl | rfl | rfl | rfl
  · by_cases p2 : k2 = 1
    · subst p2
      rw [if_pos (by decide)]
      exact rplain_z01 x1 s1 r1 x2 s2 r2 m1 m2 w
    · rw [if_neg (by omega), if_neg (by omega), if_neg (by omega)]
      exact rplain_o0 x1 s1 r1 k2 x2 s2 r2 g0 m1 m2 o2 n2 n3 (by rw [beq_eq_false_iff_ne]; omega) (by rw [beq_eq_false_iff_ne]; omega) w
  · by_cases p2 : k2 = 0
    · subst p2
      rw [if_pos (by decide)]
      exact rplain_z10 x1 s1 r1 x2 s2 r2 m1 m2 w
    · rw [if_neg (by omega), if_neg (by omega), if_neg (by omega)]
      exact rplain_o1 x1 s1 r1 k2 x2 s2 r2 g0 m1 m2 o2 n2 n3 (by rw [beq_eq_false_iff_ne]; omega) (by rw [beq_eq_false_iff_ne]; omega) w
  · exact absurd rfl hA
  · rw [if_neg (by omega), if_neg (by omega)]
    by_cases h4 : k2 = 4
    · subst h4
      rw [if_pos (by simp)]
      exact rplain_34 x1 s1 r1 x2 s2 r2 m1 m2 w
    · rw [if_neg (by omega)]
      exact rplain_o3 x1 s1 r1 k2 x2 s2 r2 g0 m1 m2 o2 n2 n3 (by rw [beq_eq_false_iff_ne]; omega) w
  · rw [if_neg (by omega)]
    by_cases h3 : k2 = 3
    · subst h3
      rw [if_pos (by simp)]
      exact rplain_43 x1 s1 r1 x2 s2 r2 m1 m2 w
    · rw [if_neg (by omega), if_neg (by omega)]
      exact rplain_o4 x1 s1 r1 k2 x2 s2 r2 g0 m1 m2 o2 n2 n3 (by rw [beq_eq_false_iff_ne]; omega) w
  · rw [if_neg (by omega), if_neg (by omega), if_neg (by omega)]
    exact rplain_o5 x1 s1 r1 k2 x2 s2 r2 g0 m1 m2 o2 n2 n3 w

theorem long_any (k1 : Int) (x1 : Nat) (s1 : ByteArray) (r1 : Int) (k2 : Int) (x2 : Nat) (s2 : ByteArray) (r2 : Int) (w : World) : Calls Tryd.prog 6 #[val k1 x1 s1 r1, val k2 x2 s2 r2] w fun e w' => e = .returned (.bool (decide (9000 < (s1.size : Int)) || decide (9000 < (s2.size : Int)))) ∧ Below w.heap.size w w' := by
  by_cases h1 : 9000 < (s1.size : Int)
  · rw [decide_eq_true h1]
    go_enter Tryd.func6, Tryd.ntmps6
    go_wp2
    go_ret
    exact ⟨rfl, below2 _ _ _⟩
  · rw [decide_eq_false h1]
    go_enter Tryd.func6, Tryd.ntmps6
    go_wp2
    go_ret
    exact ⟨rfl, below2 _ _ _⟩

set_option maxHeartbeats 8000000 in
set_option maxRecDepth 100000 in
theorem law_twos (k1 : Int) (x1 : Nat) (s1 : ByteArray) (r1 : Int) (k2 : Int) (x2 : Nat) (s2 : ByteArray) (r2 : Int) (h0 : 0 ≤ k1) (g0 : 0 ≤ k2) (w : World) : Calls Tryd.prog 3 #[val k1 x1 s1 r1, val k2 x2 s2 r2] w fun e w' => e = .returned (.bool true) ∧ Below w.heap.size w w' := by
  have L := hid (fun W => long_any k1 x1 s1 r1 k2 x2 s2 r2 W)
  cases hl : (decide (9000 < (s1.size : Int)) || decide (9000 < (s2.size : Int)))
  · rw [hl] at L
    have P := hid (fun W => plain_any k1 x1 s1 r1 k2 x2 s2 r2 h0 g0 W)
    have Q := hid (fun W => rplain_any k1 x1 s1 r1 k2 x2 s2 r2 h0 g0 W)
    have Sa := hid (fun W => same_any k1 x1 s1 r1 k2 x2 s2 r2 h0 W)
    have Sb := hid (fun W => refSame_any k1 x1 s1 r1 k2 x2 s2 r2 h0 W)
    have Ta := hid (fun W => strict_any k1 x1 s1 r1 k2 x2 s2 r2 h0 W)
    have Tb := hid (fun W => refStrict_any k1 x1 s1 r1 k2 x2 s2 r2 h0 W)
    generalize plainV k1 x1 s1 r1 k2 x2 s2 r2 = q at *
    generalize sameV k1 x1 s1 r1 k2 x2 s2 r2 = sm at *
    generalize strictV k1 x1 s1 r1 k2 x2 s2 r2 = st at *
    clear hl
    have c1 : (sm == sm) = true := by simp
    have c2 : (st == st) = true := by simp
    have c3 : (q.1 == q.1) = true := by simp
    have c4 : (q.2 == q.2) = true := by simp
    go_enter Tryd.func3, Tryd.ntmps3
    go_wp2_with fail
    have TT := hid (Two.new w 24 #[.int .u8 k1, .float .f64 x1, .string s1, .int .i64 r1] #[.int .u8 k2, .float .f64 x2, .string s2, .int .i64 r2])
    have Bt := hid (below2 w (.cells #[.int .u8 k1, .float .f64 x1, .string s1, .int .i64 r1] 24) (.cells #[.int .u8 k2, .float .f64 x2, .string s2, .int .i64 r2] 24))
    go_wp2_with (first | (go_at_call 6; refine (L.out _).mono ?_; rintro e wn ⟨rfl, hb⟩; have Bt := hid (grow Bt.out hb); have TT := hid (TT.out.on hb); clear hb; obtain ⟨a0, a1, a2, a3, b0, b1, b2, b3, fa, fb⟩ := TT.out.facts) | (go_at_call 7; refine (P.out _).mono ?_; rintro e wn ⟨rfl, hb⟩; have Bt := hid (grow Bt.out hb); have TT := hid (TT.out.on hb); clear hb; obtain ⟨a0, a1, a2, a3, b0, b1, b2, b3, fa, fb⟩ := TT.out.facts) | (go_at_call 8; refine (Q.out _).mono ?_; rintro e wn ⟨rfl, hb⟩; have Bt := hid (grow Bt.out hb); have TT := hid (TT.out.on hb); clear hb; obtain ⟨a0, a1, a2, a3, b0, b1, b2, b3, fa, fb⟩ := TT.out.facts))
    go_region_held3 (fun w' => w'.cell? ⟨w.heap.size, 0, none⟩ = some (.int .u8 k1) ∧ w'.cell? ⟨w.heap.size, 1, none⟩ = some (.float .f64 x1) ∧ w'.cell? ⟨w.heap.size, 2, none⟩ = some (.string s1) ∧ w'.cell? ⟨w.heap.size, 3, none⟩ = some (.int .i64 r1) ∧ w'.cell? ⟨w.heap.size + 1, 0, none⟩ = some (.int .u8 k2) ∧ w'.cell? ⟨w.heap.size + 1, 1, none⟩ = some (.float .f64 x2) ∧ w'.cell? ⟨w.heap.size + 1, 2, none⟩ = some (.string s2) ∧ w'.cell? ⟨w.heap.size + 1, 3, none⟩ = some (.int .i64 r2)) (first | exact ⟨a0, a1, a2, a3, b0, b1, b2, b3⟩) (first | (go_at_call 9; refine (Sa.out _).mono ?_; rintro e wn ⟨rfl, hb⟩; have Bt := hid (show Below w.heap.size w _ from by first | exact grow Bt.out hb | exact grow Bt.out.drew hb); have TT := hid (by first | exact TT.out.on hb | exact TT.out.drew.on hb); clear hb; obtain ⟨a0, a1, a2, a3, b0, b1, b2, b3, fa, fb⟩ := TT.out.facts) | (go_at_call 10; refine (Sb.out _).mono ?_; rintro e wn ⟨rfl, hb⟩; have Bt := hid (show Below w.heap.size w _ from by first | exact grow Bt.out hb | exact grow Bt.out.drew hb); have TT := hid (by first | exact TT.out.on hb | exact TT.out.drew.on hb); clear hb; obtain ⟨a0, a1, a2, a3, b0, b1, b2, b3, fa, fb⟩ := TT.out.facts) | (go_at_call 11; refine (Ta.out _).mono ?_; rintro e wn ⟨rfl, hb⟩; have Bt := hid (show Below w.heap.size w _ from by first | exact grow Bt.out hb | exact grow Bt.out.drew hb); have TT := hid (by first | exact TT.out.on hb | exact TT.out.drew.on hb); clear hb; obtain ⟨a0, a1, a2, a3, b0, b1, b2, b3, fa, fb⟩ := TT.out.facts) | (go_at_call 12; refine (Tb.out _).mono ?_; rintro e wn ⟨rfl, hb⟩; have Bt := hid (show Below w.heap.size w _ from by first | exact grow Bt.out hb | exact grow Bt.out.drew hb); have TT := hid (by first | exact TT.out.on hb | exact TT.out.drew.on hb); clear hb; obtain ⟨a0, a1, a2, a3, b0, b1, b2, b3, fa, fb⟩ := TT.out.facts))
    all_goals
      go_wp2
      go_ret
      exact ⟨rfl, Bt.out⟩
  · rw [hl] at L
    clear hl
    go_enter Tryd.func3, Tryd.ntmps3
    go_wp2_with fail
    have TT := hid (Two.new w 24 #[.int .u8 k1, .float .f64 x1, .string s1, .int .i64 r1] #[.int .u8 k2, .float .f64 x2, .string s2, .int .i64 r2])
    have Bt := hid (below2 w (.cells #[.int .u8 k1, .float .f64 x1, .string s1, .int .i64 r1] 24) (.cells #[.int .u8 k2, .float .f64 x2, .string s2, .int .i64 r2] 24))
    go_wp2_with (go_at_call 6; refine (L.out _).mono ?_; rintro e wn ⟨rfl, hb⟩; have Bt := hid (grow Bt.out hb); have TT := hid (TT.out.on hb); clear hb; obtain ⟨a0, a1, a2, a3, b0, b1, b2, b3, fa, fb⟩ := TT.out.facts)
    go_ret
    exact ⟨rfl, Bt.out⟩

end Go.Proofs.YtecadaoncpminaaDoor
