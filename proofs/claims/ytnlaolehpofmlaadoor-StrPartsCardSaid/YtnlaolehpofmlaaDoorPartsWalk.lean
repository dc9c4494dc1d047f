/-
  The walk of the law StrParts.
-/
import Derived.Test.YtnlaolehpofmlaaDoorPartsPlain
import Derived.Test.YtnlaolehpofmlaaDoorAliveWalk
import Derived.Deep.DeepCutAuto
namespace Go.Proofs.YtnlaolehpofmlaaDoor
open Go.RowKit

theorem join_parts (s : ByteArray) (k : Nat) (hs : s.size ≤ 3000) (hk : k ≤ s.size) : joinR (s.extract 0 k) (s.extract k s.size) = (s, 0) := by
  have h1 := part_size s k hk
  have h2 : (s.extract k s.size).size = s.size - k := by rw [ba_size, Lib.extract_to_end, List.length_drop, ← ba_size]
  unfold joinR
  rw [if_neg (by rw [h1, h2]; omega), part_join s k hk]

/-- What a place that was found may be. -/
def FoundC (s t : ByteArray) (n r : Int) : Prop :=
  (r = -1 ∨ ∃ k : Nat, r = k ∧ k + t.size ≤ s.size ∧ ((s.extract k (k + t.size)).toList == t.toList) = true ∧ ((k : Int) < n → ¬ k < s.size)) ∧
  (r ≠ 0 → n ≤ 0 → t.size ≤ s.size → ((s.extract 0 t.size).toList == t.toList) = false)
theorem found_c (s t : ByteArray) (n : Int) : FoundC s t n (findR s t n) := by
  constructor
  · rcases found_facts s t n with h | ⟨k, h1, h2, h3, h4⟩
    · exact Or.inl h
    · refine Or.inr ⟨k, h1, h3, by rw [h4]; simp, fun hk hlt => ?_⟩
      unfold clampR at h2
      split at h2
      · omega
      · split at h2 <;> omega
  · intro h0 hn hl
    rw [beq_eq_false_iff_ne]
    intro e
    exact h0 (found_front s t n hn hl e)

set_option maxHeartbeats 4000000 in
set_option maxRecDepth 100000 in
theorem law_parts (s : ByteArray) (hs : s.size ≤ maxLen) (t : ByteArray) (ht : t.size ≤ maxLen) (n : Int) (_sn : (Lit.int .i64 n).wf = true) (w : World) (hm : Mx w) : Calls Tryd.prog 4 #[.string s, .string t, .int .i64 n] w fun e w' => e = .returned (.bool true) ∧ Below w.heap.size w w' := by
  unfold maxLen at hs ht
  have M := hidB hm
  clear hm _sn
  by_cases h1 : s.size ≤ 3000
  · by_cases h2 : t.size ≤ 3000
    · have F1 := hidB (fun W h => find_any s t n (by omega) W h)
      have L1 := hidB (fun W => less_any s t W)
      have L2 := hidB (fun W => less_any t s W)
      have T1 := hidB (fun W => trimP_any s W (by omega))
      have FC := hidB (found_c s t n)
      have PT := hidB (fun x y W => part_any s x y (by omega) W)
      generalize findR s t n = r at *
      have FC1 := hidB FC.out.1
      have FC2 := hidB FC.out.2
      clear FC
      have LT : Hid ((lessR s t != lessR t s) = (s.toList != t.toList)) := hidB (by rw [ByteArray.toList_eq, ByteArray.toList_eq]; exact less_total s.data.toList t.data.toList)
      have LA : Hid ((lessR s t && lessR t s) = false) := hidB (less_asym s.data.toList t.data.toList)
      generalize lessR s t = a at *
      generalize lessR t s = b at *
      go_enter Tryd.func4, Tryd.ntmps4
      go_wp2_with fail
      refine (alive_any _).mono ?_; rintro e w1 ⟨rfl, b1⟩
      have B := hidB b1; clear b1
      go_upto_region 4 with fail
      go_cut [37] from 8 (fun s37 wx => s37 = .bool (decide (0 ≤ n ∧ n ≤ s.size)) ∧ w1 = wx)
      case first =>
        rcases (by omega : (0 ≤ n ∧ n ≤ s.size) ∨ (0 ≤ n ∧ ¬ n ≤ s.size) ∨ ¬ 0 ≤ n) with ⟨c1, c2⟩ | ⟨c1, c2⟩ | c1
        all_goals
          go_wp2_with fail
          go_meet
          case rel => first | exact ⟨congrArg Value.bool (decide_eq_true (p := 0 ≤ n ∧ n ≤ s.size) ⟨by omega, by omega⟩).symm, rfl⟩ | exact ⟨congrArg Value.bool (decide_eq_false (p := 0 ≤ n ∧ n ≤ s.size) (by omega)).symm, rfl⟩
      case rest =>
      obtain ⟨rfl, rfl⟩ := hcut
      go_upto_if 37 with fail
      go_cut [] from 8 (fun wx => w1 = wx)
      case first =>
        by_cases hc : 0 ≤ n ∧ n ≤ s.size
        · rw [decide_eq_true hc]
          obtain ⟨k, rfl⟩ := Int.eq_ofNat_of_zero_le hc.1
          have hk : k ≤ s.size := by omega
          clear hc
          have P1 := hidB (fun W => PT.out 0 (floatOfInt .f64 (k : Int)) W)
          have P2 := hidB (fun W => PT.out (floatOfInt .f64 (k : Int)) (floatOfInt .f64 (s.size : Int)) W)
          rw [part_first s k _ (by omega) hk (Fl.is_len k (by omega))] at P1
          rw [part_rest s k _ _ (by omega) hk (Fl.is_len k (by omega)) (Fl.is_len s.size (by omega))] at P2
          have hz := part_size s k hk
          have hz2 : (s.extract k s.size).size ≤ 9000 := by rw [ba_size, Lib.extract_to_end, List.length_drop, ← ba_size]; omega
          have J := hidB (fun W => join_any (s.extract 0 k) (s.extract k s.size) (by omega) hz2 W)
          rw [join_parts s k h1 hk] at J
          clear hz2
          go_wp2_with fail
          refine (P1.out _).mono ?_; rintro e w3 ⟨rfl, rfl⟩
          go_wp2_with fail
          refine (P2.out _).mono ?_; rintro e w3 ⟨rfl, rfl⟩
          go_wp2_with fail
          refine (J.out _).mono ?_; rintro e w3 ⟨rfl, rfl⟩
          go_wp2_with fail
          go_meet
          case rel => rfl
        · rw [decide_eq_false hc]
          clear hc
          go_wp2_with fail
          go_meet
          case rel => rfl
      case rest =>
      obtain rfl := hcut
      go_wp2_with fail
      refine (F1.out _ (mx_below M.out B.out)).mono ?_; rintro e w3 ⟨rfl, rfl⟩
      go_upto_region 11 with fail
      go_cut [104] from 16 (fun s104 wx => s104 = .bool false ∧ w1 = wx)
      case first =>
        rcases FC1.out with rfl | ⟨k, rfl, g1, g2, g3⟩
        · clear FC1 FC2
          go_wp2_with fail
          go_meet
          case rel => exact ⟨rfl, rfl⟩
        · clear FC1 FC2
          have g5 : ((s.extract k (k + t.size)).toList != t.toList) = false := by rw [bne, g2]; rfl
          have hx1 : (0 : Int) ≤ (k : Int) := by omega
          have hx2 : IntKind.i64.wrap ((k : Int) + (t.size : Int)) = (k : Int) + (t.size : Int) := IntWalk.i64_in _ (by omega)
          have hx3 : (0 : Int) ≤ (k : Int) + (t.size : Int) := by omega
          have hx4 : ((k : Int) + (t.size : Int)).toNat = k + t.size := by omega
          have hx5 : (k : Int) + (t.size : Int) ≤ (s.size : Int) := by omega
          have hx6 : (k : Int) ≤ (k : Int) + (t.size : Int) := by omega
          by_cases hk : (k : Int) < n
          · have hk2 : ¬ (k : Int) < (s.size : Int) := by have := g3 hk; omega
            clear g3
            go_wp2_with fail
            go_meet
            case rel => exact ⟨congrArg Value.bool (decide_eq_false (by omega)), rfl⟩
          · clear g3
            go_wp2_with fail
            go_meet
            case rel => exact ⟨congrArg Value.bool (decide_eq_false (by omega)), rfl⟩
      case rest =>
      obtain ⟨rfl, rfl⟩ := hcut
      go_upto_region 13 with fail
      go_cut [125] from 16 (fun s125 wx => s125 = .bool false ∧ w1 = wx)
      case first =>
        rcases (by omega : r = 0 ∨ (r ≠ 0 ∧ 0 < n) ∨ (r ≠ 0 ∧ n ≤ 0 ∧ s.size < t.size) ∨ (r ≠ 0 ∧ n ≤ 0 ∧ t.size ≤ s.size)) with h | ⟨h, g1⟩ | ⟨h, g1, g2⟩ | ⟨h, g1, g2⟩
        · have hr : (r != 0) = false := by rw [h]; rfl
          clear FC1 FC2 h
          go_wp2_with fail
          go_meet
          case rel => exact ⟨rfl, rfl⟩
        · have hr : (r != 0) = true := by simpa using h
          have hr2 : ¬ n ≤ 0 := by omega
          clear FC1 FC2 h g1
          go_wp2_with fail
          go_meet
          case rel => exact ⟨rfl, rfl⟩
        · have hr : (r != 0) = true := by simpa using h
          have hr3 : ¬ (t.size : Int) ≤ (s.size : Int) := by omega
          clear FC1 FC2 h g2
          go_wp2_with fail
          go_meet
          case rel => exact ⟨rfl, rfl⟩
        · have hr : (r != 0) = true := by simpa using h
          have hr3 : (t.size : Int) ≤ (s.size : Int) := by omega
          have hr4 : ((s.extract 0 t.size).toList == t.toList) = false := FC2.out h g1 g2
          clear FC1 FC2 h
          go_wp2_with fail
          go_meet
          case rel => exact ⟨rfl, rfl⟩
      case rest =>
      obtain ⟨rfl, rfl⟩ := hcut
      clear FC1 FC2
      go_wp2_with fail
      refine (L1.out _).mono ?_; rintro e w4 ⟨rfl, rfl⟩
      go_wp2_with fail
      refine (L2.out _).mono ?_; rintro e w4 ⟨rfl, rfl⟩
      go_wp2_with fail
      refine (T1.out _).mono ?_; rintro e w5 ⟨⟨q, rfl, hq⟩, b5⟩
      replace B := hidB (grow B.out b5); clear b5
      have hqs : q.size ≤ 9000 := by
        have := trimS_length s.data.toList blanks
        rw [← hq, ← ba_size, ← ba_size] at this; omega
      have T2 := hidB (fun W => trimP_any q W hqs)
      have HQ := hidB hq
      clear hq
      have lt := LT.out
      have la := LA.out
      clear LT LA L1 L2 T1 PT F1
      cases a <;> cases b
      · have hst : (s.toList != t.toList) = false := lt.symm
        have hst2 : (s.toList == t.toList) = true := by rw [bne] at hst; simpa using hst
        clear lt la
        go_wp2_with fail
        refine (T2.out _).mono ?_; rintro e w6 ⟨⟨u, rfl, hu⟩, b6⟩
        obtain rfl : u = q := ba_eq (hu.trans (by rw [HQ.out, trim_twice]))
        replace B := hidB (grow B.out b6); clear b6 hu
        go_wp2_with fail
        go_ret
        exact ⟨rfl, B.out⟩
      · have hst : (s.toList != t.toList) = true := lt.symm
        have hst2 : (s.toList == t.toList) = false := by rw [bne] at hst; simpa using hst
        clear lt la
        go_wp2_with fail
        refine (T2.out _).mono ?_; rintro e w6 ⟨⟨u, rfl, hu⟩, b6⟩
        obtain rfl : u = q := ba_eq (hu.trans (by rw [HQ.out, trim_twice]))
        replace B := hidB (grow B.out b6); clear b6 hu
        go_wp2_with fail
        go_ret
        exact ⟨rfl, B.out⟩
      · have hst : (s.toList != t.toList) = true := lt.symm
        have hst2 : (s.toList == t.toList) = false := by rw [bne] at hst; simpa using hst
        clear lt la
        go_wp2_with fail
        refine (T2.out _).mono ?_; rintro e w6 ⟨⟨u, rfl, hu⟩, b6⟩
        obtain rfl : u = q := ba_eq (hu.trans (by rw [HQ.out, trim_twice]))
        replace B := hidB (grow B.out b6); clear b6 hu
        go_wp2_with fail
        go_ret
        exact ⟨rfl, B.out⟩
      · cases la
    · go_enter Tryd.func4, Tryd.ntmps4
      go_wp2_with fail
      refine (alive_any _).mono ?_; rintro e w1 ⟨rfl, b1⟩
      have B := hidB b1; clear b1
      go_wp2_with fail
      go_ret
      exact ⟨rfl, B.out⟩
  · go_enter Tryd.func4, Tryd.ntmps4
    go_wp2_with fail
    refine (alive_any _).mono ?_; rintro e w1 ⟨rfl, b1⟩
    have B := hidB b1; clear b1
    go_wp2_with fail
    go_ret
    exact ⟨rfl, B.out⟩

end Go.Proofs.YtnlaolehpofmlaaDoor
