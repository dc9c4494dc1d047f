/-
  The walks of the reference's rows of words and signs.
-/
import Derived.Test.YtkomjmgmancinaaDoorRunWalk
namespace Go.Proofs.YtkomjmgmancinaaDoor
open Go.RowKit

theorem noOcc_next {l t : List UInt8} {d : Nat} (h : Lib.NoOcc l t d) (ho : Lib.occAt l t d = false) : Lib.NoOcc l t (d + 1) := by
  intro j hj
  by_cases hc : j < d
  · exact h j hc
  · obtain rfl : j = d := by omega
    exact ho
theorem slice_eq (row s : ByteArray) (a : Nat) : ((row.extract a (a + s.size)).toList == s.toList) = ((row.data.toList.drop a).take s.data.toList.length == s.data.toList) := by
  rw [ByteArray.toList_eq, ByteArray.toList_eq, Lib.extract_data, show a + s.size - a = s.data.toList.length by rw [← ba_size]; omega]

set_option maxHeartbeats 4000000 in
set_option maxRecDepth 100000 in
theorem refAmong_any (row s : ByteArray) (hr : row.size ≤ 1000) (hs : s.size ≤ 100) (w : World) : Calls Tryd.prog 40 #[.string row, .string s] w fun e w' => e = .returned (.bool (amongB row.data.toList s.data.toList)) ∧ w = w' := by
  have hE := isE s
  have zl := ba_size s
  have zr := ba_size row
  obtain ⟨q, hq⟩ : ∃ q, amongB row.data.toList s.data.toList = q := ⟨_, rfl⟩
  rw [hq]
  unfold amongB at hq
  obtain ⟨l, hl⟩ : ∃ l, l = s.data.toList := ⟨_, rfl⟩
  obtain ⟨R, hR⟩ : ∃ R, R = row.data.toList := ⟨_, rfl⟩
  have HSL := hidB (slice_eq row s)
  rw [← hl, ← hR] at HSL
  rw [← hl] at zl hq hE
  rw [← hR] at zr hq
  have HL := hidB hl.symm
  have HRL := hidB hR.symm
  have ZL := hidB zl
  have ZR := hidB zr
  cases h1 : l.isEmpty
  · rw [h1] at hE hq
    have hl0 : 0 < s.size := by
      rw [zl]
      cases l with
      | nil => cases h1
      | cons a l => simp
    simp only [Bool.not_false, Bool.true_and, contains_one] at hq
    have HQ := hidB hq
    clear h1 hq hl hR zl zr
    go_enter Tryd.func40, Tryd.ntmps40
    go_wp2_with fail
    go_loop [5] (fun v => ∃ k : Nat, k ≤ s.size ∧ v = .int .i64 k ∧ (l.take k).contains 32 = false) (fun v => s.size - (intOf v).toNat)
    case atStart => exact ⟨0, by omega, rfl, by simp⟩
    case round =>
      obtain ⟨k, hk, rfl, hn⟩ := hrel
      have HN := hidB hn
      clear hn
      by_cases hlt : k < s.size
      · have hlt2 : k < l.length := by rw [← ZL.out]; exact hlt
        have e0 := hidB (ba_at s l HL.out k hlt hlt2)
        have hx0 : (0 : Int) ≤ (k : Int) := by omega
        have b1 : ((s[k].toNat : Int) == 32) = decide (l[k] = 32) := by rw [← e0.out]; exact byte_eq s[k] 32 32 rfl
        by_cases c1 : l[k] = 32
        · rw [decide_eq_true c1] at b1
          have hm : l.contains 32 = true := by rw [List.contains_iff_mem, ← c1]; exact List.getElem_mem hlt2
          have HM := hidB hm
          clear hm c1
          go_wp2_with fail
          go_ret
          exact ⟨by rw [← HQ.out, HM.out]; rfl, rfl⟩
        · rw [decide_eq_false c1] at b1
          have hm : (l.take (k + 1)).contains 32 = false := by
            rw [Bool.eq_false_iff, ne_eq, List.contains_iff_mem, List.take_succ_eq_append_getElem hlt2, List.mem_append, List.mem_singleton]
            rintro (h | h)
            · rw [← List.contains_iff_mem, HN.out] at h; cases h
            · exact c1 h.symm
          have HM := hidB hm
          clear hm c1
          go_wp2_with fail
          go_round
          case rel => exact ⟨k + 1, by omega, by go_num, HM.out⟩
          case measure => simp [intOf]; omega
      · have hb : l.contains 32 = false := by rw [← HN.out, List.take_of_length_le (by rw [← ZL.out]; omega)]
        have hq2 : Lib.contains R ([32] ++ l ++ [32]) = q := by rw [← HQ.out, hb]; rfl
        have HQ2 := hidB hq2
        clear hb hq2
        go_wp2_with fail
        go_loop [6] (fun v => ∃ i : Nat, i ≤ row.size + 1 ∧ v = .int .i64 i ∧ Lib.NoOcc R ([32] ++ l ++ [32]) i) (fun v => row.size + 1 - (intOf v).toNat)
        case atStart => exact ⟨0, by omega, rfl, Lib.NoOcc.zero _ _⟩
        case round =>
          obtain ⟨i, hi, rfl, hno⟩ := hrel
          have NO := hidB hno
          clear hno
          by_cases hlt : i + s.size + 2 ≤ row.size
          · have hi2 : i + l.length + 2 ≤ R.length := by rw [← ZL.out, ← ZR.out]; exact hlt
            have ho := occ3 R l i hi2
            have hi3 : i < row.size := by omega
            have hi4 : i + 1 + s.size < row.size := by omega
            have hi5 : i + 1 + l.length < R.length := by omega
            have hi6 : i < R.length := by omega
            have e0 := hidB (ba_at row R HRL.out i hi3 hi6)
            have zz : s.size = l.length := ZL.out
            have e1 : row[i + 1 + s.size] = R[i + 1 + l.length] := by
              have := ba_at row R HRL.out (i + 1 + s.size) hi4 (by rw [zz]; exact hi5)
              rw [this]; congr 1; omega
            have b1 : ((row[i].toNat : Int) == 32) = decide (R[i] = 32) := by rw [← e0.out]; exact byte_eq row[i] 32 32 rfl
            have b2 : ((row[i + 1 + s.size].toNat : Int) == 32) = decide (R[i + 1 + l.length] = 32) := by rw [← e1]; exact byte_eq _ 32 32 rfl
            have b3 := HSL.out (i + 1)
            have ho2 : Lib.occAt R ([32] ++ l ++ [32]) i = (decide (R[i] = 32) && (((R.drop (i + 1)).take l.length == l) && decide (R[i + 1 + l.length] = 32))) := by
              rw [ho]
              have f1 : (R[i] == 32) = decide (R[i] = 32) := by rw [Bool.eq_iff_iff, beq_iff_eq, decide_eq_true_eq]
              have f2 : (R[i + 1 + l.length] == 32) = decide (R[i + 1 + l.length] = 32) := by rw [Bool.eq_iff_iff, beq_iff_eq, decide_eq_true_eq]
              rw [f1, f2]
            have HO := hidB ho2
            have NX := hidB (noOcc_next NO.out)
            have CH := hidB (contains_hit (row := R) (t := [32] ++ l ++ [32]) (i := i) (by omega))
            clear ho ho2 e1 zz hi2
            have hx0 : (0 : Int) ≤ (i : Int) := by omega
            have hx1 : (i : Int) < (row.size : Int) := by omega
            have hw1 : IntKind.i64.wrap ((i : Int) + 1) = (i : Int) + 1 := IntWalk.i64_in _ (by omega)
            have hw2 : (0 : Int) ≤ (i : Int) + 1 := by omega
            have hw3 : ((i : Int) + 1).toNat = i + 1 := by omega
            have hw4 : IntKind.i64.wrap ((i : Int) + 1 + (s.size : Int)) = (i : Int) + 1 + (s.size : Int) := IntWalk.i64_in _ (by omega)
            have hw5 : (0 : Int) ≤ (i : Int) + 1 + (s.size : Int) := by omega
            have hw6 : ((i : Int) + 1 + (s.size : Int)).toNat = i + 1 + s.size := by omega
            have hw7 : (i : Int) + 1 ≤ (i : Int) + 1 + (s.size : Int) := by omega
            have hw8 : (i : Int) + 1 + (s.size : Int) ≤ (row.size : Int) := by omega
            have hw9 : (i : Int) + 1 + (s.size : Int) < (row.size : Int) := by omega
            generalize decide (R[i] = 32) = a at *
            generalize ((R.drop (i + 1)).take l.length == l) = b at *
            generalize decide (R[i + 1 + l.length] = 32) = c at *
            cases a
            · go_wp2_with fail
              go_round
              case rel => exact ⟨i + 1, by omega, by go_num, NX.out (by rw [HO.out]; rfl)⟩
              case measure => simp [intOf]; omega
            · cases b
              · go_wp2_with fail
                go_round
                case rel => exact ⟨i + 1, by omega, by go_num, NX.out (by rw [HO.out]; rfl)⟩
                case measure => simp [intOf]; omega
              · cases c
                · go_wp2_with fail
                  go_round
                  case rel => exact ⟨i + 1, by omega, by go_num, NX.out (by rw [HO.out]; rfl)⟩
                  case measure => simp [intOf]; omega
                · go_wp2_with fail
                  go_ret
                  exact ⟨by rw [← HQ2.out, CH.out (by rw [HO.out]; rfl)]; rfl, rfl⟩
          · have hcn : Lib.contains R ([32] ++ l ++ [32]) = false := contains_none (by simp) NO.out (by simp only [List.length_append, List.length_singleton]; rw [← ZL.out, ← ZR.out]; omega)
            have HC := hidB hcn
            clear hcn
            go_wp2_with fail
            go_ret
            exact ⟨by rw [← HQ2.out, HC.out]; rfl, rfl⟩
  · rw [h1] at hE hq
    simp only [Bool.not_true, Bool.false_and] at hq
    subst hq
    clear h1 hl hR zl zr
    go_enter Tryd.func40, Tryd.ntmps40
    go_wp2_with fail
    go_ret
    exact ⟨rfl, rfl⟩

end Go.Proofs.YtkomjmgmancinaaDoor
