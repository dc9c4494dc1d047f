/-
  The walks of the reference's rows of words and signs.
  The contract of strings.Trim at the blanks.
  The walks of the reference's Bare and Read.
-/
import Derived.Test.YtkomjmgmancinaaDoorRunWalk
import Derived.Test.YtkomjmgmancinaaDoorLxA
import Derived.Test.YtkomjmgmancinaaDoorShelf
import Derived.Shelf.Strings.SlTrimAscii
import Derived.Test.YtkomjmgmancinaaDoorLxB
import Derived.Deep.CutBlock
namespace Go.Proofs.YtkomjmgmancinaaDoor
open Go.RowKit

theorem noOcc_next {l t : List UInt8} {d : Nat} (h : Lib.NoOcc l t d) (ho : Lib.occAt l t d = false) : Lib.NoOcc l t (d + 1) := by
  intro j hj
  by_cases hc : j < d
  · exact h j hc
  · obtain rfl : j = d := by omega
    exact ho
theorem slice_eq (row s : ByteArray) (a : Nat) : ((row.extract a (a + s.size)).toList == s.toList) = ((row.data.toList.drop a).take s.data.toList.length == s.data.toList) := by
  rw [ByteArray.toList_eq, ByteArray.toList_eq, Lib.extract_data, show a + s.size - a = s.data.toList.length by rw [← ba_size]; omega]

set_option maxHeartbeats 4000000 in
set_option maxRecDepth 100000 in
theorem refAmong_any (row s : ByteArray) (hr : row.size ≤ 1000) (hs : s.size ≤ 100) (w : World) : Calls Tryd.prog 40 #[.string row, .string s] w fun e w' => e = .returned (.bool (amongB row.data.toList s.data.toList)) ∧ w = w' := by
  have hE := isE s
  have zl := ba_size s
  have zr := ba_size row
  obtain ⟨q, hq⟩ : ∃ q, amongB row.data.toList s.data.toList = q := ⟨_, rfl⟩
  rw [hq]
  unfold amongB at hq
  obtain ⟨l, hl⟩ : ∃ l, l = s.data.toList := ⟨_, rfl⟩
  obtain ⟨R, hR⟩ : ∃ R, R = row.data.toList := ⟨_, rfl⟩
  have HSL := hidB (slice_eq row s)
  rw [← hl, ← hR] at HSL
  rw [← hl] at zl hq hE
  rw [← hR] at zr hq
  have HL := hidB hl.symm
  have HRL := hidB hR.symm
  have ZL := hidB zl
  have ZR := hidB zr
  cases h1 : l.isEmpty
  · rw [h1] at hE hq
    have hl0 : 0 < s.size := by
      rw [zl]
      cases l with
      | nil => cases h1
      | cons a l => simp
    simp only [Bool.not_false, Bool.true_and, contains_one] at hq
    have HQ := hidB hq
    clear h1 hq hl hR zl zr
    go_enter Tryd.func40, Tryd.ntmps40
    go_wp2_with fail
    go_loop [5] (fun v => ∃ k : Nat, k ≤ s.size ∧ v = .int .i64 k ∧ (l.take k).contains 32 = false) (fun v => s.size - (intOf v).toNat)
    case atStart => exact ⟨0, by omega, rfl, by simp⟩
    case round =>
      obtain ⟨k, hk, rfl, hn⟩ := hrel
      have HN := hidB hn
      clear hn
      by_cases hlt : k < s.size
      · have hlt2 : k < l.length := by rw [← ZL.out]; exact hlt
        have e0 := hidB (ba_at s l HL.out k hlt hlt2)
        have hx0 : (0 : Int) ≤ (k : Int) := by omega
        have b1 : ((s[k].toNat : Int) == 32) = decide (l[k] = 32) := by rw [← e0.out]; exact byte_eq s[k] 32 32 rfl
        by_cases c1 : l[k] = 32
        · rw [decide_eq_true c1] at b1
          have hm : l.contains 32 = true := by rw [List.contains_iff_mem, ← c1]; exact List.getElem_mem hlt2
          have HM := hidB hm
          clear hm c1
          go_wp2_with fail
          go_ret
          exact ⟨by rw [← HQ.out, HM.out]; rfl, rfl⟩
        · rw [decide_eq_false c1] at b1
          have hm : (l.take (k + 1)).contains 32 = false := by
            rw [Bool.eq_false_iff, ne_eq, List.contains_iff_mem, List.take_succ_eq_append_getElem hlt2, List.mem_append, List.mem_singleton]
            rintro (h | h)
            · rw [← List.contains_iff_mem, HN.out] at h; cases h
            · exact c1 h.symm
          have HM := hidB hm
          clear hm c1
          go_wp2_with fail
          go_round
          case rel => exact ⟨k + 1, by omega, by go_num, HM.out⟩
          case measure => simp [intOf]; omega
      · have hb : l.contains 32 = false := by rw [← HN.out, List.take_of_length_le (by rw [← ZL.out]; omega)]
        have hq2 : Lib.contains R ([32] ++ l ++ [32]) = q := by rw [← HQ.out, hb]; rfl
        have HQ2 := hidB hq2
        clear hb hq2
        go_wp2_with fail
        go_loop [6] (fun v => ∃ i : Nat, i ≤ row.size + 1 ∧ v = .int .i64 i ∧ Lib.NoOcc R ([32] ++ l ++ [32]) i) (fun v => row.size + 1 - (intOf v).toNat)
        case atStart => exact ⟨0, by omega, rfl, Lib.NoOcc.zero _ _⟩
        case round =>
          obtain ⟨i, hi, rfl, hno⟩ := hrel
          have NO := hidB hno
          clear hno
          by_cases hlt : i + s.size + 2 ≤ row.size
          · have hi2 : i + l.length + 2 ≤ R.length := by rw [← ZL.out, ← ZR.out]; exact hlt
            have ho := occ3 R l i hi2
            have hi3 : i < row.size := by omega
            have hi4 : i + 1 + s.size < row.size := by omega
            have hi5 : i + 1 + l.length < R.length := by omega
            have hi6 : i < R.length := by omega
            have e0 := hidB (ba_at row R HRL.out i hi3 hi6)
            have zz : s.size = l.length := ZL.out
            have e1 : row[i + 1 + s.size] = R[i + 1 + l.length] := by
              have := ba_at row R HRL.out (i + 1 + s.size) hi4 (by rw [zz]; exact hi5)
              rw [this]; congr 1; omega
            have b1 : ((row[i].toNat : Int) == 32) = decide (R[i] = 32) := by rw [← e0.out]; exact byte_eq row[i] 32 32 rfl
            have b2 : ((row[i + 1 + s.size].toNat : Int) == 32) = decide (R[i + 1 + l.length] = 32) := by rw [← e1]; exact byte_eq _ 32 32 rfl
            have b3 := HSL.out (i + 1)
            have ho2 : Lib.occAt R ([32] ++ l ++ [32]) i = (decide (R[i] = 32) && (((R.drop (i + 1)).take l.length == l) && decide (R[i + 1 + l.length] = 32))) := by
              rw [ho]
              have f1 : (R[i] == 32) = decide (R[i] = 32) := by rw [Bool.eq_iff_iff, beq_iff_eq, decide_eq_true_eq]
              have f2 : (R[i + 1 + l.length] == 32) = decide (R[i + 1 + l.length] = 32) := by rw [Bool.eq_iff_iff, beq_iff_eq, decide_eq_true_eq]
              rw [f1, f2]
            have HO := hidB ho2
            have NX := hidB (noOcc_next NO.out)
            have CH := hidB (contains_hit (row := R) (t := [32] ++ l ++ [32]) (i := i) (by omega))
            clear ho ho2 e1 zz hi2
            have hx0 : (0 : Int) ≤ (i : Int) := by omega
            have hx1 : (i : Int) < (row.size : Int) := by omega
            have hw1 : IntKind.i64.wrap ((i : Int) + 1) = (i : Int) + 1 := IntWalk.i64_in _ (by omega)
            have hw2 : (0 : Int) ≤ (i : Int) + 1 := by omega
            have hw3 : ((i : Int) + 1).toNat = i + 1 := by omega
            have hw4 : IntKind.i64.wrap ((i : Int) + 1 + (s.size : Int)) = (i : Int) + 1 + (s.size : Int) := IntWalk.i64_in _ (by omega)
            have hw5 : (0 : Int) ≤ (i : Int) + 1 + (s.size : Int) := by omega
            have hw6 : ((i : Int) + 1 + (s.size : Int)).toNat = i + 1 + s.size := by omega
            have hw7 : (i : Int) + 1 ≤ (i : Int) + 1 + (s.size : Int) := by omega
            have hw8 : (i : Int) + 1 + (s.size : Int) ≤ (row.size : Int) := by omega
            have hw9 : (i : Int) + 1 + (s.size : Int) < (row.size : Int) := by omega
            generalize decide (R[i] = 32) = a at *
            generalize ((R.drop (i + 1)).take l.length == l) = b at *
            generalize decide (R[i + 1 + l.length] = 32) = c at *
            cases a
            · go_wp2_with fail
              go_round
              case rel => exact ⟨i + 1, by omega, by go_num, NX.out (by rw [HO.out]; rfl)⟩
              case measure => simp [intOf]; omega
            · cases b
              · go_wp2_with fail
                go_round
                case rel => exact ⟨i + 1, by omega, by go_num, NX.out (by rw [HO.out]; rfl)⟩
                case measure => simp [intOf]; omega
              · cases c
                · go_wp2_with fail
                  go_round
                  case rel => exact ⟨i + 1, by omega, by go_num, NX.out (by rw [HO.out]; rfl)⟩
                  case measure => simp [intOf]; omega
                · go_wp2_with fail
                  go_ret
                  exact ⟨by rw [← HQ2.out, CH.out (by rw [HO.out]; rfl)]; rfl, rfl⟩
          · have hcn : Lib.contains R ([32] ++ l ++ [32]) = false := contains_none (by simp) NO.out (by simp only [List.length_append, List.length_singleton]; rw [← ZL.out, ← ZR.out]; omega)
            have HC := hidB hcn
            clear hcn
            go_wp2_with fail
            go_ret
            exact ⟨by rw [← HQ2.out, HC.out]; rfl, rfl⟩
  · rw [h1] at hE hq
    simp only [Bool.not_true, Bool.false_and] at hq
    subst hq
    clear h1 hl hR zl zr
    go_enter Tryd.func40, Tryd.ntmps40
    go_wp2_with fail
    go_ret
    exact ⟨rfl, rfl⟩

end Go.Proofs.YtkomjmgmancinaaDoor

namespace Go.Proofs.YtkomjmgmancinaaDoor
open Go.RowKit

theorem trim_any (s : ByteArray) (w : World) (hs : s.size ≤ 9223372036854775807) :
    Calls Tryd.prog 55 #[.string s, .string ⟨#[9, 10, 13, 32]⟩] w fun e w' => (∃ r : ByteArray, e = .returned (.string r) ∧ r.data.toList = Lib.trimS s.data.toList blanks) ∧ Below w.heap.size w w' := by
  refine (Any.strings_Trim_laid Tryd.lays160 (by kernel_rfl) s ⟨#[9, 10, 13, 32]⟩ w hs (by decide) (ascii_of_all (by decide))).mono ?_
  rintro e w' ⟨he, hb⟩
  exact ⟨⟨_, he, rfl⟩, hb⟩

end Go.Proofs.YtkomjmgmancinaaDoor

namespace Go.Proofs.YtkomjmgmancinaaDoor
open Go.RowKit

theorem blank_any (b : UInt8) (w : World) : Calls Tryd.prog 102 #[.int .u8 b.toNat] w fun e w' => e = .returned (.bool (isBl b)) ∧ w = w' := by
  have hi := isBl_iff b
  have h256 := b.toNat_lt
  generalize isBl b = q at *
  generalize b.toNat = n at *
  by_cases h : n = 9 ∨ n = 10 ∨ n = 13 ∨ n = 32
  · have hq : q = true := hi.2 h
    rw [hq]
    clear hi hq
    rcases h with rfl | rfl | rfl | rfl
    all_goals
      go_enter Tryd.func102, Tryd.ntmps102
      go_wp2_with fail
      go_ret
      exact ⟨rfl, rfl⟩
  · have hq : q = false := by cases q; rfl; exact absurd (hi.1 rfl) h
    rw [hq]
    have c1 : ((n : Int) == 9) = false := by rw [beq_eq_false_iff_ne]; omega
    have c2 : ((n : Int) == 10) = false := by rw [beq_eq_false_iff_ne]; omega
    have c3 : ((n : Int) == 13) = false := by rw [beq_eq_false_iff_ne]; omega
    have c4 : ((n : Int) == 32) = false := by rw [beq_eq_false_iff_ne]; omega
    clear hi hq h
    go_enter Tryd.func102, Tryd.ntmps102
    go_wp2_with fail
    go_ret
    exact ⟨rfl, rfl⟩

theorem dropWhile_all {α : Type} (p : α → Bool) (A M : List α) (h : A.all p = true) : (A ++ M).dropWhile p = M.dropWhile p := by
  induction A with
  | nil => rfl
  | cons a A ih =>
    simp only [List.all_cons, Bool.and_eq_true] at h
    rw [List.cons_append, List.dropWhile_cons, if_pos h.1, ih h.2]

theorem dropWhile_stop {α : Type} (p : α → Bool) (M : List α) (h : ∀ a, M.head? = some a → p a = false) : M.dropWhile p = M := by
  cases M with
  | nil => rfl
  | cons a M => rw [List.dropWhile_cons, if_neg (by rw [h a rfl]; decide)]

theorem trim_parts (A M B : List UInt8) (hA : A.all isBl = true) (hB : B.all isBl = true) (h1 : ∀ a, M.head? = some a → isBl a = false) (h2 : ∀ a, M.getLast? = some a → isBl a = false) : Lib.trimS (A ++ M ++ B) blanks = M := by
  unfold Lib.trimS Lib.trimLeftS Lib.trimRightS
  show (((A ++ M ++ B).reverse.dropWhile isBl).reverse).dropWhile isBl = M
  rw [List.reverse_append, dropWhile_all isBl _ _ (by rw [List.all_reverse]; exact hB)]
  by_cases hM : M = []
  · subst hM
    rw [List.append_nil]
    have : A.reverse.dropWhile isBl = [] := by
      have := dropWhile_all isBl A.reverse [] (by rw [List.all_reverse]; exact hA)
      simpa using this
    rw [this]; rfl
  · rw [dropWhile_stop isBl (A ++ M).reverse, List.reverse_reverse, dropWhile_all isBl _ _ hA, dropWhile_stop isBl M h1]
    intro a ha
    rw [List.head?_reverse, List.getLast?_append] at ha
    refine h2 a ?_
    cases hl : M.getLast? with
    | none => exact absurd (List.getLast?_eq_none_iff.1 hl) hM
    | some b => rw [hl] at ha; simpa using ha

theorem mid_parts (l : List UInt8) (i j : Nat) (hij : i ≤ j) : l = l.take i ++ (l.take j).drop i ++ l.drop j := by
  have h1 : l.take j = (l.take j).take i ++ (l.take j).drop i := (List.take_append_drop i _).symm
  rw [List.take_take, Nat.min_eq_left hij] at h1
  conv => lhs; rw [← List.take_append_drop j l, h1]

/-- The trimmed text, between two places. -/
theorem trim_mid (l : List UInt8) (i j : Nat) (hij : i ≤ j) (hj : j ≤ l.length) (hA : (l.take i).all isBl = true) (hB : (l.drop j).all isBl = true)
    (h1 : i < j → ∀ h : i < l.length, isBl l[i] = false) (h2 : i < j → ∀ h : j - 1 < l.length, isBl l[j - 1] = false) : Lib.trimS l blanks = (l.take j).drop i := by
  have hM : ((l.take j).drop i).length = j - i := by rw [List.length_drop, List.length_take]; omega
  conv => lhs; rw [mid_parts l i j hij]
  refine trim_parts _ _ _ hA hB ?_ ?_
  · intro a ha
    have hlt : i < j := by
      rcases Nat.lt_or_ge i j with h | h
      · exact h
      · have : ((l.take j).drop i) = [] := List.eq_nil_of_length_eq_zero (by omega)
        rw [this] at ha; cases ha
    have := h1 hlt (by omega)
    rw [List.head?_drop, List.getElem?_take_of_lt hlt, List.getElem?_eq_getElem (by omega)] at ha
    rw [← Option.some.inj ha]; exact this
  · intro a ha
    have hlt : i < j := by
      rcases Nat.lt_or_ge i j with h | h
      · exact h
      · have : ((l.take j).drop i) = [] := List.eq_nil_of_length_eq_zero (by omega)
        rw [this] at ha; cases ha
    have := h2 hlt (by omega)
    rw [List.getLast?_eq_getElem?, hM, List.getElem?_drop, List.getElem?_take_of_lt (by omega), show i + (j - i - 1) = j - 1 from by omega, List.getElem?_eq_getElem (by omega)] at ha
    rw [← Option.some.inj ha]; exact this

set_option maxHeartbeats 2000000 in
set_option maxRecDepth 100000 in
theorem bare_wide (s : ByteArray) (w : World) (hs : s.size ≤ 9000) :
    Calls Tryd.prog 84 #[.string s] w fun e w' => (∃ r : ByteArray, e = .returned (.string r) ∧ r.data.toList = Lib.trimS s.data.toList blanks) ∧ w = w' := by
  obtain ⟨l, hl⟩ : ∃ l, l = s.data.toList := ⟨_, rfl⟩
  rw [← hl]
  have hz : s.size = l.length := by rw [hl, ba_size]
  have HL := hid hl.symm
  have HZ := hid hz
  clear hl hz
  go_enter Tryd.func84, Tryd.ntmps84
  go_upto_block 0 with fail
  go_cut [3] from 5 to 34 (fun s3 wx => (∃ k : Nat, s3 = .int .i64 k ∧ k ≤ s.size ∧ (l.take k).all isBl = true ∧ ∀ h : k < l.length, isBl l[k] = false) ∧ w = wx)
  case first =>
    go_wp2_with fail
    go_loop [3] (fun v => ∃ k : Nat, v = .int .i64 k ∧ k ≤ s.size ∧ (l.take k).all isBl = true) (fun v => s.size - (intOf v).toNat)
    case atStart => exact ⟨0, rfl, Nat.zero_le _, rfl⟩
    case round =>
      obtain ⟨k, rfl, hk, ha⟩ := hrel
      have Ha := hid ha
      clear ha
      by_cases hlt : k < s.size
      · have hlt2 : k < l.length := by rw [← HZ.out]; exact hlt
        have e0 := hid (ba_at s l HL.out k hlt hlt2)
        cases hb : isBl l[k]
        · have hb2 : isBl s[k] = false := by rw [e0.out]; exact hb
          have Hb := hid hb
          clear hb
          go_wp2_with (go_at_call 102; refine (blank_any s[k] _).mono ?_; rintro e w' ⟨rfl, rfl⟩)
          go_meet
          case rel => exact ⟨⟨k, rfl, hk, Ha.out, fun _ => Hb.out⟩, rfl⟩
        · have hb2 : isBl s[k] = true := by rw [e0.out]; exact hb
          have Hb := hid hb
          clear hb
          go_wp2_with (go_at_call 102; refine (blank_any s[k] _).mono ?_; rintro e w' ⟨rfl, rfl⟩)
          refine ⟨⟨k + 1, by go_num, by omega, ?_⟩, by simp [intOf]; omega⟩
          rw [List.take_succ_eq_append_getElem hlt2, List.all_append, Ha.out]
          simp [Hb.out]
      · go_wp2_with fail
        go_meet
        case rel => exact ⟨⟨k, rfl, hk, Ha.out, fun h => absurd h (by rw [← HZ.out]; omega)⟩, rfl⟩
  case rest =>
    obtain ⟨⟨k, rfl, hk, ha, hst⟩, rfl⟩ := hcut
    have Ha := hid ha
    have Hst := hid hst
    clear ha hst
    go_wp2_with fail
    go_loop [4] (fun v => ∃ j : Nat, v = .int .i64 j ∧ k ≤ j ∧ j ≤ s.size ∧ (l.drop j).all isBl = true) (fun v => (intOf v).toNat)
    case atStart => exact ⟨s.size, rfl, hk, Nat.le_refl _, by rw [HZ.out]; simp⟩
    case round =>
      obtain ⟨j, rfl, hkj, hj, hd⟩ := hrel
      have Hd := hid hd
      clear hd
      have hfin : (k < j → ∀ h : j - 1 < l.length, isBl l[j - 1] = false) → (s.extract k j).data.toList = Lib.trimS l blanks := by
        intro h2
        rw [Lib.extract_data, HL.out, List.take_drop, show k + (j - k) = j from by omega]
        exact (trim_mid l k j hkj (by rw [← HZ.out]; exact hj) Ha.out Hd.out (fun _ => Hst.out) h2).symm
      have Hfin := hid hfin
      clear hfin
      by_cases hlt : k < j
      · obtain ⟨i, rfl⟩ : ∃ i, j = i + 1 := ⟨j - 1, by omega⟩
        have hlt1 : i < s.size := by omega
        have hlt2 : i < l.length := by rw [← HZ.out]; exact hlt1
        have e0 := hid (ba_at s l HL.out i hlt1 hlt2)
        have ei : (((i + 1 : Nat) : Int) - 1) = (i : Int) := by omega
        cases hb : isBl l[i]
        · have hb2 : isBl s[i] = false := by rw [e0.out]; exact hb
          have Hb := hid hb
          clear hb
          go_wp2_with (go_at_call 102; refine (blank_any s[i] _).mono ?_; rintro e w' ⟨rfl, rfl⟩)
          go_ret
          exact ⟨⟨_, rfl, Hfin.out (fun _ _ => Hb.out)⟩, rfl⟩
        · have hb2 : isBl s[i] = true := by rw [e0.out]; exact hb
          have Hb := hid hb
          clear hb
          go_wp2_with (go_at_call 102; refine (blank_any s[i] _).mono ?_; rintro e w' ⟨rfl, rfl⟩)
          refine ⟨⟨i, by go_num, by omega, by omega, ?_⟩, by simp [intOf]⟩
          rw [List.drop_eq_getElem_cons hlt2, List.all_cons, Hb.out, Hd.out, Bool.and_self]
      · go_wp2_with fail
        go_ret
        exact ⟨⟨_, rfl, Hfin.out (fun h => absurd h hlt)⟩, rfl⟩

theorem bare_any (s : ByteArray) (w : World) (hs : s.size ≤ 5000) :
    Calls Tryd.prog 84 #[.string s] w fun e w' => (∃ r : ByteArray, e = .returned (.string r) ∧ r.data.toList = Lib.trimS s.data.toList blanks) ∧ w = w' := bare_wide s w (by omega)

end Go.Proofs.YtkomjmgmancinaaDoor
