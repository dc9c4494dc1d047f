/-
  The reference's words on lists of properties in heaps.
-/
import Derived.Test.YtnidamkgfgddfaaGreatRefObj1
import Derived.Test.YtnidamkgfgddfaaGreatHArray
import Derived.Test.YtnidamkgfgddfaaGreatHTwin
namespace Go.Proofs.YtnidamkgfgddfaaGreat
open Go.RowKit

theorem eq_lenK (k : KI) : (k.s.toList = [108, 101, 110, 103, 116, 104] → k.n = 0 → KI.eq k lenK = true) ∧ (¬ k.s.toList = [108, 101, 110, 103, 116, 104] → KI.eq k lenK = false) ∧ (¬ k.n = 0 → KI.eq k lenK = false) := by
  have e : lenK.s.toList = [108, 101, 110, 103, 116, 104] := by rw [ByteArray.toList_eq]; rfl
  unfold KI.eq
  rw [e]
  refine ⟨fun h1 h2 => ?_, fun h => ?_, fun h => ?_⟩
  · rw [h1, h2]; decide
  · rw [beq_eq_false_iff_ne.2 h]; rfl
  · rw [show lenK.n = 0 from rfl, beq_eq_false_iff_ne.2 h]; simp
theorem any_take {l : List PI} {P : PI → Bool} {i : Nat} (h : i < l.length) (h0 : (l.take i).any P = false) : (l.take (i + 1)).any P = P l[i] ∧ (P l[i] = true → l.any P = true) := by
  refine ⟨by rw [List.take_succ_eq_append_getElem h, List.any_append, h0]; simp, fun hp => List.any_eq_true.2 ⟨_, List.getElem_mem h, hp⟩⟩
theorem all_take {l : List PI} {P : PI → Bool} {i : Nat} (h : i < l.length) (h0 : (l.take i).all P = true) : (l.take (i + 1)).all P = P l[i] ∧ (P l[i] = false → l.all P = false) := by
  refine ⟨by rw [List.take_succ_eq_append_getElem h, List.all_append, h0]; simp, fun hp => List.all_eq_false.2 ⟨_, List.getElem_mem h, by simp [hp]⟩⟩
set_option maxHeartbeats 8000000 in
set_option maxRecDepth 100000 in
theorem rbelow_any (l : List PI) (hl : ∀ q ∈ l, q.k.s.size ≤ maxLen) (m : Int) (v : Value) (w : World) (hr : RdP l v w) : Calls Tryz.prog 73 #[v, .int .i64 m] w fun e w' => e = .returned (.bool (!l.any (arrP m))) ∧ Below w.heap.size w w' := by
  obtain ⟨pa, c, rfl, h1, h2, h3⟩ := hr
  unfold maxLen at h2
  have hlm : l.length ≤ 9223372036854775807 := by omega
  have HC := hidB h3
  have HLK := hidB hl
  clear h3 hl h1
  go_enter Tryz.func73, Tryz.ntmps73
  go_wp2_with fail
  go_loopw [5] (fun s8 wr => ∃ i : Nat, i ≤ l.length ∧ s8 = .int .i64 i ∧ (l.take i).any (arrP m) = false ∧ Below w.heap.size w wr) (fun i _ => l.length - (intOf i).toNat)
  case atStart => exact ⟨0, by omega, rfl, rfl, Below.refl _ _⟩
  case round =>
    obtain ⟨i, hi, rfl, hf, hb⟩ := hrel
    have HF := hidB hf
    have B := hidB hb
    clear hf hb
    have hx2 : (0 : Int) ≤ (i : Int) := by omega
    by_cases hlt : i < l.length
    rotate_left
    · obtain rfl : i = l.length := by omega
      have hx4 : ¬ ((l.length : Int) < (l.length : Int)) := by omega
      rw [List.take_length] at HF
      clear HC hi hlt
      go_wp2_with fail
      go_ret
      exact ⟨ret_bool (by rw [HF.out]; try rfl), B.out⟩
    have HAT := hidB (any_take hlt HF.out)
    clear HF
    have hx1 : (i : Int) < (l.length : Int) := by omega
    obtain ⟨g, o, rfl, hgl, hcell⟩ := HC.out (by omega)
    have HRK := hidB (fun W (hS : Below w.heap.size w W) => rangeKeepR (hcell i hlt) hS hgl)
    have HRD := hidB (fun W (hS : Below w.heap.size w W) => rangeKeepD (hcell i hlt) hS hgl)
    have HS := hidB (HLK.out _ (List.getElem_mem hlt))
    clear hcell hgl
    generalize hp0 : l[i]'hlt = p0 at *
    clear hp0 hlt
    go_wp2_with (first | ((with_reducible refine ldId 66 (.tmp 18) ?_); refine wpList_load_mid (by rfl) 66 (.tmp 18) (by rfl) g (o + i * 18) (by rfl) (p0.k.cells) _ (by exact HRK.out _ B.out) Tryz.underlying66 (by rfl) (by kernel_rfl) ?_))
    refine (rindex_any p0.k HS.out _).mono ?_; rintro e w3 ⟨rfl, hb⟩
    replace B := hidB (B.out.trans (hb.mono B.out.size)); clear hb
    have HP : Hid (arrP m p0 = ((idxK p0.k).isSome && decide (m ≤ idxN p0.k))) := hidB rfl
    generalize (idxK p0.k).isSome = is at *
    generalize idxN p0.k = n at *
    cases is
    · have HE := hidB (HAT.out.1.trans (HP.out.trans (Bool.false_and _)))
      clear HAT HP
      go_wp2_with fail
      go_roundw
      case rel => exact ⟨i + 1, by omega, by go_num, HE.out, B.out⟩
      case measure => simp [intOf]; omega
    by_cases hge : m ≤ n
    · have HE := hidB (HAT.out.2 (by rw [HP.out, decide_eq_true hge]; rfl))
      clear HAT HP
      go_wp2_with fail
      go_ret
      exact ⟨ret_bool (by rw [HE.out]; try rfl), B.out⟩
    · have HE := hidB (HAT.out.1.trans (by rw [HP.out, decide_eq_false hge]; try rfl))
      clear HAT HP
      go_wp2_with fail
      go_roundw
      case rel => exact ⟨i + 1, by omega, by go_num, HE.out, B.out⟩
      case measure => simp [intOf]; omega
set_option maxHeartbeats 8000000 in
set_option maxRecDepth 100000 in
theorem rboxed_any (l : List PI) (hl : ∀ q ∈ l, q.k.s.size ≤ maxLen) (s : ByteArray) (v : Value) (w : World) (hr : RdP l v w) : Calls Tryz.prog 59 #[v, .string s] w fun e w' => e = .returned (.bool (boxB l s)) ∧ Below w.heap.size w w' := by
  obtain ⟨pa, c, rfl, h1, h2, h3⟩ := hr
  unfold maxLen at h2
  have hlm : l.length ≤ 9223372036854775807 := by omega
  have HC := hidB h3
  have HLK := hidB hl
  clear h3 hl h1
  by_cases hbig : (4096 : Int) < (s.size : Int)
  · have HK := hidB (show boxB l s = false by unfold boxB; rw [decide_eq_false (by omega)]; rfl)
    go_enter Tryz.func59, Tryz.ntmps59
    go_wp2_with fail
    go_ret
    exact ⟨ret_bool (by rw [HK.out]), Below.refl _ _⟩
  have HK := hidB (show boxB l s = !l.any (boxP s) by unfold boxB; rw [decide_eq_true (by omega), Bool.true_and])
  rw [HK.out]
  clear HK
  go_enter Tryz.func59, Tryz.ntmps59
  go_wp2_with fail
  go_loopw [5] (fun s8 wr => ∃ i : Nat, i ≤ l.length ∧ s8 = .int .i64 i ∧ (l.take i).any (boxP s) = false ∧ Below w.heap.size w wr) (fun i _ => l.length - (intOf i).toNat)
  case atStart => exact ⟨0, by omega, rfl, rfl, Below.refl _ _⟩
  case round =>
    obtain ⟨i, hi, rfl, hf, hb⟩ := hrel
    have HF := hidB hf
    have B := hidB hb
    clear hf hb
    have hx2 : (0 : Int) ≤ (i : Int) := by omega
    by_cases hlt : i < l.length
    rotate_left
    · obtain rfl : i = l.length := by omega
      have hx4 : ¬ ((l.length : Int) < (l.length : Int)) := by omega
      rw [List.take_length] at HF
      clear HC hi hlt
      go_wp2_with fail
      go_ret
      exact ⟨ret_bool (by rw [HF.out]; try rfl), B.out⟩
    have HAT := hidB (any_take hlt HF.out)
    clear HF
    have hx1 : (i : Int) < (l.length : Int) := by omega
    obtain ⟨g, o, rfl, hgl, hcell⟩ := HC.out (by omega)
    have HRK := hidB (fun W (hS : Below w.heap.size w W) => rangeKeepR (hcell i hlt) hS hgl)
    have HRD := hidB (fun W (hS : Below w.heap.size w W) => rangeKeepD (hcell i hlt) hS hgl)
    have HS := hidB (HLK.out _ (List.getElem_mem hlt))
    clear hcell hgl
    generalize hp0 : l[i]'hlt = p0 at *
    clear hp0 hlt
    go_wp2_with (first | ((with_reducible refine ldId 66 (.tmp 21) ?_); refine wpList_load_mid (by rfl) 66 (.tmp 21) (by rfl) g (o + i * 18) (by rfl) (p0.k.cells) _ (by exact HRK.out _ B.out) Tryz.underlying66 (by rfl) (by kernel_rfl) ?_))
    refine (rindex_any p0.k HS.out _).mono ?_; rintro e w3 ⟨rfl, hb⟩
    replace B := hidB (B.out.trans (hb.mono B.out.size)); clear hb
    have HP : Hid (boxP s p0 = (((idxK p0.k).isSome && decide (idxN p0.k < (s.size : Int))) || KI.eq p0.k lenK)) := hidB rfl
    have z1 : Tryz.prog.eqGuardType Tryz.prog.depth 66 = false := by kernel_rfl
    have HKE := hidB (eq_lenK p0.k)
    generalize (idxK p0.k).isSome = is at *
    generalize idxN p0.k = n at *
    generalize KI.eq p0.k lenK = ke at *
    generalize boxP s p0 = bp at *
    have hh : (is = true ∧ n < (s.size : Int)) ∨ (is = false ∨ (is = true ∧ ¬ n < (s.size : Int))) := by cases is <;> simp; exact Int.lt_or_le n s.size |>.imp id id
    rcases hh with ⟨rfl, hn⟩ | hh
    · have HE := hidB (HAT.out.2 (by rw [HP.out, decide_eq_true hn]; rfl))
      clear HAT HP HKE
      go_wp2_with (first | ((with_reducible refine ldId 66 (.tmp 37) ?_); refine wpList_wload_mid 66 (.tmp 37) (by rfl) (by rfl) g (o + i * 18) (by rfl) (p0.k.cells) _ (by exact HRK.out _ B.out) Tryz.underlying66 (by rfl) (by kernel_rfl) ?_))
      all_goals first | (exfalso; omega) | (go_ret; exact ⟨ret_bool (by rw [HE.out]; try rfl), B.out⟩)
    have HM : Hid (bp = ke) := hidB (by rw [HP.out]; rcases hh with rfl | ⟨rfl, hn⟩ <;> simp [*])
    clear HP
    by_cases hA : p0.k.s.toList = [108, 101, 110, 103, 116, 104]
    rotate_left
    · have HE := hidB (HAT.out.1.trans (HM.out.trans (HKE.out.2.1 hA)))
      clear HAT HM HKE
      rcases hh with rfl | ⟨rfl, hn⟩
      ·
        skip
        go_wp2_with (first | ((with_reducible refine ldId 66 (.tmp 37) ?_); refine wpList_wload_mid 66 (.tmp 37) (by rfl) (by rfl) g (o + i * 18) (by rfl) (p0.k.cells) _ (by exact HRK.out _ B.out) Tryz.underlying66 (by rfl) (by kernel_rfl) ?_))
        go_roundw
        case rel => exact ⟨i + 1, by omega, by go_num, HE.out, B.out⟩
        case measure => simp [intOf]; omega
      ·
        skip
        go_wp2_with (first | ((with_reducible refine ldId 66 (.tmp 37) ?_); refine wpList_wload_mid 66 (.tmp 37) (by rfl) (by rfl) g (o + i * 18) (by rfl) (p0.k.cells) _ (by exact HRK.out _ B.out) Tryz.underlying66 (by rfl) (by kernel_rfl) ?_))
        go_roundw
        case rel => exact ⟨i + 1, by omega, by go_num, HE.out, B.out⟩
        case measure => simp [intOf]; omega
    by_cases hB : p0.k.n = 0
    rotate_left
    · have HE := hidB (HAT.out.1.trans (HM.out.trans (HKE.out.2.2 hB)))
      clear HAT HM HKE
      rcases hh with rfl | ⟨rfl, hn⟩
      ·
        skip
        go_wp2_with (first | ((with_reducible refine ldId 66 (.tmp 37) ?_); refine wpList_wload_mid 66 (.tmp 37) (by rfl) (by rfl) g (o + i * 18) (by rfl) (p0.k.cells) _ (by exact HRK.out _ B.out) Tryz.underlying66 (by rfl) (by kernel_rfl) ?_))
        go_roundw
        case rel => exact ⟨i + 1, by omega, by go_num, HE.out, B.out⟩
        case measure => simp [intOf]; omega
      ·
        skip
        go_wp2_with (first | ((with_reducible refine ldId 66 (.tmp 37) ?_); refine wpList_wload_mid 66 (.tmp 37) (by rfl) (by rfl) g (o + i * 18) (by rfl) (p0.k.cells) _ (by exact HRK.out _ B.out) Tryz.underlying66 (by rfl) (by kernel_rfl) ?_))
        go_roundw
        case rel => exact ⟨i + 1, by omega, by go_num, HE.out, B.out⟩
        case measure => simp [intOf]; omega
    have HE := hidB (HAT.out.2 (HM.out.trans (HKE.out.1 hA hB)))
    clear HAT HM HKE
    rcases hh with rfl | ⟨rfl, hn⟩
    ·
      skip
      go_wp2_with (first | ((with_reducible refine ldId 66 (.tmp 37) ?_); refine wpList_wload_mid 66 (.tmp 37) (by rfl) (by rfl) g (o + i * 18) (by rfl) (p0.k.cells) _ (by exact HRK.out _ B.out) Tryz.underlying66 (by rfl) (by kernel_rfl) ?_))
      all_goals first | (exfalso; omega) | (go_ret; exact ⟨ret_bool (by rw [HE.out]; try rfl), B.out⟩)
    ·
      skip
      go_wp2_with (first | ((with_reducible refine ldId 66 (.tmp 37) ?_); refine wpList_wload_mid 66 (.tmp 37) (by rfl) (by rfl) g (o + i * 18) (by rfl) (p0.k.cells) _ (by exact HRK.out _ B.out) Tryz.underlying66 (by rfl) (by kernel_rfl) ?_))
      all_goals first | (exfalso; omega) | (go_ret; exact ⟨ret_bool (by rw [HE.out]; try rfl), B.out⟩)

theorem whole_two_tab : ((List.range 64).all fun n => !(wholeH n == n) || ((hasB n 3 && hasB n 12) || ((n == 51) || (n == 60)))) = true := by kernel_rfl
theorem whole_has {d : DI} (h0 : d.byte) (h : d.isW = true) : (d.has = 51 ∨ d.has = 60) := by
  unfold DI.isW DI.com at h
  rw [Bool.and_eq_true, beq_iff_eq, beq_iff_eq] at h
  obtain ⟨h1, h2⟩ := h
  rw [if_pos h1] at h2
  have h3 : d.bad1 = false := by
    unfold DI.err at h1
    cases hb : d.bad1
    · rfl
    · rw [hb] at h1; simp at h1
  unfold DI.bad1 DI.data DI.acc at h3
  simp only [Bool.or_eq_false_iff] at h3
  have h4 := h3.1.1.1.1
  rw [(bits_at d.has h0).2.2.1, decide_eq_false_iff_not] at h4
  obtain ⟨k, hk⟩ : ∃ k : Nat, d.has = (k : Int) := ⟨d.has.toNat, by have := h0.1; omega⟩
  have h5 := List.all_eq_true.1 whole_two_tab k (List.mem_range.2 (by omega))
  have h6 := h3.1.1.1.2
  have h7 : wholeH d.has = d.has := h2
  rw [hk] at h6 h7
  rw [h6, beq_iff_eq.2 h7] at h5
  simp at h5
  omega
set_option maxHeartbeats 8000000 in
set_option maxRecDepth 100000 in
theorem rarray_any (l : List PI) (hl : ∀ q ∈ l, q.k.s.size ≤ maxLen) (hw : ∀ q ∈ l, q.d.byte ∧ q.d.isW = true) (v : Value) (w : World) (hr : RdP l v w) : Calls Tryz.prog 58 #[v] w fun e w' => e = .returned (.bool (arrB l)) ∧ Below w.heap.size w w' := by
  have HRP := hidB hr
  obtain ⟨pa, c, rfl, h1, h2, h3⟩ := hr
  unfold maxLen at h2
  have hlm : l.length ≤ 9223372036854775807 := by omega
  go_enter Tryz.func58, Tryz.ntmps58
  go_upto_region 1 with fail
  by_cases h0 : l.length = 0
  · have hl0 : ((l.length : Int) == 0) = true := by rw [h0]; rfl
    have HQ := hidB (show arrB l = false by cases l with | nil => rfl | cons _ _ => cases h0)
    clear h3 h0 hl hw HRP
    go_wp2_with fail
    go_ret
    exact ⟨ret_bool (by rw [HQ.out]), Below.refl _ _⟩
  have h00 : 0 < l.length := by omega
  obtain ⟨g, o, rfl, hg, hcell⟩ := h3 h00
  have hr0 : w.rangeAt g o (l[0].k.cells ++ l[0].d.cs.toList) := by have := hcell 0 h00; rw [Nat.zero_mul, Nat.add_zero] at this; exact this
  have HRK := hidB (range_left hr0)
  have HRD := hidB (show w.rangeAt g (o + 2) l[0].d.cs.toList from range_right hr0)
  have HQ0 := hidB (arrB_at h00)
  have hl0 : ((l.length : Int) == 0) = false := by rw [beq_eq_false_iff_ne]; omega
  have hx : (0 : Int) < (l.length : Int) := by omega
  have HW0 := hidB (hw _ (List.getElem_mem h00))
  clear hr0 hcell hg h0 h3 hw
  generalize l[0] = q at *
  clear h00
  have z1 : Tryz.prog.eqGuardType Tryz.prog.depth 66 = false := by kernel_rfl
  have HKE := hidB (eq_lenK q.k)
  generalize KI.eq q.k lenK = ke at *
  by_cases hA : q.k.s.toList = [108, 101, 110, 103, 116, 104]
  rotate_left
  · have HQ := hidB (show arrB l = false by rw [HQ0.out, HKE.out.2.1 hA]; rfl)
    clear HRP
    go_wp2_with (first | ((with_reducible refine ldId 66 (.tmp 10) ?_); refine wpList_wload_mid 66 (.tmp 10) (by rfl) (by rfl) g o (by rfl) (q.k.cells) _ (by exact HRK.out) Tryz.underlying66 (by rfl) (by kernel_rfl) ?_))
    go_ret
    exact ⟨ret_bool (by rw [HQ.out]), Below.refl _ _⟩
  by_cases hB : q.k.n = 0
  rotate_left
  · have HQ := hidB (show arrB l = false by rw [HQ0.out, HKE.out.2.2 hB]; rfl)
    clear HRP
    go_wp2_with (first | ((with_reducible refine ldId 66 (.tmp 10) ?_); refine wpList_wload_mid 66 (.tmp 10) (by rfl) (by rfl) g o (by rfl) (q.k.cells) _ (by exact HRK.out) Tryz.underlying66 (by rfl) (by kernel_rfl) ?_))
    go_ret
    exact ⟨ret_bool (by rw [HQ.out]), Below.refl _ _⟩
  obtain rfl : ke = true := HKE.out.1 hA hB
  clear HKE
  skip
  have X := hidB (show Bk (w.alloc (.cells q.d.cs 68)) w.heap.size 68 q.d.cs from Bk.new w _ _)
  have B := hidB (show Below w.heap.size w (w.alloc (.cells q.d.cs 68)) from box_one w _)
  replace HRP := hidB (show RdP l (.slice (some ⟨g, o, none⟩) l.length c) (w.alloc (.cells q.d.cs 68)) from HRP.out.on (box_one w _))
  go_upto_region 4 with (first | ((with_reducible refine ldId 66 (.tmp 10) ?_); refine wpList_wload_mid 66 (.tmp 10) (by rfl) (by rfl) g o (by rfl) (q.k.cells) _ (by exact HRK.out) Tryz.underlying66 (by rfl) (by kernel_rfl) ?_) | ((with_reducible refine ldId 68 (.tmp 17) ?_); refine wpList_load_mid (by rfl) 68 (.tmp 17) (by rfl) g (o + 2) (by rfl) q.d.cs.toList _ (by exact HRD.out) Tryz.underlying68 (by rfl) (by kernel_rfl) ?_) | ((with_reducible refine wpId ?_); refine wpList_store_new (by rfl) 68 (.tmp 3) (.tmp 18) (by rfl) q.d.cs 68 _ (by rfl) (by rfl) (by kernel_rfl) (by rfl) (by exact DI.one _) ?_))
  clear HRK HRD z1 hA hB
  generalize hW : (w.alloc (.cells q.d.cs 68)) = w4 at *
  clear hW
  skip
  have x1 : w4.cell? ⟨w.heap.size, 1, none⟩ = some (.int .u8 q.d.v.k) := X.out.cell 1
  have x2 : w4.cell? ⟨w.heap.size, 2, none⟩ = some (.float .f64 q.d.v.x) := X.out.cell 2
  have x14 : w4.cell? ⟨w.heap.size, 14, none⟩ = some (.bool q.d.en) := X.out.cell 14
  have x15 : w4.cell? ⟨w.heap.size, 15, none⟩ = some (.bool q.d.cf) := X.out.cell 15
  rcases whole_has HW0.out.1 HW0.out.2 with hs | hs
  rotate_left
  · have x0 : w4.cell? ⟨w.heap.size, 0, none⟩ = some (.int .u8 60) := by rw [← hs]; exact X.out.cell 0
    have HD : Hid ((bits .and .u8 q.d.has 3 != 0) = false) := hidB (by rw [hs]; kernel_rfl)
    have b60 : bits .and .u8 60 12 = 12 := by kernel_rfl
    clear hs
    have HQ := hidB (show arrB l = false by rw [HQ0.out]; unfold lenOk; simp [HD.out])
    go_wp2_with fail
    go_ret
    exact ⟨ret_bool (by rw [HQ.out]), B.out⟩
  have x0 : w4.cell? ⟨w.heap.size, 0, none⟩ = some (.int .u8 51) := by rw [← hs]; exact X.out.cell 0
  have HD : Hid ((bits .and .u8 q.d.has 3 != 0) = true) := hidB (by rw [hs]; kernel_rfl)
  have b51 : bits .and .u8 51 12 = 0 := by kernel_rfl
  clear hs
  cases hen : q.d.en
  rotate_left
  · rw [hen] at x14
    have HQ := hidB (show arrB l = false by rw [HQ0.out]; unfold lenOk; simp [HD.out, hen])
    go_wp2_with fail
    go_ret
    exact ⟨ret_bool (by rw [HQ.out]), B.out⟩
  rw [hen] at x14
  cases hcf : q.d.cf
  rotate_left
  · rw [hcf] at x15
    have HQ := hidB (show arrB l = false by rw [HQ0.out]; unfold lenOk; simp [HD.out, hen, hcf])
    go_wp2_with fail
    go_ret
    exact ⟨ret_bool (by rw [HQ.out]), B.out⟩
  rw [hcf] at x15
  by_cases hk : q.d.v.k = 3
  rotate_left
  · have hk2 : (q.d.v.k != 3) = true := by rw [bne_iff_ne]; exact hk
    have HK := hidB hk
    have HQ := hidB (show arrB l = false by rw [HQ0.out]; unfold lenOk; simp [HD.out, hen, hcf, HK.out])
    go_wp2_with fail
    go_ret
    exact ⟨ret_bool (by rw [HQ.out]), B.out⟩
  rw [hk] at x1
  have HK := hidB hk
  clear hk
  cases hge : ge0 q.d.v.x
  · have HGE := hidB hge
    unfold ge0 at hge
    have HQ := hidB (show arrB l = false by rw [HQ0.out]; unfold lenOk; simp [HD.out, hen, hcf, HK.out, HGE.out])
    go_wp2_with fail
    go_ret
    exact ⟨ret_bool (by rw [HQ.out]), B.out⟩
  have HGE := hidB hge
  unfold ge0 at hge
  cases hle : leM q.d.v.x
  · have HLM := hidB hle
    unfold leM at hle
    have HQ := hidB (show arrB l = false by rw [HQ0.out]; unfold lenOk; simp [HD.out, hen, hcf, HK.out, HGE.out, HLM.out])
    go_wp2_with fail
    go_ret
    exact ⟨ret_bool (by rw [HQ.out]), B.out⟩
  have HLM := hidB hle
  unfold leM at hle
  have HQ := hidB (show arrB l = !l.any (arrP (Fl.tr q.d.v.x)) by rw [HQ0.out]; unfold lenOk; simp [HD.out, hen, hcf, HK.out, HGE.out, HLM.out])
  have hcv := conv_len HGE.out HLM.out
  have CP := hidB (rbelow_any l hl (Fl.tr q.d.v.x) _ _ HRP.out)
  generalize (!l.any (arrP (Fl.tr q.d.v.x))) = la at *
  clear HQ0
  go_wp2_with fail
  refine CP.out.mono ?_; rintro e w7 ⟨rfl, hb⟩
  replace B := hidB (B.out.trans (hb.mono B.out.size))
  clear hb CP
  go_wp2_with fail
  go_ret
  exact ⟨ret_bool (by rw [HQ.out]), B.out⟩
set_option maxHeartbeats 8000000 in
set_option maxRecDepth 100000 in
theorem rprops_any (h : HI) (hv : Value) (l : List PI) (hok : ∀ q ∈ l, q.d.ok ∧ q.d.byte ∧ q.k.s.size ≤ maxLen) (v : Value) (w : World) (hrh : RdH h hv w) (hr : RdP l v w) : Calls Tryz.prog 57 #[.agg #[hv], v] w fun e w' => e = .returned (.bool ((tabE l == 0) && l.all (propB h))) ∧ Below w.heap.size w w' := by
  have TC := hidB (fun W (hb : Below w.heap.size w W) => rtabCheck_any l hok v W (hr.on hb))
  have MI := hidB (fun (u : VI) (h0 : 0 ≤ u.k) W (hb : Below w.heap.size w W) => rmayin_any h hv u h0 W (hrh.on hb))
  obtain ⟨pa, c, rfl, h1, h2, h3⟩ := hr
  unfold maxLen at h2
  have hlm : l.length ≤ 9223372036854775807 := by omega
  have HC := hidB h3
  have HLK := hidB hok
  clear h3 hok h1 hrh
  generalize tabE l = er at *
  have Y := hidB (show Bk (w.alloc (.cells (#[hv]) 24)) (w.heap.size) 24 (#[hv]) from Bk.new w _ _)
  have B := hidB (show Below w.heap.size w (w.alloc (.cells (#[hv]) 24)) from box_one w _)
  go_enter Tryz.func57, Tryz.ntmps57
  go_upto_region 1 with fail
  generalize hW : (w.alloc (.cells (#[hv]) 24)) = w1 at *
  clear hW
  go_wp2_with fail
  refine (TC.out _ B.out).mono ?_; rintro e w2 ⟨rfl, hb⟩
  replace Y := hidB (Y.out.on hb); replace B := hidB (B.out.trans (hb.mono B.out.size)); clear hb
  by_cases he : er = 0
  rotate_left
  · have hne : (er == 0) = false := by rw [beq_eq_false_iff_ne]; exact he
    have hne2 : (er != 0) = true := by rw [bne_iff_ne]; exact he
    clear he
    go_wp2_with fail
    go_ret
    exact ⟨by first | rfl | (simp; done) | (rw [hne]; rfl), B.out⟩
  subst he
  clear TC
  go_wp2_with fail
  go_loopw [5] (fun s8 wr => ∃ i : Nat, i ≤ l.length ∧ s8 = .int .i64 i ∧ (l.take i).all (propB h) = true ∧ Bk wr w.heap.size 24 #[hv] ∧ Below w.heap.size w wr) (fun i _ => l.length - (intOf i).toNat)
  case atStart => exact ⟨0, by omega, rfl, rfl, Y.out, B.out⟩
  case round =>
    obtain ⟨i, hi, rfl, hf, hy, hb⟩ := hrel
    have HF := hidB hf
    replace Y := hidB hy
    replace B := hidB hb
    clear hf hb hy
    have hx2 : (0 : Int) ≤ (i : Int) := by omega
    by_cases hlt : i < l.length
    rotate_left
    · obtain rfl : i = l.length := by omega
      have hx4 : ¬ ((l.length : Int) < (l.length : Int)) := by omega
      rw [List.take_length] at HF
      clear HC hi hlt
      go_wp2_with fail
      go_ret
      exact ⟨ret_bool (by rw [HF.out]; try rfl), B.out⟩
    have HAT := hidB (all_take hlt HF.out)
    clear HF
    have hx1 : (i : Int) < (l.length : Int) := by omega
    obtain ⟨g, o, rfl, hgl, hcell⟩ := HC.out (by omega)
    have HRK := hidB (fun W (hS : Below w.heap.size w W) => rangeKeepR (hcell i hlt) hS hgl)
    have HRD := hidB (fun W (hS : Below w.heap.size w W) => rangeKeepD (hcell i hlt) hS hgl)
    have HS := hidB (HLK.out _ (List.getElem_mem hlt))
    clear hcell hgl
    generalize hp0 : l[i]'hlt = p0 at *
    clear hp0 hlt
    have X := hidB (show Bk (wr.alloc (.cells p0.d.cs 68)) wr.heap.size 68 p0.d.cs from Bk.new wr _ _)
    replace Y := hidB (Y.out.alloc (.cells p0.d.cs 68))
    have BA := hidB (show Below w.heap.size w (wr.alloc (.cells p0.d.cs 68)) from B.out.alloc B.out.size _)
    go_upto_region 7 with (first | ((with_reducible refine ldId 68 (.tmp 19) ?_); refine wpList_load_mid (by rfl) 68 (.tmp 19) (by rfl) g (o + i * 18 + 2) (by rfl) (p0.d.cs.toList) _ (by exact HRD.out _ B.out) Tryz.underlying68 (by rfl) (by kernel_rfl) ?_) | ((with_reducible refine wpId ?_); refine wpList_store_new (by rfl) 68 (.tmp 6) (.tmp 20) (by rfl) p0.d.cs 68 _ (by rfl) (by rfl) (by kernel_rfl) (by rfl) (by exact DI.one _) ?_))
    clear HRK HRD
    replace B := BA
    clear BA
    generalize hW : (wr.alloc (.cells p0.d.cs 68)) = w4 at *
    clear hW
    generalize hgd : wr.heap.size = gd at *
    clear hgd
    have HP : Hid (propB h p0 = (inB h p0.d.v && (inB h p0.d.g && inB h p0.d.t))) := hidB rfl
    have HS1 := hidB HS.out.1
    clear HS
    have MV := hidB (MI.out p0.d.v HS1.out.1)
    have MG := hidB (MI.out p0.d.g HS1.out.2.1)
    have MT_ := hidB (MI.out p0.d.t HS1.out.2.2)
    generalize inB h p0.d.v = bv at *
    generalize inB h p0.d.g = bg at *
    generalize inB h p0.d.t = bt at *
    generalize propB h p0 = bp at *
    have hh : (bv = false ∨ (bv = true ∧ bg = false)) ∨ (bv = true ∧ bg = true) := by cases bv <;> cases bg <;> simp
    rcases hh with (rfl | ⟨rfl, rfl⟩) | ⟨rfl, rfl⟩
    · have HE := hidB (HAT.out.2 (HP.out.trans (by simp)))
      clear HAT HP
      go_wp2_with (first | ((with_reducible refine ldId 43 (.tmp 22) ?_); refine wpList_load_mid (by rfl) 43 (.tmp 22) (by rfl) (gd) 1 (by rfl) (p0.d.v.cells) _ (by exact Bk.mid X.out 1 _ rfl) Tryz.underlying43 (by rfl) (by kernel_rfl) ?_) | ((with_reducible refine ldId 43 (.tmp 28) ?_); refine wpList_wload_mid 43 (.tmp 28) (by rfl) (by rfl) (gd) 5 (by rfl) (p0.d.g.cells) _ (by exact Bk.mid X.out 5 _ rfl) Tryz.underlying43 (by rfl) (by kernel_rfl) ?_) | ((with_reducible refine ldId 43 (.tmp 35) ?_); refine wpList_wload_mid 43 (.tmp 35) (by rfl) (by rfl) (gd) 9 (by rfl) (p0.d.t.cells) _ (by exact Bk.mid X.out 9 _ rfl) Tryz.underlying43 (by rfl) (by kernel_rfl) ?_) | ((with_reducible refine ldId 24 (.tmp 2) ?_); refine wpList_load_row (by rfl) 24 (.tmp 2) (by rfl) (w.heap.size) (by rfl) 24 (#[hv]) (0, 0) _ (by exact Y.out) Tryz.underlying24 (by rfl) (by kernel_rfl) ?_) | ((with_reducible refine ldId 24 (.tmp 2) ?_); refine wpList_wload_row 24 (.tmp 2) (by rfl) (by rfl) (w.heap.size) (by rfl) 24 (#[hv]) (0, 0) _ (by exact Y.out) Tryz.underlying24 (by rfl) (by kernel_rfl) ?_) | (go_at_call 56; with_reducible refine (MV.out _ B.out).mono ?_; rintro e w5 ⟨rfl, hb⟩; replace X := hidB (X.out.on hb); replace Y := hidB (Y.out.on hb); replace B := hidB (B.out.trans (hb.mono B.out.size)); clear hb) | (go_at_call 56; with_reducible refine (MG.out _ B.out).mono ?_; rintro e w5 ⟨rfl, hb⟩; replace X := hidB (X.out.on hb); replace Y := hidB (Y.out.on hb); replace B := hidB (B.out.trans (hb.mono B.out.size)); clear hb) | (go_at_call 56; with_reducible refine (MT_.out _ B.out).mono ?_; rintro e w5 ⟨rfl, hb⟩; replace X := hidB (X.out.on hb); replace Y := hidB (Y.out.on hb); replace B := hidB (B.out.trans (hb.mono B.out.size)); clear hb))
      go_ret
      exact ⟨ret_bool (by rw [HE.out]; try rfl), B.out⟩
    · have HE := hidB (HAT.out.2 (HP.out.trans (by simp)))
      clear HAT HP
      go_wp2_with (first | ((with_reducible refine ldId 43 (.tmp 22) ?_); refine wpList_load_mid (by rfl) 43 (.tmp 22) (by rfl) (gd) 1 (by rfl) (p0.d.v.cells) _ (by exact Bk.mid X.out 1 _ rfl) Tryz.underlying43 (by rfl) (by kernel_rfl) ?_) | ((with_reducible refine ldId 43 (.tmp 28) ?_); refine wpList_wload_mid 43 (.tmp 28) (by rfl) (by rfl) (gd) 5 (by rfl) (p0.d.g.cells) _ (by exact Bk.mid X.out 5 _ rfl) Tryz.underlying43 (by rfl) (by kernel_rfl) ?_) | ((with_reducible refine ldId 43 (.tmp 35) ?_); refine wpList_wload_mid 43 (.tmp 35) (by rfl) (by rfl) (gd) 9 (by rfl) (p0.d.t.cells) _ (by exact Bk.mid X.out 9 _ rfl) Tryz.underlying43 (by rfl) (by kernel_rfl) ?_) | ((with_reducible refine ldId 24 (.tmp 2) ?_); refine wpList_load_row (by rfl) 24 (.tmp 2) (by rfl) (w.heap.size) (by rfl) 24 (#[hv]) (0, 0) _ (by exact Y.out) Tryz.underlying24 (by rfl) (by kernel_rfl) ?_) | ((with_reducible refine ldId 24 (.tmp 2) ?_); refine wpList_wload_row 24 (.tmp 2) (by rfl) (by rfl) (w.heap.size) (by rfl) 24 (#[hv]) (0, 0) _ (by exact Y.out) Tryz.underlying24 (by rfl) (by kernel_rfl) ?_) | (go_at_call 56; with_reducible refine (MV.out _ B.out).mono ?_; rintro e w5 ⟨rfl, hb⟩; replace X := hidB (X.out.on hb); replace Y := hidB (Y.out.on hb); replace B := hidB (B.out.trans (hb.mono B.out.size)); clear hb) | (go_at_call 56; with_reducible refine (MG.out _ B.out).mono ?_; rintro e w5 ⟨rfl, hb⟩; replace X := hidB (X.out.on hb); replace Y := hidB (Y.out.on hb); replace B := hidB (B.out.trans (hb.mono B.out.size)); clear hb) | (go_at_call 56; with_reducible refine (MT_.out _ B.out).mono ?_; rintro e w5 ⟨rfl, hb⟩; replace X := hidB (X.out.on hb); replace Y := hidB (Y.out.on hb); replace B := hidB (B.out.trans (hb.mono B.out.size)); clear hb))
      go_ret
      exact ⟨ret_bool (by rw [HE.out]; try rfl), B.out⟩
    cases bt
    · have HE := hidB (HAT.out.2 (HP.out.trans (by simp)))
      clear HAT HP
      go_wp2_with (first | ((with_reducible refine ldId 43 (.tmp 22) ?_); refine wpList_load_mid (by rfl) 43 (.tmp 22) (by rfl) (gd) 1 (by rfl) (p0.d.v.cells) _ (by exact Bk.mid X.out 1 _ rfl) Tryz.underlying43 (by rfl) (by kernel_rfl) ?_) | ((with_reducible refine ldId 43 (.tmp 28) ?_); refine wpList_wload_mid 43 (.tmp 28) (by rfl) (by rfl) (gd) 5 (by rfl) (p0.d.g.cells) _ (by exact Bk.mid X.out 5 _ rfl) Tryz.underlying43 (by rfl) (by kernel_rfl) ?_) | ((with_reducible refine ldId 43 (.tmp 35) ?_); refine wpList_wload_mid 43 (.tmp 35) (by rfl) (by rfl) (gd) 9 (by rfl) (p0.d.t.cells) _ (by exact Bk.mid X.out 9 _ rfl) Tryz.underlying43 (by rfl) (by kernel_rfl) ?_) | ((with_reducible refine ldId 24 (.tmp 2) ?_); refine wpList_load_row (by rfl) 24 (.tmp 2) (by rfl) (w.heap.size) (by rfl) 24 (#[hv]) (0, 0) _ (by exact Y.out) Tryz.underlying24 (by rfl) (by kernel_rfl) ?_) | ((with_reducible refine ldId 24 (.tmp 2) ?_); refine wpList_wload_row 24 (.tmp 2) (by rfl) (by rfl) (w.heap.size) (by rfl) 24 (#[hv]) (0, 0) _ (by exact Y.out) Tryz.underlying24 (by rfl) (by kernel_rfl) ?_) | (go_at_call 56; with_reducible refine (MV.out _ B.out).mono ?_; rintro e w5 ⟨rfl, hb⟩; replace X := hidB (X.out.on hb); replace Y := hidB (Y.out.on hb); replace B := hidB (B.out.trans (hb.mono B.out.size)); clear hb) | (go_at_call 56; with_reducible refine (MG.out _ B.out).mono ?_; rintro e w5 ⟨rfl, hb⟩; replace X := hidB (X.out.on hb); replace Y := hidB (Y.out.on hb); replace B := hidB (B.out.trans (hb.mono B.out.size)); clear hb) | (go_at_call 56; with_reducible refine (MT_.out _ B.out).mono ?_; rintro e w5 ⟨rfl, hb⟩; replace X := hidB (X.out.on hb); replace Y := hidB (Y.out.on hb); replace B := hidB (B.out.trans (hb.mono B.out.size)); clear hb))
      go_ret
      exact ⟨ret_bool (by rw [HE.out]; try rfl), B.out⟩
    · have HE := hidB (HAT.out.1.trans (HP.out.trans (show (true && (true && true)) = true from rfl)))
      clear HAT HP
      go_wp2_with (first | ((with_reducible refine ldId 43 (.tmp 22) ?_); refine wpList_load_mid (by rfl) 43 (.tmp 22) (by rfl) (gd) 1 (by rfl) (p0.d.v.cells) _ (by exact Bk.mid X.out 1 _ rfl) Tryz.underlying43 (by rfl) (by kernel_rfl) ?_) | ((with_reducible refine ldId 43 (.tmp 28) ?_); refine wpList_wload_mid 43 (.tmp 28) (by rfl) (by rfl) (gd) 5 (by rfl) (p0.d.g.cells) _ (by exact Bk.mid X.out 5 _ rfl) Tryz.underlying43 (by rfl) (by kernel_rfl) ?_) | ((with_reducible refine ldId 43 (.tmp 35) ?_); refine wpList_wload_mid 43 (.tmp 35) (by rfl) (by rfl) (gd) 9 (by rfl) (p0.d.t.cells) _ (by exact Bk.mid X.out 9 _ rfl) Tryz.underlying43 (by rfl) (by kernel_rfl) ?_) | ((with_reducible refine ldId 24 (.tmp 2) ?_); refine wpList_load_row (by rfl) 24 (.tmp 2) (by rfl) (w.heap.size) (by rfl) 24 (#[hv]) (0, 0) _ (by exact Y.out) Tryz.underlying24 (by rfl) (by kernel_rfl) ?_) | ((with_reducible refine ldId 24 (.tmp 2) ?_); refine wpList_wload_row 24 (.tmp 2) (by rfl) (by rfl) (w.heap.size) (by rfl) 24 (#[hv]) (0, 0) _ (by exact Y.out) Tryz.underlying24 (by rfl) (by kernel_rfl) ?_) | (go_at_call 56; with_reducible refine (MV.out _ B.out).mono ?_; rintro e w5 ⟨rfl, hb⟩; replace X := hidB (X.out.on hb); replace Y := hidB (Y.out.on hb); replace B := hidB (B.out.trans (hb.mono B.out.size)); clear hb) | (go_at_call 56; with_reducible refine (MG.out _ B.out).mono ?_; rintro e w5 ⟨rfl, hb⟩; replace X := hidB (X.out.on hb); replace Y := hidB (Y.out.on hb); replace B := hidB (B.out.trans (hb.mono B.out.size)); clear hb) | (go_at_call 56; with_reducible refine (MT_.out _ B.out).mono ?_; rintro e w5 ⟨rfl, hb⟩; replace X := hidB (X.out.on hb); replace Y := hidB (Y.out.on hb); replace B := hidB (B.out.trans (hb.mono B.out.size)); clear hb))
      go_roundw
      case rel => exact ⟨i + 1, by omega, by go_num, HE.out, Y.out, B.out⟩
      case measure => simp [intOf]; omega

end Go.Proofs.YtnidamkgfgddfaaGreat
