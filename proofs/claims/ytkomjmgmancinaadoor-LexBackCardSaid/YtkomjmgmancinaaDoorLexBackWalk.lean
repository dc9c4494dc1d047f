/-
  The walk of the statement LexBack.
-/
import Derived.Test.YtkomjmgmancinaaDoorLxEA
import Derived.Deep.QuietTactic
import Derived.BigQuiet
namespace Go.Proofs.YtkomjmgmancinaaDoor
open Go.RowKit

theorem box_three {W : World} {g : Nat} {t : TypeId} {a b c d : Value} (h : Bk W g t #[a, b, c, d]) : W.cell? ⟨g, 0, none⟩ = some a ∧ W.cell? ⟨g, 1, none⟩ = some b ∧ W.cell? ⟨g, 2, none⟩ = some c := ⟨h.cell 0, h.cell 1, h.cell 2⟩
theorem drewN_below (w : World) (n : Nat) : Below w.heap.size w (w.drewN n) := by
  have h := Below.refl w.heap.size w
  exact ⟨h.os, h.tape, h.output, h.size, h.block⟩
theorem plain_here {s : ByteArray} {p : Nat} {t : ByteArray} (h : (s.data.toList.drop p).take t.data.toList.length = t.data.toList) (q : Nat) (hq : q = p + t.size) : s.extract p q = t := by
  refine text_eq (a := t) (b := s.extract p q) rfl ?_
  rw [Lib.extract_data, hq, show p + t.size - p = t.data.toList.length by rw [← ba_size]; omega]
  exact h
theorem tok_range {B : Nat} {cs : List TC} {g c : Nat} {w : World} (h : RowT B cs (.slice (some ⟨g, 0, none⟩) cs.length c) w) (k : Nat) (hk : k < cs.length) : w.rangeAt g (k * 4) [.int .u8 cs[k].k, .int .i64 cs[k].p, .string cs[k].text, .float .f64 cs[k].num] := by
  obtain ⟨l0, l1, l2, l3⟩ := tok_loads h k hk
  intro j u hj
  match j, hj with
  | 0, hj => rw [← (Option.some.inj hj)]; exact l0
  | 1, hj => rw [← (Option.some.inj hj)]; exact l1
  | 2, hj => rw [← (Option.some.inj hj)]; exact l2
  | 3, hj => rw [← (Option.some.inj hj)]; exact l3
  | _ + 4, hj => simp at hj
theorem tok_at {s : ByteArray} {ks : List Tk} {cs : List TC} (hc : Cut s.data.toList (ks, 0, 0)) (hm : Mts ks cs) (n : Nat) (hn : cs.length = n + 1) (k : Nat) (hk : k < cs.length) :
    cs[k].p ≤ s.size ∧ (∃ b, (cs[k].k == 0) = b ∧ ((k : Int) == (n : Int)) = b) ∧ ((cs[k].k = 1 ∨ cs[k].k = 2 ∨ cs[k].k = 5) → ∃ q, q = cs[k].p + cs[k].text.size ∧ q ≤ s.size ∧ s.extract cs[k].p q = cs[k].text) := by
  obtain ⟨n', h1, _, h3, h4, h5, _⟩ := cut_tokens hc hm
  obtain rfl : n' = n := by omega
  have hs := ba_size s
  by_cases hkn : k < n'
  · obtain ⟨hf, _⟩ := h4 k hkn (by omega) hk
    obtain ⟨m1, m2, m3, m4⟩ := mts_get hm k (by omega) hk
    obtain ⟨hp, hf⟩ := hf
    have hk0 : ((k : Int) == (n' : Int)) = false := by rw [beq_eq_false_iff_ne]; omega
    rw [m1, m2]
    rcases hf with ⟨k3, _⟩ | ⟨k4, _⟩ | ⟨k5, _, hpl, hpe⟩
    · exact ⟨by omega, ⟨false, by rw [k3]; rfl, hk0⟩, fun h => by omega⟩
    · exact ⟨by omega, ⟨false, by rw [k4]; rfl, hk0⟩, fun h => by omega⟩
    · have hts : cs[k].text.size = ks[k].text.length := by rw [ba_size, m3]
      refine ⟨by omega, ⟨false, ?_, hk0⟩, fun _ => ⟨_, rfl, by omega, plain_here ?_ _ rfl⟩⟩
      · rw [beq_eq_false_iff_ne]
        rcases k5 with ⟨h, _⟩ | ⟨h, _⟩ <;> omega
      · rw [m3]; exact hpe
  · obtain rfl : k = n' := by omega
    obtain ⟨_, e1, e2⟩ := h5 hk
    rw [e1, e2]
    exact ⟨by omega, ⟨true, rfl, by simp⟩, fun h => by omega⟩

set_option maxHeartbeats 8000000 in
set_option maxRecDepth 100000 in
theorem law_back (s : ByteArray) (l : List TI) (vl : Value) (w : World) (hl : RdT l vl w) (hz : ∀ i (h : i < l.length), l[i].text.size ≤ 140737488351232) (hm : Mx w) (ht : Tab w) :
    Calls Tryd.prog 7 #[.string s, vl] w fun e w' => e = .returned (.bool true) ∧ Below w.heap.size w w' := by
  have RL := hidB hl
  have M := hidB hm
  have TT := hidB ht
  have TL : Hid (∀ W, Below w.heap.size w W → Calls Tryd.prog 9 #[vl] W fun e w' => e = .returned (.tuple #[.string ⟨(writeR l).1.toArray⟩, .int .i64 (writeR l).2]) ∧ Below W.heap.size W w') := hidB (fun W hb => lexText_any l vl W (hl.on hb) hz (mx_below hm hb) (tab_on ht hb))
  obtain ⟨pl, cl, hvl, hcl, hcl2, _⟩ := hl
  unfold maxLen at hcl2
  have hlm : l.length ≤ 9223372036854775807 := by omega
  clear hm ht hz hcl hcl2
  by_cases hbig : 3000 < s.size
  · subst hvl
    have hb1 : (3000 : Int) < (s.size : Int) := by omega
    go_enter Tryd.func7, Tryd.ntmps7
    go_wp2_with fail
    refine (alive_any _ M.out).mono ?_; rintro e w1 ⟨rfl, hb⟩
    have B1 := hidB hb
    clear hb
    go_wp2_with fail
    go_ret
    exact ⟨rfl, B1.out⟩
  have hb1 : ¬ (3000 : Int) < (s.size : Int) := by omega
  by_cases hlong : 1000 < l.length
  · subst hvl
    have hb2 : (1000 : Int) < (l.length : Int) := by omega
    go_enter Tryd.func7, Tryd.ntmps7
    go_wp2_with fail
    refine (alive_any _ M.out).mono ?_; rintro e w1 ⟨rfl, hb⟩
    have B1 := hidB hb
    clear hb
    go_wp2_with fail
    go_ret
    exact ⟨rfl, B1.out⟩
  have hb2 : ¬ (1000 : Int) < (l.length : Int) := by omega
  have TA := hidB (fun W h => tokens_any s (by omega) W h)
  unfold TokensQ at TA
  have hcut := lexR_cut s.data.toList
  have hsz := ba_size s
  subst hvl
  generalize lexR s.data.toList = R at *
  obtain ⟨ks, pe, er⟩ := R
  simp only at TA
  by_cases her : er = 0
  · subst her
    have hC0 : Cut s.data.toList (ks, 0, 0) := by
      rcases hcut with ⟨_, h⟩ | ⟨h, _⟩
      · exact Or.inl ⟨rfl, h⟩
      · exact absurd rfl h
    have C := hidB hC0
    clear hcut hC0 hbig hlong hsz
    go_enter Tryd.func7, Tryd.ntmps7
    go_wp2_with fail
    refine (alive_any _ M.out).mono ?_; rintro e w1 ⟨rfl, hb⟩
    have B1 := hidB hb
    clear hb
    go_wp2_with fail
    refine (TA.out _ (mx_below M.out B1.out)).mono ?_; rintro e w2 ⟨v1, c1, rfl, hr1, hm1, hb⟩
    have B2 := hidB (B1.out.trans (hb.mono B1.out.size))
    clear hb
    obtain ⟨n, hn, hn2, hkn, h4, h5, h6⟩ := cut_tokens C.out hm1
    have CW := hidB (cut_write C.out hm1)
    have CS := hidB (cut_small C.out hm1)
    have R1 := hidB hr1
    have TK := hidB (fun k hk => tok_at C.out hm1 n hn k hk)
    have H6 := hidB h6
    have HN := hidB hn
    obtain ⟨pa, xa, rfl, hpa⟩ := rowT_form hr1
    obtain ⟨g, rfl⟩ := hpa (by omega)
    rw [hn]
    clear hr1 hm1 h4 h5 h6 hn hkn hpa C TA
    go_wp2_with fail
    go_loopw [9] (fun i wr => ∃ k : Nat, k ≤ n + 1 ∧ i = .int .i64 k ∧ Below w.heap.size w wr ∧ RowT w1.heap.size c1 (.slice (some ⟨g, 0, none⟩) c1.length xa) wr) (fun i _ => n + 1 - (intOf i).toNat)
    case atStart => exact ⟨0, by omega, rfl, B2.out, R1.out⟩
    case round =>
      obtain ⟨k, hk, rfl, hb, hrw⟩ := hrel
      have Hb := hidB hb
      have RW := hidB hrw
      clear hb hrw
      by_cases hlt : k < n + 1
      · have hkc : k < c1.length := by have := HN.out; omega
        have hx2 : (k : Int) < (n : Int) + 1 := by omega
        have hx1 : (0 : Int) ≤ (k : Int) := by omega
        have LD := hidB (tok_range RW.out k hkc)
        obtain ⟨hps, ⟨bb, hbb1, hbb2⟩, hpl⟩ := TK.out k hkc
        have HPL := hidB hpl
        have hsi : ¬ (s.size : Int) < (c1[k].p : Int) := by omega
        have hpi : ¬ (c1[k].p : Int) < 0 := by omega
        have nsi : ¬ s.size < c1[k].p := by omega
        have dsi := decide_eq_false nsi
        have dpi := decide_eq_false hpi
        have RW2 := hidB (fun m => row_below (row_below RW.out (box_one wr (.cells #[.int .u8 c1[k].k, .int .i64 (c1[k].p : Int), .string c1[k].text, .float .f64 c1[k].num] 25))) (drewN_below _ m))
        have HB2 := hidB (fun m => Hb.out.trans (((box_one wr (.cells #[.int .u8 c1[k].k, .int .i64 (c1[k].p : Int), .string c1[k].text, .float .f64 c1[k].num] 25)).trans ((drewN_below _ m).mono (by simp))).mono Hb.out.size))
        have hbb4 : (k == n) = bb := by rw [← hbb2, Bool.eq_iff_iff, beq_iff_eq, beq_iff_eq]; omega
        clear hpl hps
        rcases Nat.eq_zero_or_pos k with hk0 | hk0
        · subst hk0
          simp only [Nat.zero_mul] at LD
          have hbb3 : ((0 : Int) == (n : Int)) = bb := hbb2
          generalize c1[0].k = tk at *
          generalize c1[0].p = tp at *
          generalize c1[0].text = tt at *
          generalize c1[0].num = tx at *
          by_cases h1 : tk = 1
          · subst h1
            obtain ⟨q, hq1, hq2, hq3⟩ := HPL.out (by omega)
            have hq4 : (tp : Int) + (tt.size : Int) = (q : Int) := by omega
            have hq5 : ¬ (s.size : Int) < (q : Int) := by omega
            have nq5 : ¬ s.size < q := by omega
            have dq5 := decide_eq_false nq5
            have hq6 : (tp : Int) ≤ (q : Int) := by omega
            have hq7 : (q : Int) ≤ (s.size : Int) := by omega
            clear hq1 hq2
            go_wp2_with (refine wpList_load_mid (by rfl) 25 (.tmp 63) (by rfl) g 0 (by rfl) [.int .u8 1, .int .i64 (tp : Int), .string tt, .float .f64 tx] _ LD.out Tryd.underlying25 (by rfl) (by kernel_rfl) ?_)
            go_quiet (fail)
            go_wp2_with fail
            go_quiet (fail)
            go_wp2_with fail
            go_roundw
            case rel => exact ⟨0 + 1, by omega, by go_num, HB2.out _, RW2.out _⟩
            case measure => first | (simp [intOf]; done) | (simp [intOf]; omega)
          by_cases h2 : tk = 2
          · subst h2
            obtain ⟨q, hq1, hq2, hq3⟩ := HPL.out (by omega)
            have hq4 : (tp : Int) + (tt.size : Int) = (q : Int) := by omega
            have hq5 : ¬ (s.size : Int) < (q : Int) := by omega
            have nq5 : ¬ s.size < q := by omega
            have dq5 := decide_eq_false nq5
            have hq6 : (tp : Int) ≤ (q : Int) := by omega
            have hq7 : (q : Int) ≤ (s.size : Int) := by omega
            clear hq1 hq2
            go_wp2_with (refine wpList_load_mid (by rfl) 25 (.tmp 63) (by rfl) g 0 (by rfl) [.int .u8 2, .int .i64 (tp : Int), .string tt, .float .f64 tx] _ LD.out Tryd.underlying25 (by rfl) (by kernel_rfl) ?_)
            go_quiet (fail)
            go_wp2_with fail
            go_quiet (fail)
            go_wp2_with fail
            go_roundw
            case rel => exact ⟨0 + 1, by omega, by go_num, HB2.out _, RW2.out _⟩
            case measure => first | (simp [intOf]; done) | (simp [intOf]; omega)
          by_cases h5 : tk = 5
          · subst h5
            obtain ⟨q, hq1, hq2, hq3⟩ := HPL.out (by omega)
            have hq4 : (tp : Int) + (tt.size : Int) = (q : Int) := by omega
            have hq5 : ¬ (s.size : Int) < (q : Int) := by omega
            have nq5 : ¬ s.size < q := by omega
            have dq5 := decide_eq_false nq5
            have hq6 : (tp : Int) ≤ (q : Int) := by omega
            have hq7 : (q : Int) ≤ (s.size : Int) := by omega
            clear hq1 hq2
            go_wp2_with (refine wpList_load_mid (by rfl) 25 (.tmp 63) (by rfl) g 0 (by rfl) [.int .u8 5, .int .i64 (tp : Int), .string tt, .float .f64 tx] _ LD.out Tryd.underlying25 (by rfl) (by kernel_rfl) ?_)
            go_quiet (fail)
            go_wp2_with fail
            go_quiet (fail)
            go_wp2_with fail
            go_roundw
            case rel => exact ⟨0 + 1, by omega, by go_num, HB2.out _, RW2.out _⟩
            case measure => first | (simp [intOf]; done) | (simp [intOf]; omega)
          · have c1 : (tk == 1) = false := by rw [beq_eq_false_iff_ne]; exact h1
            have c2 : (tk == 2) = false := by rw [beq_eq_false_iff_ne]; exact h2
            have c5 : (tk == 5) = false := by rw [beq_eq_false_iff_ne]; exact h5
            go_wp2_with (refine wpList_load_mid (by rfl) 25 (.tmp 63) (by rfl) g 0 (by rfl) [.int .u8 tk, .int .i64 (tp : Int), .string tt, .float .f64 tx] _ LD.out Tryd.underlying25 (by rfl) (by kernel_rfl) ?_)
            go_quiet (fail)
            go_wp2_with fail
            go_quiet (fail)
            go_wp2_with fail
            go_roundw
            case rel => exact ⟨0 + 1, by omega, by go_num, HB2.out _, RW2.out _⟩
            case measure => first | (simp [intOf]; done) | (simp [intOf]; omega)
        · obtain ⟨j, hj⟩ : ∃ j : Nat, j + 1 = k := ⟨k - 1, by omega⟩
          have hjc : j < c1.length := by omega
          have hlt2 := H6.out j (by omega) hjc
          have hj1 : (k : Int) - 1 = (j : Int) := by omega
          have hk1 : (0 : Int) < (k : Int) := by omega
          have dk1 : decide (0 < k) = true := decide_eq_true (by omega)
          have hj2 : (j : Int) < (n : Int) + 1 := by omega
          have hj3 : (0 : Int) ≤ (j : Int) := by omega
          have hlt3 : ¬ (c1[k].p : Int) ≤ (c1[j].p : Int) := by subst hj; omega
          have nlt3 : ¬ c1[k].p ≤ c1[j].p := by omega
          have dlt3 := decide_eq_false nlt3
          have lj : (wr.alloc (.cells #[.int .u8 c1[k].k, .int .i64 (c1[k].p : Int), .string c1[k].text, .float .f64 c1[k].num] 25)).cell? ⟨g, j * 4 + 1, none⟩ = some (.int .i64 (c1[j].p : Int)) := (tok_loads (row_below RW.out (box_one wr _)) j hjc).2.1
          clear hlt2
          generalize c1[k].k = tk at *
          generalize c1[k].p = tp at *
          generalize c1[k].text = tt at *
          generalize c1[k].num = tx at *
          generalize c1[j].p = jp at *
          by_cases h1 : tk = 1
          · subst h1
            obtain ⟨q, hq1, hq2, hq3⟩ := HPL.out (by omega)
            have hq4 : (tp : Int) + (tt.size : Int) = (q : Int) := by omega
            have hq5 : ¬ (s.size : Int) < (q : Int) := by omega
            have nq5 : ¬ s.size < q := by omega
            have dq5 := decide_eq_false nq5
            have hq6 : (tp : Int) ≤ (q : Int) := by omega
            have hq7 : (q : Int) ≤ (s.size : Int) := by omega
            clear hq1 hq2
            go_wp2_with (refine wpList_load_mid (by rfl) 25 (.tmp 63) (by rfl) g (k * 4) (by rfl) [.int .u8 1, .int .i64 (tp : Int), .string tt, .float .f64 tx] _ LD.out Tryd.underlying25 (by rfl) (by kernel_rfl) ?_)
            go_quiet (fail)
            go_wp2_with fail
            go_quiet (fail)
            go_wp2_with fail
            go_roundw
            case rel => exact ⟨k + 1, by omega, by go_num, HB2.out _, RW2.out _⟩
            case measure => first | (simp [intOf]; done) | (simp [intOf]; omega)
          by_cases h2 : tk = 2
          · subst h2
            obtain ⟨q, hq1, hq2, hq3⟩ := HPL.out (by omega)
            have hq4 : (tp : Int) + (tt.size : Int) = (q : Int) := by omega
            have hq5 : ¬ (s.size : Int) < (q : Int) := by omega
            have nq5 : ¬ s.size < q := by omega
            have dq5 := decide_eq_false nq5
            have hq6 : (tp : Int) ≤ (q : Int) := by omega
            have hq7 : (q : Int) ≤ (s.size : Int) := by omega
            clear hq1 hq2
            go_wp2_with (refine wpList_load_mid (by rfl) 25 (.tmp 63) (by rfl) g (k * 4) (by rfl) [.int .u8 2, .int .i64 (tp : Int), .string tt, .float .f64 tx] _ LD.out Tryd.underlying25 (by rfl) (by kernel_rfl) ?_)
            go_quiet (fail)
            go_wp2_with fail
            go_quiet (fail)
            go_wp2_with fail
            go_roundw
            case rel => exact ⟨k + 1, by omega, by go_num, HB2.out _, RW2.out _⟩
            case measure => first | (simp [intOf]; done) | (simp [intOf]; omega)
          by_cases h5 : tk = 5
          · subst h5
            obtain ⟨q, hq1, hq2, hq3⟩ := HPL.out (by omega)
            have hq4 : (tp : Int) + (tt.size : Int) = (q : Int) := by omega
            have hq5 : ¬ (s.size : Int) < (q : Int) := by omega
            have nq5 : ¬ s.size < q := by omega
            have dq5 := decide_eq_false nq5
            have hq6 : (tp : Int) ≤ (q : Int) := by omega
            have hq7 : (q : Int) ≤ (s.size : Int) := by omega
            clear hq1 hq2
            go_wp2_with (refine wpList_load_mid (by rfl) 25 (.tmp 63) (by rfl) g (k * 4) (by rfl) [.int .u8 5, .int .i64 (tp : Int), .string tt, .float .f64 tx] _ LD.out Tryd.underlying25 (by rfl) (by kernel_rfl) ?_)
            go_quiet (fail)
            go_wp2_with fail
            go_quiet (fail)
            go_wp2_with fail
            go_roundw
            case rel => exact ⟨k + 1, by omega, by go_num, HB2.out _, RW2.out _⟩
            case measure => first | (simp [intOf]; done) | (simp [intOf]; omega)
          · have c1 : (tk == 1) = false := by rw [beq_eq_false_iff_ne]; exact h1
            have c2 : (tk == 2) = false := by rw [beq_eq_false_iff_ne]; exact h2
            have c5 : (tk == 5) = false := by rw [beq_eq_false_iff_ne]; exact h5
            go_wp2_with (refine wpList_load_mid (by rfl) 25 (.tmp 63) (by rfl) g (k * 4) (by rfl) [.int .u8 tk, .int .i64 (tp : Int), .string tt, .float .f64 tx] _ LD.out Tryd.underlying25 (by rfl) (by kernel_rfl) ?_)
            go_quiet (fail)
            go_wp2_with fail
            go_quiet (fail)
            go_wp2_with fail
            go_roundw
            case rel => exact ⟨k + 1, by omega, by go_num, HB2.out _, RW2.out _⟩
            case measure => first | (simp [intOf]; done) | (simp [intOf]; omega)
      · obtain rfl : k = n + 1 := by omega
        have hx3 : ¬ ((n : Int) + 1 < (n : Int) + 1) := by omega
        have RM := hidB (rdT_own RW.out)
        have RX := RW
        have hcl : c1.length = n + 1 := HN.out
        rw [hcl] at RM
        clear hcl hlt hk
        have TM := hidB (lexText_any (c1.map TC.ti) _ wr RM.out CS.out (mx_below M.out Hb.out) (tab_on TT.out Hb.out))
        unfold TextQ at TM
        rcases CW.out with hc | hc
        · have TB2 := hidB (fun W h => tokens_back hc W h)
          rw [hc] at TM
          generalize (writeR (c1.map TC.ti)).1 = um at *
          clear hc
          go_wp2_with fail
          refine (TM.out).mono ?_; rintro e w3 ⟨rfl, hb⟩
          have B3 := hidB (Hb.out.trans (hb.mono Hb.out.size))
          have RM3 := hidB (RM.out.on hb)
          clear hb
          go_wp2_with fail
          refine (TB2.out _ (mx_below M.out B3.out)).mono ?_; rintro e w4 ⟨v4, c4, rfl, hr4, hs4, hb⟩
          have B4 := hidB (B3.out.trans (hb.mono B3.out.size))
          have SB2 := hidB (same_back hr4 (RM3.out.on hb) hs4)
          clear hb hr4 hs4 TM TB2
          go_wp2_with fail
          refine (SB2.out).mono ?_; rintro e w5 ⟨rfl, hb⟩
          have B5 := hidB (B4.out.trans (hb.mono B4.out.size))
          clear hb SB2
          by_cases hf : (writeR l).2 = 0
          · have TB := hidB (fun W h => tokens_back hf W h)
            have TL0 := hidB (fun W hb => TL.out W hb)
            rw [hf] at TL0
            generalize (writeR l).1 = us at *
            clear hf
            go_wp2_with fail
            refine (TL0.out _ B5.out).mono ?_; rintro e y1 ⟨rfl, hb⟩
            have Y1 := hidB (B5.out.trans (hb.mono B5.out.size))
            clear hb
            go_wp2_with fail
            refine (TB.out _ (mx_below M.out Y1.out)).mono ?_; rintro e y2 ⟨v2, c2, rfl, hr2, hs2, hb⟩
            have Y2 := hidB (Y1.out.trans (hb.mono Y1.out.size))
            have SB := hidB (same_back hr2 (RL.out.on Y2.out) hs2)
            clear hb hr2 hs2
            go_wp2_with fail
            refine (SB.out).mono ?_; rintro e y3 ⟨rfl, hb⟩
            have Y3 := hidB (Y2.out.trans (hb.mono Y2.out.size))
            clear hb
            go_wp2_with fail
            go_ret
            exact ⟨rfl, Y3.out⟩
          · have hfb : ((writeR l).2 != 0) = true := by rw [bne_iff_ne]; exact hf
            have TL0 := hidB (fun W hb => TL.out W hb)
            rw [writeR_bad hf] at TL0
            generalize (writeR l).2 = fs at *
            clear hf
            go_wp2_with fail
            refine (TL0.out _ B5.out).mono ?_; rintro e y1 ⟨rfl, hb⟩
            have Y1 := hidB (B5.out.trans (hb.mono B5.out.size))
            clear hb
            go_wp2_with fail
            go_ret
            exact ⟨rfl, Y1.out⟩
        · have hbad := writeR_bad (l := c1.map TC.ti) (by rw [hc]; decide)
          rw [hc, hbad] at TM
          clear hc hbad
          go_wp2_with fail
          refine (TM.out).mono ?_; rintro e w3 ⟨rfl, hb⟩
          have B3 := hidB (Hb.out.trans (hb.mono Hb.out.size))
          clear hb
          go_wp2_with fail
          refine (tokens_any ⟨#[]⟩ (by decide) _ (mx_below M.out B3.out)).mono ?_; rintro e w4 ⟨v4, c4, he4, hr4, hm4, hb⟩
          rw [show lexR (⟨#[]⟩ : ByteArray).data.toList = ([⟨0, 0, [], 0⟩], 0, 0) from rfl] at he4
          subst he4
          have B4 := hidB (B3.out.trans (hb.mono B3.out.size))
          clear hb hr4 hm4 TM
          by_cases hf : (writeR l).2 = 0
          · have TB := hidB (fun W h => tokens_back hf W h)
            have TL0 := hidB (fun W hb => TL.out W hb)
            rw [hf] at TL0
            generalize (writeR l).1 = us at *
            clear hf
            go_wp2_with fail
            refine (TL0.out _ B4.out).mono ?_; rintro e y1 ⟨rfl, hb⟩
            have Y1 := hidB (B4.out.trans (hb.mono B4.out.size))
            clear hb
            go_wp2_with fail
            refine (TB.out _ (mx_below M.out Y1.out)).mono ?_; rintro e y2 ⟨v2, c2, rfl, hr2, hs2, hb⟩
            have Y2 := hidB (Y1.out.trans (hb.mono Y1.out.size))
            have SB := hidB (same_back hr2 (RL.out.on Y2.out) hs2)
            clear hb hr2 hs2
            go_wp2_with fail
            refine (SB.out).mono ?_; rintro e y3 ⟨rfl, hb⟩
            have Y3 := hidB (Y2.out.trans (hb.mono Y2.out.size))
            clear hb
            go_wp2_with fail
            go_ret
            exact ⟨rfl, Y3.out⟩
          · have hfb : ((writeR l).2 != 0) = true := by rw [bne_iff_ne]; exact hf
            have TL0 := hidB (fun W hb => TL.out W hb)
            rw [writeR_bad hf] at TL0
            generalize (writeR l).2 = fs at *
            clear hf
            go_wp2_with fail
            refine (TL0.out _ B4.out).mono ?_; rintro e y1 ⟨rfl, hb⟩
            have Y1 := hidB (B4.out.trans (hb.mono B4.out.size))
            clear hb
            go_wp2_with fail
            go_ret
            exact ⟨rfl, Y1.out⟩
  · have hcp : ks = [] ∧ pe ≤ s.data.toList.length := by
      rcases hcut with ⟨h, _⟩ | ⟨_, h⟩
      · exact absurd h her
      · exact h
    obtain ⟨rfl, hpe⟩ := hcp
    rw [← hsz] at hpe
    have hpe1 : ¬ (s.size : Int) < (pe : Int) := by omega
    have hpe2 : ¬ (pe : Int) < 0 := by omega
    have herb : (er != 0) = true := by rw [bne_iff_ne]; exact her
    clear her hcut hpe hsz hbig hlong
    go_enter Tryd.func7, Tryd.ntmps7
    go_wp2_with fail
    refine (alive_any _ M.out).mono ?_; rintro e w1 ⟨rfl, hb⟩
    have B1 := hidB hb
    clear hb
    go_wp2_with fail
    refine (TA.out _ (mx_below M.out B1.out)).mono ?_; rintro e w2 ⟨v1, c1, rfl, hr1, hm1, hb⟩
    have B2 := hidB (B1.out.trans (hb.mono B1.out.size))
    clear hb TA
    obtain ⟨pa, xa, rfl, hpa⟩ := rowT_form hr1
    have hlen := mts_length hm1
    simp only [List.length_nil] at hlen
    rw [← hlen]
    clear hr1 hm1 hpa hlen
    by_cases hf : (writeR l).2 = 0
    · have TB := hidB (fun W h => tokens_back hf W h)
      have TL0 := hidB (fun W hb => TL.out W hb)
      rw [hf] at TL0
      generalize (writeR l).1 = us at *
      clear hf
      go_wp2_with fail
      refine (TL0.out _ B2.out).mono ?_; rintro e y1 ⟨rfl, hb⟩
      have Y1 := hidB (B2.out.trans (hb.mono B2.out.size))
      clear hb
      go_wp2_with fail
      refine (TB.out _ (mx_below M.out Y1.out)).mono ?_; rintro e y2 ⟨v2, c2, rfl, hr2, hs2, hb⟩
      have Y2 := hidB (Y1.out.trans (hb.mono Y1.out.size))
      have SB := hidB (same_back hr2 (RL.out.on Y2.out) hs2)
      clear hb hr2 hs2
      go_wp2_with fail
      refine (SB.out).mono ?_; rintro e y3 ⟨rfl, hb⟩
      have Y3 := hidB (Y2.out.trans (hb.mono Y2.out.size))
      clear hb
      go_wp2_with fail
      go_ret
      exact ⟨rfl, Y3.out⟩
    · have hfb : ((writeR l).2 != 0) = true := by rw [bne_iff_ne]; exact hf
      have TL0 := hidB (fun W hb => TL.out W hb)
      rw [writeR_bad hf] at TL0
      generalize (writeR l).2 = fs at *
      clear hf
      go_wp2_with fail
      refine (TL0.out _ B2.out).mono ?_; rintro e y1 ⟨rfl, hb⟩
      have Y1 := hidB (B2.out.trans (hb.mono B2.out.size))
      clear hb
      go_wp2_with fail
      go_ret
      exact ⟨rfl, Y1.out⟩

end Go.Proofs.YtkomjmgmancinaaDoor
