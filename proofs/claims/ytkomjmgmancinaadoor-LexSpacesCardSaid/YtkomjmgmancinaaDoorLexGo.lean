/-
  lex.Text writes tokens as is told: the walk of its two loops.
-/
import Derived.Test.YtkomjmgmancinaaDoorLxT
namespace Go.Proofs.YtkomjmgmancinaaDoor
open Go.RowKit

theorem write_step {us : List TI} {k : Nat} (hk : k < us.length) (b : Bool) (acc : List UInt8) : writeGo (us.drop k) b acc = if 65536 < (acc ++ (if b then [] else [32]) ++ pieceR us[k]).length then none else writeGo (us.drop (k + 1)) false (acc ++ (if b then [] else [32]) ++ pieceR us[k]) := by
  rw [List.drop_eq_getElem_cons hk, writeGo]
theorem writeR_go {ts : List TI} {m : Nat} (hm : ts.length = m + 1) (h1 : ts.length ≤ 16385) (he : endB (ts[m]'(by omega)) = true) (ha : (ts.take m).all mayB = true) : writeR ts = match writeGo (ts.take m) true [] with
    | none => ([], 3)
    | some s => (s, 0) := by
  unfold writeR
  have hg : ts.getLast? = some (ts[m]'(by omega)) := by rw [List.getLast?_eq_getElem?, show ts.length - 1 = m by omega, List.getElem?_eq_getElem]
  have hd : ts.dropLast = ts.take m := by rw [List.dropLast_eq_take, show ts.length - 1 = m by omega]
  rw [if_neg (by omega), if_neg (by rw [hg]; simp [he]), hd, if_neg (by rw [ha]; decide)]
  cases writeGo (ts.take m) true [] <;> rfl
theorem writeR_not {ts : List TI} {m k : Nat} (hm : ts.length = m + 1) (h1 : ts.length ≤ 16385) (he : endB (ts[m]'(by omega)) = true) (hk : k < m) (ha : mayB (ts[k]'(by omega)) = false) : writeR ts = ([], 5) := by
  unfold writeR
  have hg : ts.getLast? = some (ts[m]'(by omega)) := by rw [List.getLast?_eq_getElem?, show ts.length - 1 = m by omega, List.getElem?_eq_getElem]
  have hd : ts.dropLast = ts.take m := by rw [List.dropLast_eq_take, show ts.length - 1 = m by omega]
  rw [if_neg (by omega), if_neg (by rw [hg]; simp [he]), hd, if_pos]
  rw [Bool.eq_false_iff]
  intro h
  have := List.all_eq_true.1 h (ts[k]'(by omega)) (by rw [List.mem_take_iff_getElem]; exact ⟨k, by omega, rfl⟩)
  rw [ha] at this; cases this
theorem textR_small (x : Nat) : (textR x).length ≤ 100 := by
  unfold textR
  split
  · simp
  · split
    · rename_i hw
      obtain ⟨_, h2, h3⟩ := (Fl.isW_iff x).1 hw
      unfold Fl.safe at h2 h3
      have := Lib.itoa_length_le (Fl.toW x) (by omega) (by omega)
      omega
    · simp
theorem piece_small {t : TI} (h : mayB t = true) : (pieceR t).length ≤ 20000 ∧ (t.k = 4 → t.text.size ≤ 4096) ∧ (t.k ≠ 3 → t.text.size ≤ 4096) := by
  unfold mayB at h
  unfold pieceR
  have hx := textR_small t.num
  by_cases h3 : t.k = 3
  · rw [if_pos h3]; exact ⟨by omega, fun h => by omega, fun h => absurd h3 h⟩
  · rw [if_neg h3] at h ⊢
    by_cases h4 : t.k = 4
    · rw [if_pos h4] at h ⊢
      simp only [Bool.and_eq_true, decide_eq_true_eq] at h
      have hq := quoted_length t.text.data.toList
      have hs := ba_size t.text
      rw [List.length_append, List.length_singleton]
      exact ⟨by omega, fun _ => h.2, fun _ => h.2⟩
    · rw [if_neg h4] at h ⊢
      have hs := ba_size t.text
      have key : t.text.size ≤ 4096 := by
        by_cases h5 : t.k = 5
        · rw [if_pos h5] at h
          simp only [Bool.and_eq_true] at h
          have := sign_short h.2
          omega
        · rw [if_neg h5] at h
          split at h
          · simp only [Bool.and_eq_true, decide_eq_true_eq] at h
            exact h.2.2.1
          · cases h
      exact ⟨by omega, fun h => absurd h h4, fun _ => key⟩
theorem take_all {us : List TI} {k m : Nat} (h : (us.take m).all mayB = true) (hk : k < m) (hl : m ≤ us.length) : mayB (us[k]'(by omega)) = true :=
  List.all_eq_true.1 h _ (by rw [List.mem_take_iff_getElem]; exact ⟨k, by omega, rfl⟩)
theorem take_more {us : List TI} {k : Nat} (h : (us.take k).all mayB = true) (hk : k < us.length) (hm : mayB us[k] = true) : (us.take (k + 1)).all mayB = true := by
  rw [List.take_succ_eq_append_getElem hk, List.all_append, h, List.all_cons, hm]; rfl

/-- Where the writing stands. -/
def WriteAt (us : List TI) (k : Nat) (acc : List UInt8) : Prop := writeGo us true [] = writeGo (us.drop k) (decide (k = 0)) acc ∧ acc.length ≤ 65536
theorem writeAt_0 (us : List TI) : WriteAt us 0 [] := ⟨rfl, by simp⟩
theorem writeAt_next {us : List TI} {k : Nat} {acc : List UInt8} (h : WriteAt us k acc) (hk : k < us.length) (a2 : List UInt8) (h2 : a2 = acc ++ (if decide (k = 0) then [] else [32]) ++ pieceR us[k]) (hl : a2.length ≤ 65536) : WriteAt us (k + 1) a2 := by
  refine ⟨?_, hl⟩
  rw [h.1, write_step hk, ← h2, if_neg (by omega)]; rfl
theorem writeAt_big {us : List TI} {k : Nat} {acc : List UInt8} (h : WriteAt us k acc) (hk : k < us.length) (a2 : List UInt8) (h2 : a2 = acc ++ (if decide (k = 0) then [] else [32]) ++ pieceR us[k]) (hl : 65536 < a2.length) : writeGo us true [] = none := by
  rw [h.1, write_step hk, ← h2, if_pos hl]
theorem writeAt_end {us : List TI} {acc : List UInt8} (h : WriteAt us us.length acc) : writeGo us true [] = some acc := by
  rw [h.1, List.drop_length]; rfl

theorem bld_lt {B b : Nat} {l : List UInt8} {w : World} (h : Bld B b l w) : b < w.heap.size := by
  rcases h with h | h
  · exact h.lt
  · exact h.lt

set_option maxHeartbeats 4000000 in
set_option maxRecDepth 100000 in
theorem lexText_go (ts : List TI) (m : Nat) (hm : ts.length = m + 1) (h1 : ts.length ≤ 16385) (g o c : Nat) (hc : m + 1 ≤ c) (hc2 : c ≤ maxLen) (w : World) (hg : g < w.heap.size) (hr : ∀ i (h : i < ts.length), w.rangeAt g (o + i * 4) ts[i].cells) (hz : ∀ i (h : i < ts.length), ts[i].text.size ≤ 140737488351232) (hmx : Mx w) (ht : Tab w) (h : endB (ts[m]'(by omega)) = true) :
    Calls Tryd.prog 9 #[.slice (some ⟨g, o, none⟩) (m + 1) c] w (TextQ ts w) := by
  have HN : Hid (∀ (k : Nat) (hk : k < m) (hkl : k < ts.length), mayB ts[k] = false → writeR ts = ([], 5)) := hidB (fun k hk hkl ha => writeR_not hm h1 h hk ha)
  have HG := hidB (fun (ha : (ts.take m).all mayB = true) => writeR_go hm h1 h ha)
  have HZ := hidB hz
  have HR := hidB hr
  have M := hidB hmx
  have TB := hidB ht
  have Hg := hidB hg
  obtain ⟨r0, r1, r2, r3⟩ := RdT.four (hr m (by omega))
  unfold endB at h
  simp only [Bool.and_eq_true, decide_eq_true_eq] at h
  obtain ⟨hk0, hs0, hx0⟩ := h
  have hm4 : m ≤ 16384 := by omega
  have hcc : (m : Int) ≤ (c : Int) := by omega
  unfold maxLen at hc2
  rw [hk0] at r0
  rw [← isE] at hs0
  have hx1 : (FloatKind.f64.format.order (ts[m]'(by omega)).num 0 != some .eq) = false := by
    unfold eq0 at hx0; simp [bne, hx0]
  clear hr hz hmx ht hx0 hk0 h1
  have HM := hidB hm
  generalize hs1 : (ts[m]'(by omega)).text = s1 at *
  generalize hx2 : (ts[m]'(by omega)).num = x1 at *
  clear hs1 hx2 r1 hm
  go_enter Tryd.func9, Tryd.ntmps9
  go_wp2_with fail
  clear r0 r2 r3 hs0 hx1
  go_loopw [45] (fun i wr => ∃ k : Nat, k ≤ m ∧ i = .int .i64 k ∧ (ts.take k).all mayB = true ∧ Below w.heap.size w wr) (fun i _ => m - (intOf i).toNat)
  case atStart => exact ⟨0, by omega, rfl, rfl, Below.refl _ _⟩
  case round =>
    obtain ⟨k, hk, rfl, hall, hb⟩ := hrel
    have HA := hidB hall
    have Hb := hidB hb
    clear hall hb
    by_cases hlt : k < m
    · have hkl : k < ts.length := by have := HM.out; omega
      have LD := hidB (range_on Hb.out Hg.out (HR.out k hkl))
      have MT := hidB (fun W (h : Mx W) => mayT_any ts[k] (HZ.out k hkl) W h)
      have MX := hidB (mx_below M.out Hb.out)
      have HQ := hidB (HN.out k hlt hkl)
      have HA2 := hidB (take_more HA.out hkl)
      clear HN HG HA HZ HR
      generalize ts[k]'hkl = t at *
      obtain ⟨tk, tp, tt, tx⟩ := t
      cases hmb : mayB ⟨tk, tp, tt, tx⟩
      · rw [hmb] at MT
        have HQ2 := hidB (HQ.out hmb)
        clear hmb
        go_wp2_with (first | (refine wpList_load_mid (by rfl) 25 (.tmp 47) (by rfl) g (o + k * 4) (by rfl) [.int .u8 tk, .int .i64 tp, .string tt, .float .f64 tx] _ LD.out Tryd.underlying25 (by rfl) (by kernel_rfl) ?_) | (go_at_call 23; refine (MT.out _ MX.out.alloc).mono ?_; rintro e w2 ⟨rfl, hb⟩; have B1 := hidB hb; clear hb))
        go_ret2
        exact textQ_of HQ2.out rfl (Hb.out.trans (((box_one _ _).trans (B1.out.mono (by simp))).mono Hb.out.size))
      · rw [hmb] at MT
        have HA3 := hidB (HA2.out hmb)
        clear hmb
        go_wp2_with (first | (refine wpList_load_mid (by rfl) 25 (.tmp 47) (by rfl) g (o + k * 4) (by rfl) [.int .u8 tk, .int .i64 tp, .string tt, .float .f64 tx] _ LD.out Tryd.underlying25 (by rfl) (by kernel_rfl) ?_) | (go_at_call 23; refine (MT.out _ MX.out.alloc).mono ?_; rintro e w2 ⟨rfl, hb⟩; have B1 := hidB hb; clear hb))
        have Hb2 := hidB (Hb.out.trans (((box_one _ _).trans (B1.out.mono (by simp))).mono Hb.out.size))
        go_roundw
        case rel => exact ⟨k + 1, by omega, by go_num, HA3.out, Hb2.out⟩
        case measure => simp [intOf]; omega
    · obtain rfl : m = k := by omega
      clear hlt
      obtain ⟨wb, rfl⟩ : ∃ x, x = wr := ⟨_, rfl⟩
      have HGO := hidB (HG.out HA.out)
      have hB0 := fresh_Bld wb
      have HB0 := hidB hB0
      clear hB0
      go_wp2_with fail
      go_loopw [57] (fun i wr => ∃ k : Nat, k ≤ m ∧ i = .int .i64 k ∧ ∃ acc, WriteAt (ts.take m) k acc ∧ Bld wb.heap.size wb.heap.size acc wr ∧ Below wb.heap.size wb wr) (fun i _ => m - (intOf i).toNat)
      case atStart => exact ⟨0, by omega, rfl, [], writeAt_0 _, HB0.out, box_one _ _⟩
      case round =>
        obtain ⟨k, hk, rfl, acc, hat, hbl, hb2⟩ := hrel
        have hm2 := HM.out
        have HW := hidB hat
        have HBq := hidB hbl
        have Hq := hidB hb2
        clear hat hbl hb2
        have hML := hidB HM.out
        by_cases hlt : k < m
        · have hkl : k < ts.length := by have := HM.out; omega
          have hul : k < (ts.take m).length := by rw [List.length_take]; omega
          have hget : (ts.take m)[k]'hul = ts[k] := List.getElem_take
          have Hw1 := hidB (Hb.out.trans (Hq.out.mono Hb.out.size))
          have LD := hidB (range_on Hw1.out Hg.out (HR.out k hkl))
          have hmay := take_all HA.out hlt (by omega)
          have hps := piece_small hmay
          have TB1 := hidB (tab_on TB.out Hw1.out)
          have hsz := Hq.out.size
          have NX := hidB (fun a2 h2 => writeAt_next HW.out hul a2 (by rw [hget]; exact h2))
          have BG := hidB (fun a2 h2 => writeAt_big HW.out hul a2 (by rw [hget]; exact h2))
          have hal := HW.out.2
          have BX := hidB (Bk.new wr 25 ts[k].cells.toArray)
          have HB1 := hidB (bld_on HBq.out (box_one wr (.cells ts[k].cells.toArray 25)))
          have hblt := bld_lt HBq.out
          clear BX HB1
          generalize ts[k]'hkl = t at *
          obtain ⟨tk, tp, tt, tx⟩ := t
          simp only at hps
          obtain ⟨hps0, hps4, hps3⟩ := hps
          have hsz2 := ba_size tt
          have BX := hidB (Bk.new wr 25 #[.int .u8 tk, .int .i64 tp, .string tt, .float .f64 tx])
          have H1 := hidB (bld_on HBq.out (box_one wr (.cells #[.int .u8 tk, .int .i64 tp, .string tt, .float .f64 tx] 25)))
          have D1 := hidB (Hq.out.trans ((box_one wr (.cells #[.int .u8 tk, .int .i64 tp, .string tt, .float .f64 tx] 25)).mono Hq.out.size))
          clear hmay TB1 hget hul HN HG HA HZ HR
          by_cases h3 : tk = 3
          · subst h3
            have hpc : pieceR ⟨3, tp, tt, tx⟩ = textR tx := by unfold pieceR; rw [if_pos rfl]
            rw [hpc] at hps0
            obtain ⟨qs, hqs⟩ : ∃ qs : ByteArray, qs = ⟨(textR tx).toArray⟩ := ⟨_, rfl⟩
            have QA : Hid (∀ W, Tab W → Calls Tryd.prog 26 #[.float .f64 tx] W fun e w' => e = .returned (.string qs) ∧ Below W.heap.size W w') := hidB (by rw [hqs]; exact fun W h => text_any tx W h)
            have QD : Hid (qs.data.toList = textR tx) := hidB (by rw [hqs])
            have hqz : qs.size ≤ 20000 := by rw [ba_size, QD.out]; exact hps0
            clear hqs
            clear hps3 hps4
            rcases Nat.eq_zero_or_pos k with rfl | hpos
            · skip
              obtain ⟨a2, ha2⟩ : ∃ a2, a2 = acc ++ (textR tx) := ⟨_, rfl⟩
              have hl2 : a2.length ≤ 65537 + 20000 := by rw [ha2]; simp only [List.length_append, List.length_singleton] at hps0 ⊢; omega
              have NX2 := hidB (NX.out a2 (by rw [ha2, hpc]; simp))
              have BG2 := hidB (BG.out a2 (by rw [ha2, hpc]; simp))
              clear NX BG
              have D2 := D1
              have H2 := H1
              obtain ⟨x0, x1, x2, x3, xf⟩ := Bk.four BX.out
              obtain ⟨y0, y1, y2, y3⟩ := RdT.four (by simpa using LD.out)
              go_wp2_with fail
              refine (QA.out _ (tab_on TB.out (Hb.out.trans (D2.out.mono Hb.out.size)))).mono ?_; rintro e w3 ⟨rfl, hb⟩
              have H3 := hidB (bld_on H2.out hb)
              have D3 := hidB (D2.out.trans (hb.mono D2.out.size))
              clear hb
              go_wp2_with fail
              refine (writeString_any wb.heap.size wb.heap.size acc qs _ H3.out (by first | omega | (simp only [List.length_append, List.length_singleton]; omega)) D3.out.size).mono ?_; rintro e w4 ⟨rfl, hbl, hb⟩
              have H4 : Hid (Bld wb.heap.size wb.heap.size a2 w4) := hidB (by rw [ha2, ← QD.out]; exact hbl)
              have D4 := hidB (D3.out.trans hb)
              clear hbl hb
              go_wp2_with fail
              refine (blen_any wb.heap.size wb.heap.size a2 _ H4.out).mono ?_; rintro e w5 ⟨rfl, rfl⟩
              clear ha2
              by_cases hbig : 65536 < a2.length
              · have hbi : (65536 : Int) < (a2.length : Int) := by omega
                have e := HGO.out
                rw [BG2.out hbig] at e
                have He := hidB e
                clear e
                go_wp2_with fail
                go_ret2
                exact textQ_of He.out rfl (Hb.out.trans (D4.out.mono Hb.out.size))
              · have hbi : ¬ (65536 : Int) < (a2.length : Int) := by omega
                go_wp2_with fail
                go_roundw
                case rel => exact ⟨0 + 1, by omega, by go_num, a2, NX2.out (by omega), H4.out, D4.out⟩
                case measure => simp [intOf]; omega
            · have hpi : (0 : Int) < (k : Int) := by omega
              obtain ⟨a2, ha2⟩ : ∃ a2, a2 = (acc ++ [32]) ++ (textR tx) := ⟨_, rfl⟩
              have hl2 : a2.length ≤ 65537 + 20000 := by rw [ha2]; simp only [List.length_append, List.length_singleton] at hps0 ⊢; omega
              have NX2 := hidB (NX.out a2 (by rw [ha2, hpc]; simp [Nat.ne_of_gt hpos]))
              have BG2 := hidB (BG.out a2 (by rw [ha2, hpc]; simp [Nat.ne_of_gt hpos]))
              clear NX BG
              go_wp2_with (first | (refine wpList_load_mid (by rfl) 25 (.tmp 60) (by rfl) g (o + k * 4) (by rfl) [.int .u8 3, .int .i64 tp, .string tt, .float .f64 tx] _ LD.out Tryd.underlying25 (by rfl) (by kernel_rfl) ?_))
              refine (writeByte_box wb.heap.size wb.heap.size acc 32 32 rfl _ H1.out (by omega) (by simp; omega) _ _ BX.out (by omega)).mono ?_; rintro e w2 ⟨rfl, ⟨hbl, hb⟩, hx⟩
              have H2 := hidB hbl
              have B2 := hidB (D1.out.trans hb)
              obtain ⟨x0, x1, x2, x3, xf⟩ := Bk.four hx
              have z2 := hb.size
              clear hbl hb hx
              have D2 := B2
              go_wp2_with fail
              refine (QA.out _ (tab_on TB.out (Hb.out.trans (D2.out.mono Hb.out.size)))).mono ?_; rintro e w3 ⟨rfl, hb⟩
              have H3 := hidB (bld_on H2.out hb)
              have D3 := hidB (D2.out.trans (hb.mono D2.out.size))
              clear hb
              go_wp2_with fail
              refine (writeString_any wb.heap.size wb.heap.size (acc ++ [32]) qs _ H3.out (by first | omega | (simp only [List.length_append, List.length_singleton]; omega)) D3.out.size).mono ?_; rintro e w4 ⟨rfl, hbl, hb⟩
              have H4 : Hid (Bld wb.heap.size wb.heap.size a2 w4) := hidB (by rw [ha2, ← QD.out]; exact hbl)
              have D4 := hidB (D3.out.trans hb)
              clear hbl hb
              go_wp2_with fail
              refine (blen_any wb.heap.size wb.heap.size a2 _ H4.out).mono ?_; rintro e w5 ⟨rfl, rfl⟩
              clear ha2
              by_cases hbig : 65536 < a2.length
              · have hbi : (65536 : Int) < (a2.length : Int) := by omega
                have e := HGO.out
                rw [BG2.out hbig] at e
                have He := hidB e
                clear e
                go_wp2_with fail
                go_ret2
                exact textQ_of He.out rfl (Hb.out.trans (D4.out.mono Hb.out.size))
              · have hbi : ¬ (65536 : Int) < (a2.length : Int) := by omega
                go_wp2_with fail
                go_roundw
                case rel => exact ⟨k + 1, by omega, by go_num, a2, NX2.out (by omega), H4.out, D4.out⟩
                case measure => simp [intOf]; omega
          by_cases h4 : tk = 4
          · subst h4
            have hpc : pieceR ⟨4, tp, tt, tx⟩ = quoted tt.data.toList ++ [34] := by unfold pieceR; rw [if_neg (by simp), if_pos rfl]
            rw [hpc] at hps0
            have hps5 := hps4 rfl
            obtain ⟨qs, hqs⟩ : ∃ qs : ByteArray, qs = ⟨(quoted tt.data.toList ++ [34]).toArray⟩ := ⟨_, rfl⟩
            have QA : Hid (∀ W, Calls Tryd.prog 27 #[.string tt] W fun e w' => e = .returned (.string qs) ∧ Below W.heap.size W w') := hidB (by rw [hqs]; exact fun W => quote_any tt W (by omega))
            have QD : Hid (qs.data.toList = quoted tt.data.toList ++ [34]) := hidB (by rw [hqs])
            have hqz : qs.size ≤ 20000 := by rw [ba_size, QD.out]; exact hps0
            clear hqs
            clear hps3 hps4
            rcases Nat.eq_zero_or_pos k with rfl | hpos
            · skip
              obtain ⟨a2, ha2⟩ : ∃ a2, a2 = acc ++ (quoted tt.data.toList ++ [34]) := ⟨_, rfl⟩
              have hl2 : a2.length ≤ 65537 + 20000 := by rw [ha2]; simp only [List.length_append, List.length_singleton] at hps0 ⊢; omega
              have NX2 := hidB (NX.out a2 (by rw [ha2, hpc]; simp))
              have BG2 := hidB (BG.out a2 (by rw [ha2, hpc]; simp))
              clear NX BG
              have D2 := D1
              have H2 := H1
              obtain ⟨x0, x1, x2, x3, xf⟩ := Bk.four BX.out
              obtain ⟨y0, y1, y2, y3⟩ := RdT.four (by simpa using LD.out)
              go_wp2_with fail
              refine (QA.out _ ).mono ?_; rintro e w3 ⟨rfl, hb⟩
              have H3 := hidB (bld_on H2.out hb)
              have D3 := hidB (D2.out.trans (hb.mono D2.out.size))
              clear hb
              go_wp2_with fail
              refine (writeString_any wb.heap.size wb.heap.size acc qs _ H3.out (by first | omega | (simp only [List.length_append, List.length_singleton]; omega)) D3.out.size).mono ?_; rintro e w4 ⟨rfl, hbl, hb⟩
              have H4 : Hid (Bld wb.heap.size wb.heap.size a2 w4) := hidB (by rw [ha2, ← QD.out]; exact hbl)
              have D4 := hidB (D3.out.trans hb)
              clear hbl hb
              go_wp2_with fail
              refine (blen_any wb.heap.size wb.heap.size a2 _ H4.out).mono ?_; rintro e w5 ⟨rfl, rfl⟩
              clear ha2
              by_cases hbig : 65536 < a2.length
              · have hbi : (65536 : Int) < (a2.length : Int) := by omega
                have e := HGO.out
                rw [BG2.out hbig] at e
                have He := hidB e
                clear e
                go_wp2_with fail
                go_ret2
                exact textQ_of He.out rfl (Hb.out.trans (D4.out.mono Hb.out.size))
              · have hbi : ¬ (65536 : Int) < (a2.length : Int) := by omega
                go_wp2_with fail
                go_roundw
                case rel => exact ⟨0 + 1, by omega, by go_num, a2, NX2.out (by omega), H4.out, D4.out⟩
                case measure => simp [intOf]; omega
            · have hpi : (0 : Int) < (k : Int) := by omega
              obtain ⟨a2, ha2⟩ : ∃ a2, a2 = (acc ++ [32]) ++ (quoted tt.data.toList ++ [34]) := ⟨_, rfl⟩
              have hl2 : a2.length ≤ 65537 + 20000 := by rw [ha2]; simp only [List.length_append, List.length_singleton] at hps0 ⊢; omega
              have NX2 := hidB (NX.out a2 (by rw [ha2, hpc]; simp [Nat.ne_of_gt hpos]))
              have BG2 := hidB (BG.out a2 (by rw [ha2, hpc]; simp [Nat.ne_of_gt hpos]))
              clear NX BG
              go_wp2_with (first | (refine wpList_load_mid (by rfl) 25 (.tmp 60) (by rfl) g (o + k * 4) (by rfl) [.int .u8 4, .int .i64 tp, .string tt, .float .f64 tx] _ LD.out Tryd.underlying25 (by rfl) (by kernel_rfl) ?_))
              refine (writeByte_box wb.heap.size wb.heap.size acc 32 32 rfl _ H1.out (by omega) (by simp; omega) _ _ BX.out (by omega)).mono ?_; rintro e w2 ⟨rfl, ⟨hbl, hb⟩, hx⟩
              have H2 := hidB hbl
              have B2 := hidB (D1.out.trans hb)
              obtain ⟨x0, x1, x2, x3, xf⟩ := Bk.four hx
              have z2 := hb.size
              clear hbl hb hx
              have D2 := B2
              go_wp2_with fail
              refine (QA.out _ ).mono ?_; rintro e w3 ⟨rfl, hb⟩
              have H3 := hidB (bld_on H2.out hb)
              have D3 := hidB (D2.out.trans (hb.mono D2.out.size))
              clear hb
              go_wp2_with fail
              refine (writeString_any wb.heap.size wb.heap.size (acc ++ [32]) qs _ H3.out (by first | omega | (simp only [List.length_append, List.length_singleton]; omega)) D3.out.size).mono ?_; rintro e w4 ⟨rfl, hbl, hb⟩
              have H4 : Hid (Bld wb.heap.size wb.heap.size a2 w4) := hidB (by rw [ha2, ← QD.out]; exact hbl)
              have D4 := hidB (D3.out.trans hb)
              clear hbl hb
              go_wp2_with fail
              refine (blen_any wb.heap.size wb.heap.size a2 _ H4.out).mono ?_; rintro e w5 ⟨rfl, rfl⟩
              clear ha2
              by_cases hbig : 65536 < a2.length
              · have hbi : (65536 : Int) < (a2.length : Int) := by omega
                have e := HGO.out
                rw [BG2.out hbig] at e
                have He := hidB e
                clear e
                go_wp2_with fail
                go_ret2
                exact textQ_of He.out rfl (Hb.out.trans (D4.out.mono Hb.out.size))
              · have hbi : ¬ (65536 : Int) < (a2.length : Int) := by omega
                go_wp2_with fail
                go_roundw
                case rel => exact ⟨k + 1, by omega, by go_num, a2, NX2.out (by omega), H4.out, D4.out⟩
                case measure => simp [intOf]; omega
          · have c3 : (tk == 3) = false := by rw [beq_eq_false_iff_ne]; exact h3
            have c4 : (tk == 4) = false := by rw [beq_eq_false_iff_ne]; exact h4
            have hps5 := hps3 h3
            have hpc : pieceR ⟨tk, tp, tt, tx⟩ = tt.data.toList := by unfold pieceR; rw [if_neg h3, if_neg h4]
            rw [hpc] at hps0
            clear h3 h4
            clear hps3 hps4
            rcases Nat.eq_zero_or_pos k with rfl | hpos
            · skip
              obtain ⟨a2, ha2⟩ : ∃ a2, a2 = acc ++ (tt.data.toList) := ⟨_, rfl⟩
              have hl2 : a2.length ≤ 65537 + 20000 := by rw [ha2]; simp only [List.length_append, List.length_singleton] at hps0 ⊢; omega
              have NX2 := hidB (NX.out a2 (by rw [ha2, hpc]; simp))
              have BG2 := hidB (BG.out a2 (by rw [ha2, hpc]; simp))
              clear NX BG
              have D2 := D1
              have H2 := H1
              obtain ⟨x0, x1, x2, x3, xf⟩ := Bk.four BX.out
              obtain ⟨y0, y1, y2, y3⟩ := RdT.four (by simpa using LD.out)
              go_wp2_with fail
              have D3 := D2
              have H3 := H2
              refine (writeString_any wb.heap.size wb.heap.size acc tt _ H3.out (by first | omega | (simp only [List.length_append, List.length_singleton]; omega)) D3.out.size).mono ?_; rintro e w4 ⟨rfl, hbl, hb⟩
              have H4 : Hid (Bld wb.heap.size wb.heap.size a2 w4) := hidB (by rw [ha2]; exact hbl)
              have D4 := hidB (D3.out.trans hb)
              clear hbl hb
              go_wp2_with fail
              refine (blen_any wb.heap.size wb.heap.size a2 _ H4.out).mono ?_; rintro e w5 ⟨rfl, rfl⟩
              clear ha2
              by_cases hbig : 65536 < a2.length
              · have hbi : (65536 : Int) < (a2.length : Int) := by omega
                have e := HGO.out
                rw [BG2.out hbig] at e
                have He := hidB e
                clear e
                go_wp2_with fail
                go_ret2
                exact textQ_of He.out rfl (Hb.out.trans (D4.out.mono Hb.out.size))
              · have hbi : ¬ (65536 : Int) < (a2.length : Int) := by omega
                go_wp2_with fail
                go_roundw
                case rel => exact ⟨0 + 1, by omega, by go_num, a2, NX2.out (by omega), H4.out, D4.out⟩
                case measure => simp [intOf]; omega
            · have hpi : (0 : Int) < (k : Int) := by omega
              obtain ⟨a2, ha2⟩ : ∃ a2, a2 = (acc ++ [32]) ++ (tt.data.toList) := ⟨_, rfl⟩
              have hl2 : a2.length ≤ 65537 + 20000 := by rw [ha2]; simp only [List.length_append, List.length_singleton] at hps0 ⊢; omega
              have NX2 := hidB (NX.out a2 (by rw [ha2, hpc]; simp [Nat.ne_of_gt hpos]))
              have BG2 := hidB (BG.out a2 (by rw [ha2, hpc]; simp [Nat.ne_of_gt hpos]))
              clear NX BG
              go_wp2_with (first | (refine wpList_load_mid (by rfl) 25 (.tmp 60) (by rfl) g (o + k * 4) (by rfl) [.int .u8 tk, .int .i64 tp, .string tt, .float .f64 tx] _ LD.out Tryd.underlying25 (by rfl) (by kernel_rfl) ?_))
              refine (writeByte_box wb.heap.size wb.heap.size acc 32 32 rfl _ H1.out (by omega) (by simp; omega) _ _ BX.out (by omega)).mono ?_; rintro e w2 ⟨rfl, ⟨hbl, hb⟩, hx⟩
              have H2 := hidB hbl
              have B2 := hidB (D1.out.trans hb)
              obtain ⟨x0, x1, x2, x3, xf⟩ := Bk.four hx
              have z2 := hb.size
              clear hbl hb hx
              have D2 := B2
              go_wp2_with fail
              have D3 := D2
              have H3 := H2
              refine (writeString_any wb.heap.size wb.heap.size (acc ++ [32]) tt _ H3.out (by first | omega | (simp only [List.length_append, List.length_singleton]; omega)) D3.out.size).mono ?_; rintro e w4 ⟨rfl, hbl, hb⟩
              have H4 : Hid (Bld wb.heap.size wb.heap.size a2 w4) := hidB (by rw [ha2]; exact hbl)
              have D4 := hidB (D3.out.trans hb)
              clear hbl hb
              go_wp2_with fail
              refine (blen_any wb.heap.size wb.heap.size a2 _ H4.out).mono ?_; rintro e w5 ⟨rfl, rfl⟩
              clear ha2
              by_cases hbig : 65536 < a2.length
              · have hbi : (65536 : Int) < (a2.length : Int) := by omega
                have e := HGO.out
                rw [BG2.out hbig] at e
                have He := hidB e
                clear e
                go_wp2_with fail
                go_ret2
                exact textQ_of He.out rfl (Hb.out.trans (D4.out.mono Hb.out.size))
              · have hbi : ¬ (65536 : Int) < (a2.length : Int) := by omega
                go_wp2_with fail
                go_roundw
                case rel => exact ⟨k + 1, by omega, by go_num, a2, NX2.out (by omega), H4.out, D4.out⟩
                case measure => simp [intOf]; omega
        · obtain rfl : m = k := by omega
          have he := writeAt_end (us := ts.take m) (acc := acc) (by rw [List.length_take, Nat.min_eq_left (by omega)]; exact HW.out)
          have e := HGO.out
          rw [he] at e
          have He := hidB e
          clear e he hlt
          go_wp2_with fail
          refine (toString_any wb.heap.size wb.heap.size _ _ HBq.out Hq.out.size).mono ?_; rintro e w3 ⟨rfl, hb⟩
          have B2 := hidB hb
          clear hb
          go_wp2_with fail
          go_ret2
          exact textQ_of He.out rfl (Hb.out.trans ((Hq.out.trans B2.out).mono Hb.out.size))

theorem lexText_any (ts : List TI) (v : Value) (w : World) (hr : RdT ts v w) (hz : ∀ i (h : i < ts.length), ts[i].text.size ≤ 140737488351232) (hm : Mx w) (ht : Tab w) : Calls Tryd.prog 9 #[v] w (TextQ ts w) := by
  obtain ⟨pa, c, rfl, hc, hc2, hx⟩ := hr
  by_cases h0 : ts.length = 0
  · obtain rfl : ts = [] := List.length_eq_zero_iff.1 h0
    exact lexText_none c pa w
  by_cases h1 : 16385 < ts.length
  · exact lexText_many ts h1 (by omega) c pa w
  obtain ⟨g, o, rfl, hg, hcell⟩ := hx (by omega)
  obtain ⟨m, hm2⟩ : ∃ m, ts.length = m + 1 := ⟨ts.length - 1, by omega⟩
  rw [hm2]
  cases he : endB (ts[m]'(by omega))
  · exact lexText_end ts m hm2 (by omega) g o c w (hcell m (by omega)) he
  · exact lexText_go ts m hm2 (by omega) g o c (by omega) hc2 w hg hcell hz hm ht he

end Go.Proofs.YtkomjmgmancinaaDoor
