/-
  The reference's Text of tokens.
-/
import Derived.Test.YtkomjmgmancinaaDoorRefCheck
import Derived.Test.YtkomjmgmancinaaDoorLxOA
import Derived.Lib.AppendStr
import Derived.Lib.UnsafeStr
namespace Go.Proofs.YtkomjmgmancinaaDoor
open Go.RowKit

/-- Bytes of the call's own, behind all that was there at a beginning. -/
def Ob (W0 : World) (l : List UInt8) (v : Value) (w : World) : Prop := w.ownsRow W0.heap.size 5 1 v l.length (Lib.byteCells l) ∧ Below W0.heap.size W0 w
theorem Ob.form {W0 w : World} {l : List UInt8} {v : Value} (h : Ob W0 l v w) : ∃ a c, v = .slice a l.length c := by
  obtain ⟨⟨_, hf⟩, _⟩ := h
  rcases hf with ⟨rfl, h0⟩ | ⟨g, cap, cur, rfl, _⟩
  · exact ⟨none, 0, by rw [h0]⟩
  · exact ⟨_, _, rfl⟩
theorem Ob.nil {W0 w : World} (h : Below W0.heap.size W0 w) : Ob W0 [] (.slice none 0 0) w := ⟨⟨rfl, Or.inl ⟨rfl, rfl⟩⟩, h⟩
theorem Ob.on {W0 w w1 : World} {l : List UInt8} {v : Value} (h : Ob W0 l v w) (hb : Below w.heap.size w w1) : Ob W0 l v w1 := by
  refine ⟨?_, h.2.trans (hb.mono h.2.size)⟩
  exact h.1.kept (row := none) ⟨hb.os, hb.tape, hb.output, hb.size, fun k hk _ => hb.block k hk⟩ (by cases v.ownBlock <;> simp)
theorem info_byteO : (Tryd.prog.info? 5).map (fun i => (i.zero, i.size, i.bytes)) = some (some (.int .u8 0), 1, 1) := by kernel_rfl

section
variable {ops : Array Oper} {rest : List Oper} {o : Oper} {a : Act} {Q : Exit → Act → World → Prop} {w : World}
theorem wpList_ob_text (hgd : o.guard = none) (sl x : Operand) (ho : o.op = .call { callee := .builtin .append, args := #[sl, x], argTypes := #[41, 9] })
    (W0 : World) (l : List UInt8) (v : Value) (hs : a.eval sl = v) (hb : Ob W0 l v w) (s : ByteArray) (hx : a.eval x = .string s) (l2 : List UInt8) (hl2 : l2 = l ++ s.data.toList) (hlen : l2.length ≤ 140737488355328)
    (h : ∀ pa c w', Ob W0 l2 (.slice pa l2.length c) w' → wpList Tryd.prog ops Q rest (a.put o.dst (.slice pa l2.length c)) w') : wpList Tryd.prog ops Q (o :: rest) a w := by
  obtain ⟨i0, hi, hz0, hz1, hz2⟩ := info_parts info_byteO
  have e : l2.length = l.length + s.size := by rw [hl2, List.length_append, ← ba_size]
  refine Lib.wpList_append_own_string w hgd sl x _ _ ho W0.heap.size 5 i0 Tryd.underlying41 Tryd.underlying9 hi hz0 hz1 hz2 v l.length (Lib.byteCells l) hs hb.1 s hx (by unfold maxLen; omega) (by omega) hb.2.size ?_
  intro v' w' ho' hg _
  have k : Ob W0 l2 v' w' := by
    refine ⟨?_, hb.2.grown hg hb.2.size (fun j hj => (hb.1.lt j hj).1)⟩
    rw [e, hl2, Lib.byteCells_append, ← Lib.strCells_eq]
    exact ho'
  obtain ⟨pa, c, rfl⟩ := k.form
  exact h pa c w' k
theorem wpList_ob_byte (hgd : o.guard = none) (sl x : Operand) (ho : o.op = .call { callee := .builtin .append, args := #[sl, x], argTypes := #[41, 41] })
    (W0 : World) (l : List UInt8) (v : Value) (hs : a.eval sl = v) (hb : Ob W0 l v w) (b : UInt8) (n : Int) (hn : n = b.toNat) (hx : a.eval x = .slice (some ⟨w.heap.size, 0, none⟩) 1 1) (hlen : l.length + 1 ≤ 140737488355328) (l2 : List UInt8) (hl2 : l2 = l ++ [b])
    (h : ∀ pa c w', Ob W0 l2 (.slice pa l2.length c) w' → wpList Tryd.prog ops Q rest (a.put o.dst (.slice pa l2.length c)) w') : wpList Tryd.prog ops Q (o :: rest) a (w.alloc (.cells #[.int .u8 n] 5)) := by
  subst hn hl2
  obtain ⟨i0, hi, hz0, hz1, hz2⟩ := info_parts info_byteO
  refine wpList_append_own _ hgd sl x _ ho W0.heap.size 5 i0 (.int .u8 0) 1 1 Tryd.underlying41 hi hz0 hz1 hz2 rfl (by decide) v l.length (Lib.byteCells l) hs (hb.1.alloc _) ⟨w.heap.size, 0, none⟩ 1 1 [.int .u8 b.toNat] hx rfl (cell_one_new _ _ _) (by intro u hu; simp at hu; subst hu; rfl) (by unfold maxLen; omega) (by omega) (by have := hb.2.size; simp; omega) ?_
  intro v' w' ho' hg _
  have k : Ob W0 (l ++ [b]) v' w' := by
    refine ⟨?_, (hb.2.alloc hb.2.size _).grown hg (by have := hb.2.size; simp; omega) (fun j hj => (hb.1.lt j hj).1)⟩
    rw [List.length_append, Lib.byteCells_append]
    exact ho'
  obtain ⟨pa, c, rfl⟩ := k.form
  exact h pa c w' k
end
theorem Ob.conv {W0 w : World} {l : List UInt8} {pa : Option Addr} {c : Nat} (h : Ob W0 l (.slice pa l.length c) w) : (convert 41 9 (.slice pa l.length c)).run Tryd.prog w = .ok (.string ⟨l.toArray⟩) w := by
  have hown := h.1
  rcases hown.2 with ⟨hv, h0⟩ | ⟨g, cap, cur, hv, _⟩
  · have : l = [] := List.eq_nil_of_length_eq_zero h0
    subst this
    cases hv
    exact Lib.run_convert_nil_bytes w _ _ 5 0 Tryd.underlying41 Tryd.underlying5 Tryd.underlying9
  · cases hv
    refine run_convert_bytes_back w _ _ 5 _ c l Tryd.underlying41 Tryd.underlying5 Tryd.underlying9 (fun j hj => ?_)
    have hcell := World.ownsRow.cellAt hown j (by omega)
    rw [show (⟨g, 0, none⟩ : Addr).add j = ⟨g, j, none⟩ by simp [Addr.add]; omega, hcell]
    simp [Lib.byteCells, hj]

set_option maxHeartbeats 8000000 in
set_option maxRecDepth 100000 in
theorem refText_go (ts : List TI) (v : Value) (w : World) (hr : RdT ts v w) (hz : ∀ i (h : i < ts.length), ts[i].text.size ≤ 140737488351232) : Calls Tryd.prog 10 #[v] w (TextQ ts w) := by
  have CK := hidB (refCheck_any ts v w hr hz)
  unfold ChkQ at CK
  obtain ⟨pa, cc, rfl, hc1, hc2, hx⟩ := hr
  unfold maxLen at hc2
  have hlm : ts.length ≤ 9223372036854775807 := by omega
  by_cases h0 : chkR ts = 0
  · obtain ⟨h1, h2, h3⟩ := chk_good h0
    obtain ⟨g, o, rfl, hg, hcell⟩ := hx h2
    obtain ⟨m, hm2⟩ : ∃ m, ts.length = m + 1 := ⟨ts.length - 1, by omega⟩
    have hd : ts.dropLast = ts.take m := by rw [List.dropLast_eq_take, show ts.length - 1 = m by omega]
    have hw := writeR_good h0
    rw [hd] at hw h3
    rw [h0] at CK
    have HW0 := hidB hw
    have H3 := hidB h3
    have HM := hidB hm2
    have HR := hidB hcell
    have HG := hidB hg
    have HZ := hidB hz
    have hm4 : m ≤ 16384 := by omega
    have hm7 : (m : Int) + 1 - 1 = (m : Int) := by omega
    rw [hm2] at CK ⊢
    clear hw h0 h1 h2 h3 hx hcell hg hz hd hm2 hc1 hc2 hlm
    go_enter Tryd.func10, Tryd.ntmps10
    go_wp2_with fail
    refine (CK.out).mono ?_; rintro e w1 ⟨rfl, hb⟩
    have B1 := hidB (Ob.nil hb)
    clear hb
    go_wp2_with fail
    go_loopw [5, 6] (fun v i wr => ∃ k : Nat, k ≤ m ∧ i = .int .i64 k ∧ ∃ acc pa c, v = .slice pa acc.length c ∧ WriteAt (ts.take m) k acc ∧ Ob w acc v wr) (fun _ i _ => m - (intOf i).toNat)
    case atStart => exact ⟨0, by omega, rfl, [], none, 0, rfl, writeAt_0 _, B1.out⟩
    case round =>
      obtain ⟨k, hk, rfl, acc, pa, c, rfl, hat, hob⟩ := hrel
      have HW := hidB hat
      have HO := hidB hob
      clear hat hob
      by_cases hlt : k < m
      · have hkl : k < ts.length := by have := HM.out; omega
        have hul : k < (ts.take m).length := by rw [List.length_take]; have := HM.out; omega
        have hget : (ts.take m)[k]'hul = ts[k] := List.getElem_take
        have hx1 : (k : Int) < (m : Int) := by omega
        have hx2 : (0 : Int) ≤ (k : Int) := by omega
        have hx3 : (k : Int) < (m : Int) + 1 := by omega
        have LDf : Hid (∀ W, Below w.heap.size w W → W.rangeAt g (o + k * 4) [.int .u8 ts[k].k, .int .i64 ts[k].p, .string ts[k].text, .float .f64 ts[k].num]) := hidB (fun W h => range_on h HG.out (HR.out k hkl))
        have hmay := take_all H3.out hlt (by have := HM.out; omega)
        have hps := piece_small hmay
        have NX := hidB (fun (a2 : List UInt8) (h2 : a2 = acc ++ (if decide (k = 0) then [] else [32]) ++ pieceR ts[k]) (hl : a2.length ≤ 65536) => writeAt_next HW.out hul a2 (by rw [hget]; exact h2) hl)
        have BG := hidB (fun (a2 : List UInt8) (h2 : a2 = acc ++ (if decide (k = 0) then [] else [32]) ++ pieceR ts[k]) (hl : 65536 < a2.length) => writeAt_big HW.out hul a2 (by rw [hget]; exact h2) hl)
        have hacc := HW.out.2
        clear hmay hget hul HW H3 HR HZ
        generalize ts[k]'hkl = t at *
        obtain ⟨tk, tp, tt, tx⟩ := t
        simp only at hps LDf
        obtain ⟨hps0, hps4, hps3⟩ := hps
        have hsz2 := ba_size tt
        by_cases h3 : tk = 3
        · subst h3
          have hpc : pieceR ⟨3, tp, tt, tx⟩ = textR tx := by unfold pieceR; rw [if_pos rfl]
          rw [hpc] at hps0
          obtain ⟨qs, hqs⟩ : ∃ qs : ByteArray, qs = ⟨(textR tx).toArray⟩ := ⟨_, rfl⟩
          have QA : Hid (∀ W, Calls Tryd.prog 31 #[.float .f64 tx] W fun e w' => e = .returned (.string qs) ∧ W = w') := hidB (by rw [hqs]; exact fun W => refText_any tx W)
          have QD : Hid (qs.data.toList = textR tx) := hidB (by rw [hqs])
          rw [← QD.out] at hps0
          clear hqs
          clear hps3 hps4
          rcases Nat.eq_zero_or_pos k with rfl | hpos
          · skip
            obtain ⟨a2, ha2⟩ : ∃ a2, a2 = acc ++ qs.data.toList := ⟨_, rfl⟩
            have hl2 : a2.length ≤ 65537 + 20000 := by rw [ha2]; simp only [List.length_append, List.length_singleton] at hps0 ⊢; omega
            have NX2 := hidB (NX.out a2 (by rw [ha2, hpc, QD.out]; simp))
            have BG2 := hidB (BG.out a2 (by rw [ha2, hpc, QD.out]; simp))
            have HA2 := hidB ha2
            clear NX BG ha2
            obtain ⟨y0, y1, y2, y3⟩ := RdT.four (t := ⟨3, tp, tt, tx⟩) (LDf.out _ HO.out.2)
            simp only [Nat.zero_mul, Nat.add_zero] at y0 y1 y2 y3
            go_wp2_with (first | (at_builtin; refine wpList_ob_text (by rfl) _ _ (by rfl) w acc _ (by rfl) HO.out qs (by rfl) a2 HA2.out (by omega) ?_; intro pe ce w3 ho3; have HO3 := hidB ho3; clear ho3) | (go_at_call 31; refine (QA.out _).mono ?_; rintro e wq ⟨rfl, rfl⟩))
            · have hbig : 65536 < a2.length := by omega
              have e := HW0.out
              rw [BG2.out hbig] at e
              have He := hidB e
              clear e
              go_ret2
              exact textQ_of He.out rfl HO3.out.2
            · go_roundw
              case rel => exact ⟨0 + 1, by omega, by go_num, a2, _, _, rfl, NX2.out (by omega), HO3.out⟩
              case measure => simp [intOf]; omega
          · have hpi : (0 : Int) < (k : Int) := by omega
            obtain ⟨a1, ha1⟩ : ∃ a1, a1 = acc ++ [32] := ⟨_, rfl⟩
            have hl1 : a1.length ≤ 65537 := by rw [ha1]; simp only [List.length_append, List.length_singleton]; omega
            obtain ⟨a2, ha2⟩ : ∃ a2, a2 = a1 ++ qs.data.toList := ⟨_, rfl⟩
            have hl2 : a2.length ≤ 65537 + 20000 := by rw [ha2]; simp only [List.length_append, List.length_singleton] at hps0 ⊢; omega
            have NX2 := hidB (NX.out a2 (by rw [ha2, hpc, ha1, QD.out]; simp [Nat.ne_of_gt hpos]))
            have BG2 := hidB (BG.out a2 (by rw [ha2, hpc, ha1, QD.out]; simp [Nat.ne_of_gt hpos]))
            have HA2 := hidB ha2
            clear NX BG ha2
            have HA1 := hidB ha1
            clear ha1
            go_wp2_with (first | (at_builtin; refine wpList_ob_byte (by rfl) _ _ (by rfl) w acc _ (by rfl) HO.out 32 32 (by rfl) (by rfl) (by omega) a1 HA1.out ?_; intro pb cb w2 ho2; have HO2 := hidB ho2; clear ho2; obtain ⟨y0, y1, y2, y3⟩ := RdT.four (t := ⟨3, tp, tt, tx⟩) (LDf.out _ HO2.out.2)) | (at_builtin; refine wpList_ob_text (by rfl) _ _ (by rfl) w a1 _ (by rfl) HO2.out qs (by rfl) a2 HA2.out (by omega) ?_; intro pe ce w3 ho3; have HO3 := hidB ho3; clear ho3) | (go_at_call 31; refine (QA.out _).mono ?_; rintro e wq ⟨rfl, rfl⟩))
            · have hbig : 65536 < a2.length := by omega
              have e := HW0.out
              rw [BG2.out hbig] at e
              have He := hidB e
              clear e
              go_ret2
              exact textQ_of He.out rfl HO3.out.2
            · go_roundw
              case rel => exact ⟨k + 1, by omega, by go_num, a2, _, _, rfl, NX2.out (by omega), HO3.out⟩
              case measure => simp [intOf]; omega
        by_cases h4 : tk = 4
        · subst h4
          have hpc : pieceR ⟨4, tp, tt, tx⟩ = quoted tt.data.toList ++ [34] := by unfold pieceR; rw [if_neg (by simp), if_pos rfl]
          rw [hpc] at hps0
          have hps5 := hps4 rfl
          obtain ⟨qs, hqs⟩ : ∃ qs : ByteArray, qs = ⟨(quoted tt.data.toList ++ [34]).toArray⟩ := ⟨_, rfl⟩
          have QA : Hid (∀ W, Calls Tryd.prog 32 #[.string tt] W fun e w' => e = .returned (.string qs) ∧ W = w') := hidB (by rw [hqs]; exact fun W => refQuote_any tt W (by omega))
          have QD : Hid (qs.data.toList = quoted tt.data.toList ++ [34]) := hidB (by rw [hqs])
          rw [← QD.out] at hps0
          clear hqs
          clear hps3 hps4
          rcases Nat.eq_zero_or_pos k with rfl | hpos
          · skip
            obtain ⟨a2, ha2⟩ : ∃ a2, a2 = acc ++ qs.data.toList := ⟨_, rfl⟩
            have hl2 : a2.length ≤ 65537 + 20000 := by rw [ha2]; simp only [List.length_append, List.length_singleton] at hps0 ⊢; omega
            have NX2 := hidB (NX.out a2 (by rw [ha2, hpc, QD.out]; simp))
            have BG2 := hidB (BG.out a2 (by rw [ha2, hpc, QD.out]; simp))
            have HA2 := hidB ha2
            clear NX BG ha2
            obtain ⟨y0, y1, y2, y3⟩ := RdT.four (t := ⟨4, tp, tt, tx⟩) (LDf.out _ HO.out.2)
            simp only [Nat.zero_mul, Nat.add_zero] at y0 y1 y2 y3
            go_wp2_with (first | (at_builtin; refine wpList_ob_text (by rfl) _ _ (by rfl) w acc _ (by rfl) HO.out qs (by rfl) a2 HA2.out (by omega) ?_; intro pe ce w3 ho3; have HO3 := hidB ho3; clear ho3) | (go_at_call 32; refine (QA.out _).mono ?_; rintro e wq ⟨rfl, rfl⟩))
            · have hbig : 65536 < a2.length := by omega
              have e := HW0.out
              rw [BG2.out hbig] at e
              have He := hidB e
              clear e
              go_ret2
              exact textQ_of He.out rfl HO3.out.2
            · go_roundw
              case rel => exact ⟨0 + 1, by omega, by go_num, a2, _, _, rfl, NX2.out (by omega), HO3.out⟩
              case measure => simp [intOf]; omega
          · have hpi : (0 : Int) < (k : Int) := by omega
            obtain ⟨a1, ha1⟩ : ∃ a1, a1 = acc ++ [32] := ⟨_, rfl⟩
            have hl1 : a1.length ≤ 65537 := by rw [ha1]; simp only [List.length_append, List.length_singleton]; omega
            obtain ⟨a2, ha2⟩ : ∃ a2, a2 = a1 ++ qs.data.toList := ⟨_, rfl⟩
            have hl2 : a2.length ≤ 65537 + 20000 := by rw [ha2]; simp only [List.length_append, List.length_singleton] at hps0 ⊢; omega
            have NX2 := hidB (NX.out a2 (by rw [ha2, hpc, ha1, QD.out]; simp [Nat.ne_of_gt hpos]))
            have BG2 := hidB (BG.out a2 (by rw [ha2, hpc, ha1, QD.out]; simp [Nat.ne_of_gt hpos]))
            have HA2 := hidB ha2
            clear NX BG ha2
            have HA1 := hidB ha1
            clear ha1
            go_wp2_with (first | (at_builtin; refine wpList_ob_byte (by rfl) _ _ (by rfl) w acc _ (by rfl) HO.out 32 32 (by rfl) (by rfl) (by omega) a1 HA1.out ?_; intro pb cb w2 ho2; have HO2 := hidB ho2; clear ho2; obtain ⟨y0, y1, y2, y3⟩ := RdT.four (t := ⟨4, tp, tt, tx⟩) (LDf.out _ HO2.out.2)) | (at_builtin; refine wpList_ob_text (by rfl) _ _ (by rfl) w a1 _ (by rfl) HO2.out qs (by rfl) a2 HA2.out (by omega) ?_; intro pe ce w3 ho3; have HO3 := hidB ho3; clear ho3) | (go_at_call 32; refine (QA.out _).mono ?_; rintro e wq ⟨rfl, rfl⟩))
            · have hbig : 65536 < a2.length := by omega
              have e := HW0.out
              rw [BG2.out hbig] at e
              have He := hidB e
              clear e
              go_ret2
              exact textQ_of He.out rfl HO3.out.2
            · go_roundw
              case rel => exact ⟨k + 1, by omega, by go_num, a2, _, _, rfl, NX2.out (by omega), HO3.out⟩
              case measure => simp [intOf]; omega
        · have c3 : (tk == 3) = false := by rw [beq_eq_false_iff_ne]; exact h3
          have c4 : (tk == 4) = false := by rw [beq_eq_false_iff_ne]; exact h4
          have hps5 := hps3 h3
          have hpc : pieceR ⟨tk, tp, tt, tx⟩ = tt.data.toList := by unfold pieceR; rw [if_neg h3, if_neg h4]
          rw [hpc] at hps0
          clear h3 h4
          clear hps3 hps4
          rcases Nat.eq_zero_or_pos k with rfl | hpos
          · skip
            obtain ⟨a2, ha2⟩ : ∃ a2, a2 = acc ++ tt.data.toList := ⟨_, rfl⟩
            have hl2 : a2.length ≤ 65537 + 20000 := by rw [ha2]; simp only [List.length_append, List.length_singleton] at hps0 ⊢; omega
            have NX2 := hidB (NX.out a2 (by rw [ha2, hpc]; simp))
            have BG2 := hidB (BG.out a2 (by rw [ha2, hpc]; simp))
            have HA2 := hidB ha2
            clear NX BG ha2
            obtain ⟨y0, y1, y2, y3⟩ := RdT.four (t := ⟨tk, tp, tt, tx⟩) (LDf.out _ HO.out.2)
            simp only [Nat.zero_mul, Nat.add_zero] at y0 y1 y2 y3
            go_wp2_with (first | (at_builtin; refine wpList_ob_text (by rfl) _ _ (by rfl) w acc _ (by rfl) HO.out tt (by rfl) a2 HA2.out (by omega) ?_; intro pe ce w3 ho3; have HO3 := hidB ho3; clear ho3) | (fail))
            · have hbig : 65536 < a2.length := by omega
              have e := HW0.out
              rw [BG2.out hbig] at e
              have He := hidB e
              clear e
              go_ret2
              exact textQ_of He.out rfl HO3.out.2
            · go_roundw
              case rel => exact ⟨0 + 1, by omega, by go_num, a2, _, _, rfl, NX2.out (by omega), HO3.out⟩
              case measure => simp [intOf]; omega
          · have hpi : (0 : Int) < (k : Int) := by omega
            obtain ⟨a1, ha1⟩ : ∃ a1, a1 = acc ++ [32] := ⟨_, rfl⟩
            have hl1 : a1.length ≤ 65537 := by rw [ha1]; simp only [List.length_append, List.length_singleton]; omega
            obtain ⟨a2, ha2⟩ : ∃ a2, a2 = a1 ++ tt.data.toList := ⟨_, rfl⟩
            have hl2 : a2.length ≤ 65537 + 20000 := by rw [ha2]; simp only [List.length_append, List.length_singleton] at hps0 ⊢; omega
            have NX2 := hidB (NX.out a2 (by rw [ha2, hpc, ha1]; simp [Nat.ne_of_gt hpos]))
            have BG2 := hidB (BG.out a2 (by rw [ha2, hpc, ha1]; simp [Nat.ne_of_gt hpos]))
            have HA2 := hidB ha2
            clear NX BG ha2
            have HA1 := hidB ha1
            clear ha1
            go_wp2_with (first | (at_builtin; refine wpList_ob_byte (by rfl) _ _ (by rfl) w acc _ (by rfl) HO.out 32 32 (by rfl) (by rfl) (by omega) a1 HA1.out ?_; intro pb cb w2 ho2; have HO2 := hidB ho2; clear ho2; obtain ⟨y0, y1, y2, y3⟩ := RdT.four (t := ⟨tk, tp, tt, tx⟩) (LDf.out _ HO2.out.2)) | (at_builtin; refine wpList_ob_text (by rfl) _ _ (by rfl) w a1 _ (by rfl) HO2.out tt (by rfl) a2 HA2.out (by omega) ?_; intro pe ce w3 ho3; have HO3 := hidB ho3; clear ho3) | (fail))
            · have hbig : 65536 < a2.length := by omega
              have e := HW0.out
              rw [BG2.out hbig] at e
              have He := hidB e
              clear e
              go_ret2
              exact textQ_of He.out rfl HO3.out.2
            · go_roundw
              case rel => exact ⟨k + 1, by omega, by go_num, a2, _, _, rfl, NX2.out (by omega), HO3.out⟩
              case measure => simp [intOf]; omega
      · obtain rfl : m = k := by omega
        have he := writeAt_end (us := ts.take m) (acc := acc) (by rw [List.length_take, Nat.min_eq_left (by have := HM.out; omega)]; exact HW.out)
        have e := HW0.out
        rw [he] at e
        have He := hidB e
        clear e he hlt
        have hconv := HO.out.conv
        go_wp2_with fail
        go_ret2
        exact textQ_of He.out rfl HO.out.2
  · have hw := writeR_bad1 h0
    have hne : (chkR ts != 0) = true := by rw [bne_iff_ne]; exact h0
    have HW := hidB hw
    generalize chkR ts = k at *
    clear hw h0 hx hz hc1 hc2
    go_enter Tryd.func10, Tryd.ntmps10
    go_wp2_with fail
    refine (CK.out).mono ?_; rintro e w1 ⟨rfl, hb⟩
    have B1 := hidB hb
    clear hb
    go_wp2_with fail
    go_ret2
    exact textQ_of HW.out rfl B1.out

end Go.Proofs.YtkomjmgmancinaaDoor
