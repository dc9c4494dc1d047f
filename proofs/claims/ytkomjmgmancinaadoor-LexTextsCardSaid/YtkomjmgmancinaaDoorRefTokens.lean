/-
  The walk of the reference's Tokens.
-/
import Derived.Test.YtkomjmgmancinaaDoorRefTok3
import Derived.Test.YtkomjmgmancinaaDoorRefTok4
import Derived.Test.YtkomjmgmancinaaDoorPassWalk
import Derived.Test.YtkomjmgmancinaaDoorTokensWalk
namespace Go.Proofs.YtkomjmgmancinaaDoor
open Go.RowKit

theorem refToken_any (s : ByteArray) (p : Nat) (hp : p < s.size) (hs : s.size ≤ 70000) (w : World) : Calls Tryd.prog 38 #[.string s, .int .i64 p] w (TokAt s.data.toList p w) := by
  rcases kind_cases s[p] with ⟨h1, _, h2⟩ | ⟨h1, h3, _, h2⟩ | ⟨h1, h3, _, h4, h2⟩ | ⟨h1, h3, _, h4, h2⟩
  · exact rtok_let s p hp hs h1 w
  · exact rtok_dig s p hp hs h1 h3 w
  · exact rtok_qu s p hp hs h1 h3 h4 w
  · exact rtok_other s p hp hs h1 h3 h4 w

set_option maxHeartbeats 8000000 in
set_option maxRecDepth 100000 in
theorem refTokens_any (s : ByteArray) (hs : s.size ≤ 70000) (w : World) : Calls Tryd.prog 13 #[.string s] w (TokensQ s.data.toList w) := by
  obtain ⟨i0, hi, hz0, hz1, hz2⟩ := info_partsB info_tok
  have hz := ba_size s
  by_cases hbig : 65536 < s.size
  · have hl : lexR s.data.toList = ([], 0, 3) := by unfold lexR; rw [if_pos (by rw [← hz]; exact hbig)]
    have HL := hidB hl
    have hx : (65536 : Int) < (s.size : Int) := by omega
    clear hl hz
    go_enter Tryd.func13, Tryd.ntmps13
    go_wp2_with fail
    try rw [Exit.noGoto_ret]
    go_ret3
    exact ⟨.slice none 0 0, [], by rw [HL.out]; rfl, row_nil _ _, by rw [HL.out]; trivial, Below.refl _ _⟩
  · have hl : lexR s.data.toList = lexGo (s.data.toList.length + 1) s.data.toList 0 [] := by unfold lexR; rw [if_neg (by rw [← hz]; exact hbig)]
    have HL := hidB hl
    have hx : ¬ (65536 : Int) < (s.size : Int) := by omega
    have HZ := hidB hz
    clear hl hz
    go_enter Tryd.func13, Tryd.ntmps13
    go_wp2_with fail
    go_loopw [5, 6] (fun v a wr => ∃ p : Nat, p ≤ s.size ∧ a = .int .i64 p ∧ LexAt s.data.toList w v p wr) (fun _ a _ => s.size - (intOf a).toNat)
    case atStart => exact ⟨0, Nat.zero_le _, rfl, [], [], _, row_nil _ _, trivial, Nat.zero_le _, HL.out, by omega, Below.refl _ _⟩
    case round =>
      clear HL
      obtain ⟨p0, hp0, rfl, cs, acc, f0, hr, hmt, ha, hgo, hf0, hb⟩ := hrel
      have PS := hidB (fun W => passed_any s hs p0 hp0 W)
      unfold PassQ at PS
      go_wp2_with fail
      refine (PS.out _).mono ?_; rintro e w2 ⟨p, ok, rfl, rfl, hp, hreach, hhead, hnok, hge⟩
      obtain ⟨f, hf, hgo2⟩ := hreach f0 acc hf0
      rw [← HZ.out] at hp hnok hhead
      obtain ⟨g, rfl⟩ : ∃ g, f = g + 1 := ⟨f - 1, by have := HZ.out; omega⟩
      have RT := hidB hr
      have MT := hidB hmt
      have AC := hidB ha
      have GO := hidB (hgo.trans hgo2)
      have LF := hidB hf
      have Bt := hidB hb
      have GE := hidB hge
      clear hr hmt ha hgo hgo2 hf hb hreach hge hf0 PS
      obtain ⟨vb, vc, rfl⟩ := row_form RT.out
      have hcl : cs.length ≤ 16384 := by have := mts_length MT.out; have := AC.out; omega
      cases ok with
      | false =>
        have hlt := hnok rfl
        have hl0 : 0 < (s.data.toList.drop p).length := by rw [List.length_drop, ← HZ.out]; omega
        have HU : Hid (lexR s.data.toList = ([], p, 5)) := hidB (by rw [GO.out]; exact lexGo_unclosed hl0 (hhead hlt) _ _ _)
        clear hnok hhead hl0
        go_wp2_with fail
        try rw [Exit.noGoto_ret]
        go_ret3
        exact ⟨.slice none 0 0, [], by rw [HU.out]; rfl, row_nil _ _, by rw [HU.out]; trivial, Bt.out⟩
      | true =>
        clear hnok
        by_cases hlt : p < s.size
        · have hl0 : 0 < (s.data.toList.drop p).length := by rw [List.length_drop, ← HZ.out]; omega
          have HH : Hid (headR (s.data.toList.drop p) = .tok) := hidB (hhead hlt)
          have TOK := hidB (fun W => refToken_any s p hlt hs W)
          have RL := hidB (show s.size = p + (s.data.toList.drop p).length by rw [List.length_drop, ← HZ.out]; omega)
          have hx1 : ¬ (s.size : Int) ≤ (p : Int) := by omega
          clear hhead
          go_wp2_with fail
          refine (TOK.out _).mono ?_; rintro e w3 ⟨ka, kq, kb, kc, rfl, hk, hb3⟩
          have R3 := hidB (row_below RT.out hb3)
          have B3 := hidB (grow Bt.out hb3)
          have HK := hidB hk
          clear hb3 hk
          cases hok : (tokR (s.data.toList.drop p)).ok
          · have HU := hidB (lexGo_bad hl0 HH.out hok g p acc)
            have HU2 : Hid (lexR s.data.toList = ([], p + (tokR (s.data.toList.drop p)).n, 5)) := hidB (by rw [GO.out, HU.out])
            clear hok HU
            generalize p + (tokR (s.data.toList.drop p)).n = tn at *
            go_wp2_with fail
            try rw [Exit.noGoto_ret]
            go_ret3
            exact ⟨.slice none 0 0, [], by rw [HU2.out]; rfl, row_nil _ _, by rw [HU2.out]; trivial, B3.out.alloc B3.out.size _⟩
          · have hbd := tokR_bounds hl0 hok
            have HM := hidB (fun ha => (GO.out.trans (lexGo_many hl0 HH.out hok g p acc ha)))
            have HT := hidB (fun ha => (GO.out.trans (lexGo_tok hl0 HH.out hok g p acc ha)))
            have HK2 := hidB (HK.out hok)
            have hbd3 := RL.out
            obtain ⟨hkq, HKr⟩ : kq = (p : Int) ∧ True := ⟨HK2.out.2.1, trivial⟩
            clear hok HK
            generalize hTR : tokR (s.data.toList.drop p) = tr at *
            obtain ⟨tok, tk, ttext, tnum, tn⟩ := tr
            simp only at HM HT HK2 hbd ⊢
            have HTR := hidB hTR
            subst hkq
            clear hTR HKr
            have hbd1 := hbd.1
            have HP := hidB (show p + tn ≤ s.size by have := hbd.2; omega)
            have HP1 := hidB hbd1
            clear hbd hbd3 hbd1
            by_cases hfull : cs.length = 16384
            · have HU := hidB (HM.out (by rw [mts_length MT.out]; exact hfull))
              have hx3 : ((cs.length : Int) == 16384) = true := by rw [beq_iff_eq]; omega
              clear hfull
              go_wp2_with fail
              try rw [Exit.noGoto_ret]
              go_ret3
              exact ⟨.slice none 0 0, [], by rw [HU.out]; rfl, row_nil _ _, by rw [HU.out]; trivial, B3.out.alloc B3.out.size _⟩
            · have HU := hidB (HT.out (by rw [mts_length MT.out]; exact hfull))
              have hx3 : ((cs.length : Int) == 16384) = false := by rw [beq_eq_false_iff_ne]; omega
              have L3 := hidB (show cs.length + 1 ≤ maxLen by unfold maxLen; omega)
              have L4 := hidB (show (cs.length + 1) * 40 ≤ 140737488355328 by omega)
              have LA := hidB (show acc.length + 1 ≤ 16384 by rw [mts_length MT.out]; omega)
              clear hfull
              have HX := hidB (R3.out.alloc (.cells #[.int .u8 ka, .int .i64 p, .string kb, .float .f64 kc] 25))
              have BX := hidB (B3.out.alloc B3.out.size (.cells #[.int .u8 ka, .int .i64 p, .string kb, .float .f64 kc] 25))
              go_wp2_with (first | (at_builtin; refine wpList_append_own _ (by rfl) _ _ 22 (by rfl) w.heap.size 25 i0 _ 4 40 Tryd.underlying22 hi hz0 hz1 hz2 rfl (by decide) _ _ _ (by rfl) (HX.out.alloc _) ⟨w3.heap.size + 1, 0, none⟩ 1 1 (TC.cells ⟨ka, p, kb, kc⟩) (by rfl) (by rfl) (cells_at (w3.alloc (.cells #[.int .u8 ka, .int .i64 p, .string kb, .float .f64 kc] 25)) (TC.cells ⟨ka, p, kb, kc⟩) _ _ (by simp)) (tc_ones _) L3.out L4.out (Nat.le_trans BX.out.size (by simp)) ?_))
              intro v' w5 hown' hgrow _
              have RT5 := hidB (row_more (c := ⟨ka, p, kb, kc⟩) hown' rfl rfl)
              have B5 := hidB (grown_below HX.out BX.out hgrow)
              clear hown' hgrow
              go_wp2_with fail
              go_roundw
              case rel => exact ⟨p + tn, HP.out, rfl, _, acc ++ [⟨tk, p, ttext, tnum⟩], g, RT5.out, mts_snoc MT.out ⟨HK2.out.1, rfl, HK2.out.2.2.1, HK2.out.2.2.2⟩, by rw [List.length_append]; exact LA.out, by rw [HU.out, List.drop_drop], by have := LF.out; have := HP1.out; omega, B5.out⟩
              case measure =>
                have := HP.out
                have := HP1.out
                have := GE.out
                simp [intOf]; omega
        · obtain rfl : p = s.size := by omega
          have HE : Hid (lexR s.data.toList = (acc ++ [⟨0, s.size, [], 0⟩], 0, 0)) := hidB (by rw [GO.out, List.drop_eq_nil_of_le (by rw [← HZ.out]; exact Nat.le_refl _), lexGo_nil])
          have L3 := hidB (show cs.length + 1 ≤ maxLen by unfold maxLen; omega)
          have L4 := hidB (show (cs.length + 1) * 40 ≤ 140737488355328 by omega)
          clear hhead
          go_wp2_with (first | (at_builtin; refine wpList_append_own _ (by rfl) _ _ 22 (by rfl) w.heap.size 25 i0 _ 4 40 Tryd.underlying22 hi hz0 hz1 hz2 rfl (by decide) _ _ _ (by rfl) (RT.out.alloc _) ⟨wr.heap.size, 0, none⟩ 1 1 (TC.cells ⟨0, s.size, ⟨#[]⟩, 0⟩) (by rfl) (by rfl) (cells_new wr (TC.cells ⟨0, s.size, ⟨#[]⟩, 0⟩) _) (tc_ones _) L3.out L4.out (Nat.le_trans Bt.out.size (by simp)) ?_))
          intro v' w5 hown' hgrow _
          have RT5 := hidB (row_more (c := ⟨0, s.size, ⟨#[]⟩, 0⟩) hown' rfl rfl)
          have B5 := hidB (grown_below RT.out Bt.out hgrow)
          clear hown' hgrow
          go_wp2_with fail
          try rw [Exit.noGoto_ret]
          go_ret3
          exact ⟨v', _, by rw [HE.out]; rfl, RT5.out, by rw [HE.out]; exact mts_snoc MT.out ⟨rfl, rfl, rfl, Fl.is_0⟩, B5.out⟩

end Go.Proofs.YtkomjmgmancinaaDoor
