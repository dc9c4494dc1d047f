/-
  The walk of Tokens, the program's own way.
-/
import Derived.Test.YtkomjmgmancinaaDoorLxR
import Derived.Test.YtkomjmgmancinaaDoorLxT
import Derived.Laws.AppendOwn
import Derived.Laws.OwnMore
import Derived.Deep.CutRange
namespace Go.Proofs.YtkomjmgmancinaaDoor
open Go.RowKit

theorem info_tok : (Tryd.prog.info? 25).map (fun i => (i.zero, i.size, i.bytes)) = some (some (.agg #[.int .u8 0, .int .i64 0, .string ⟨#[]⟩, .float .f64 0]), 4, 40) := by kernel_rfl

theorem row_nil (B : Nat) (w : World) : RowT B [] (.slice none 0 0) w := ⟨rfl, Or.inl ⟨rfl, rfl⟩⟩
theorem row_form {B : Nat} {cs : List TC} {v : Value} {w : World} (h : RowT B cs v w) : ∃ b c, v = .slice b cs.length c := by
  obtain ⟨_, ⟨rfl, h0⟩ | ⟨g, cap, cur, rfl, _⟩⟩ := h
  · exact ⟨none, 0, by rw [h0]⟩
  · exact ⟨_, _, rfl⟩
theorem row_below {B : Nat} {cs : List TC} {v : Value} {w w1 : World} (h : RowT B cs v w) (hb : Below w.heap.size w w1) : RowT B cs v w1 :=
  h.kept (row := none) ⟨hb.os, hb.tape, hb.output, hb.size, fun k hk _ => hb.block k hk⟩ (by cases v.ownBlock <;> simp)
theorem row_more {B m : Nat} {cs : List TC} {c : TC} {v : Value} {w : World} {xs : List Value} (h : w.ownsRow B 25 4 v (cs.length + m) (cellsT cs ++ xs)) (hx : c.cells = xs) (hm : m = 1) : RowT B (cs ++ [c]) v w := by
  unfold RowT
  rw [cellsT_append, List.length_append, show [c].length = m by rw [hm]; rfl, show cellsT [c] = xs by rw [← hx]; simp [cellsT]]; exact h
theorem cells_new (W : World) (l : List Value) (t : TypeId) : ∀ (j : Nat) (u : Value), l[j]? = some u → (W.alloc (.cells l.toArray t)).cell? ((⟨W.heap.size, 0, none⟩ : Addr).add j) = some u := by
  intro j u h
  rw [show (⟨W.heap.size, 0, none⟩ : Addr).add j = ⟨W.heap.size, j, none⟩ by simp [Addr.add]; omega, cell_of_row _ _ _ _ _ (0, 0) (alloc_at _ _)]
  simpa using h
theorem cells_at (W : World) (l : List Value) (t : TypeId) (g : Nat) (hg : g = W.heap.size) : ∀ (j : Nat) (u : Value), l[j]? = some u → (W.alloc (.cells l.toArray t)).cell? ((⟨g, 0, none⟩ : Addr).add j) = some u := by
  subst hg; exact cells_new W l t
theorem three_eq (v : Value) {a b : Int} (k : Int) (h : a = b) : Ending.returned (.tuple #[v, .int .i64 a, .int .i64 k]) = .returned (.tuple #[v, .int .i64 b, .int .i64 k]) := by rw [h]
theorem bad_small (L : List UInt8) (h : (tokR L).ok = false) : (tokR L).n ≤ L.length + 1 := by
  cases hL : L with
  | nil => rw [tokR]; exact Nat.zero_le _
  | cons c0 r0 =>
    rw [← hL]
    have h0 : 0 < L.length := by rw [hL]; simp
    rcases kind_cases L[0] with ⟨h1, _, _⟩ | ⟨h1, h3, _, _⟩ | ⟨h1, h3, _, h4, _⟩ | ⟨h1, h3, _, h4, _⟩
    · have e := tokR_let L h0 h1
      rw [e] at h ⊢
      split at h
      · rename_i hc; rw [if_pos hc]; exact Nat.zero_le _
      · cases h
    · have e := tokR_dig L h0 h1 h3
      rw [e] at h ⊢
      split at h
      · rename_i hc; rw [if_pos hc]; exact Nat.zero_le _
      · cases h
    · have e := tokR_qu L h0 h1 h3 h4
      rw [e] at h ⊢
      cases hx : CloseAt L[0] L 1 with
      | none => exact Nat.zero_le _
      | some en =>
        rw [hx] at h
        simp only at h ⊢
        have hp := plain_place ((L.drop 1).take (en - 1))
        rw [List.length_take, List.length_drop] at hp
        split at h
        · rename_i c1; rw [if_pos c1]; show 1 + _ ≤ _; omega
        · rename_i c1
          split at h
          · rename_i c2; rw [if_neg c1, if_pos c2]; exact Nat.zero_le _
          · cases h
    · have e := tokR_other L h0 h1 h3 h4
      rw [e] at h ⊢
      have : ∀ n, (signOf L n).ok = false → (signOf L n).n = 0 := by
        intro n
        induction n with
        | zero => intro _; rfl
        | succ n ih =>
          intro hh
          rw [signOf] at hh ⊢
          split at hh
          · cases hh
          · rename_i hc; rw [if_neg hc]; exact ih hh
      rw [this 3 h]; exact Nat.zero_le _
theorem tc_ones (c : TC) : ∀ u ∈ c.cells, u.oneCell' = true := by
  intro u h
  simp only [TC.cells, List.mem_cons, List.not_mem_nil, or_false] at h
  rcases h with rfl | rfl | rfl | rfl <;> rfl
theorem grown_below {w wx w1 : World} {e : TypeId} {sz : Nat} {v : Value} {n : Nat} {xs : List Value} {o : Obj} (h : wx.ownsRow w.heap.size e sz v n xs) (hb : Below w.heap.size w wx) (hg : (wx.alloc o).grownBy w1 v.ownBlock) : Below w.heap.size w w1 :=
  (hb.alloc hb.size _).grown hg (by have := hb.size; simp; omega) (fun j hj => (h.lt j hj).1)

theorem prefix_any (s p : ByteArray) (W : World) : Calls Tryd.prog 33 #[.string s, .string p] W fun e w' => e = .returned (.bool (Lib.hasPrefix s.data.toList p.data.toList)) ∧ W = w' := (Tryd.strings_HasPrefix s p W).mono fun _ _ h => ⟨h.1, h.2.symm⟩
theorem line_any (s : ByteArray) (hs : s.size < 4294967281) (W : World) (h : Mx W) : Calls Tryd.prog 34 #[.string s, .string ⟨#[10]⟩] W fun e w' => (∃ (a b : ByteArray) (f : Bool), e = .returned (.tuple #[.string a, .string b, .bool f]) ∧ a.size = (s.data.toList.takeWhile (· != 10)).length) ∧ ∃ n, w' = W.drewN n := by
  obtain ⟨m, hm⟩ := h
  refine (Tryd.strings_Cut s ⟨#[10]⟩ m W hs hm).mono fun _ _ h => ⟨⟨_, _, _, h.1, ?_⟩, h.2⟩
  rw [ba_size, ← cut_line]
theorem index_any (s t : ByteArray) (hs : s.size < 4294967281) (w : World) (h : Mx w) : Calls Tryd.prog 35 #[.string s, .string t] w fun e w' => e = .returned (.int .i64 (Lib.index s.data.toList t.data.toList)) ∧ w = w' := by
  obtain ⟨m, hm⟩ := h
  exact (Tryd.strings_Index s t m w hs hm).mono fun e w' h => ⟨h.1, h.2.symm⟩

set_option maxHeartbeats 8000000 in
set_option maxRecDepth 100000 in
theorem tokens_any (s : ByteArray) (hs : s.size ≤ 70000) (w : World) (hm : Mx w) : Calls Tryd.prog 12 #[.string s] w (TokensQ s.data.toList w) := by
  obtain ⟨i0, hi, hz0, hz1, hz2⟩ := info_partsB info_tok
  have hz := ba_size s
  have M := hidB hm
  clear hm
  by_cases hbig : 65536 < s.size
  · have hl : lexR s.data.toList = ([], 0, 3) := by unfold lexR; rw [if_pos (by rw [← hz]; exact hbig)]
    have HL := hidB hl
    have hx : (65536 : Int) < (s.size : Int) := by omega
    clear hl hz
    go_enter Tryd.func12, Tryd.ntmps12
    go_wp2_with fail
    go_step3
    go_wp2_with fail
    try rw [Exit.noGoto_ret]
    go_ret3
    exact ⟨.slice none 0 0, [], by rw [HL.out]; rfl, row_nil _ _, by rw [HL.out]; trivial, Below.refl _ _⟩
  · have hl : lexR s.data.toList = lexGo (s.data.toList.length + 1) s.data.toList 0 [] := by unfold lexR; rw [if_neg (by rw [← hz]; exact hbig)]
    have HL := hidB hl
    have hx : ¬ (65536 : Int) < (s.size : Int) := by omega
    have HZ := hidB hz
    clear hl hz
    go_enter Tryd.func12, Tryd.ntmps12
    go_wp2_with fail
    go_step3
    go_wp2_with fail
    go_step3
    go_wp2_with fail
    go_loopw [5, 6] (fun v a wr => ∃ p : Nat, p ≤ s.size ∧ a = .int .i64 p ∧ LexAt s.data.toList w v p wr) (fun _ a _ => s.size - (intOf a).toNat)
    case atStart => exact ⟨0, Nat.zero_le _, rfl, [], [], _, row_nil _ _, trivial, Nat.zero_le _, HL.out, by omega, Below.refl _ _⟩
    case round =>
      clear HL
      obtain ⟨p, hp, rfl, cs, acc, f, hr, hmt, ha, hgo, hf, hb⟩ := hrel
      obtain ⟨g, rfl⟩ : ∃ g, f = g + 1 := ⟨f - 1, by have := HZ.out; omega⟩
      have RT := hidB hr
      have MT := hidB hmt
      have AC := hidB ha
      have GO := hidB hgo
      have LF := hidB hf
      have Bt := hidB hb
      clear hr hmt ha hgo hf hb
      obtain ⟨vb, vc, rfl⟩ := row_form RT.out
      have hcl : cs.length ≤ 16384 := by have := mts_length MT.out; have := AC.out; omega
      by_cases hlt : p < s.size
      · go_upto_region 7 with fail
        have hrd : (s.extract p s.size).data.toList = s.data.toList.drop p := Lib.extract_to_end s p
        have hrs : (s.extract p s.size).size = s.size - p := by rw [ba_size, hrd, List.length_drop, ← HZ.out]
        generalize s.extract p s.size = r at *
        have hr0 : 0 < r.size := by omega
        have hrx : r.size ≤ 70000 := by omega
        have hl0 : 0 < (s.data.toList.drop p).length := by rw [← hrd, ← ba_size]; exact hr0
        have e0 : r[0] = (s.data.toList.drop p)[0] := ba_at r _ hrd 0 hr0 hl0
        have TOK := hidB (fun W h => token_any r hr0 hrx W h)
        have P1 : Hid (∀ W, Calls Tryd.prog 33 #[.string r, .string ⟨#[47, 47]⟩] W fun e w' => e = .returned (.bool (slash (s.data.toList.drop p) 47)) ∧ W = w') := hidB (fun W => by have h := prefix_any r ⟨#[47, 47]⟩ W; rw [hrd] at h; exact h)
        have P2 : Hid (∀ W, Calls Tryd.prog 33 #[.string r, .string ⟨#[47, 42]⟩] W fun e w' => e = .returned (.bool (slash (s.data.toList.drop p) 42)) ∧ W = w') := hidB (fun W => by have h := prefix_any r ⟨#[47, 42]⟩ W; rw [hrd] at h; exact h)
        have LN := hidB (fun W h => line_any r (by omega) W h)
        have IX := hidB (fun W h => index_any (r.extract 2 r.size) ⟨#[42, 47]⟩ (by have := ba_size (r.extract 2 r.size); rw [Lib.extract_to_end, List.length_drop, ← ba_size] at this; omega) W h)
        rw [Lib.extract_to_end] at IX
        rw [hrd] at TOK LN IX
        have hrl : r.size = (s.data.toList.drop p).length := by rw [← hrd, ba_size]
        obtain ⟨c, hc⟩ : ∃ c, r[0] = c := ⟨_, rfl⟩
        have hcl0 : (s.data.toList.drop p)[0] = c := by rw [← e0]; exact hc
        have HC := hidB hc
        have CL := hidB hcl0
        have RL := hidB hrl
        have RS := hidB hrs
        clear hrd e0 hc hcl0 hrl hrs
        have b9 : ((r[0].toNat : Int) == 9) = decide (c.toNat = 9) := by rw [HC.out, Bool.eq_iff_iff, beq_iff_eq, decide_eq_true_eq]; omega
        have b10 : ((r[0].toNat : Int) == 10) = decide (c.toNat = 10) := by rw [HC.out, Bool.eq_iff_iff, beq_iff_eq, decide_eq_true_eq]; omega
        have b13 : ((r[0].toNat : Int) == 13) = decide (c.toNat = 13) := by rw [HC.out, Bool.eq_iff_iff, beq_iff_eq, decide_eq_true_eq]; omega
        have b32 : ((r[0].toNat : Int) == 32) = decide (c.toNat = 32) := by rw [HC.out, Bool.eq_iff_iff, beq_iff_eq, decide_eq_true_eq]; omega
        have b47 : ((r[0].toNat : Int) == 47) = decide (c.toNat = 47) := by rw [HC.out, Bool.eq_iff_iff, beq_iff_eq, decide_eq_true_eq]; omega
        have LL := hidB (show (s.data.toList.drop p).length + p = s.data.toList.length by rw [List.length_drop, ← HZ.out]; omega)
        have MW := hidB (mx_below M.out Bt.out)
        by_cases hbl : isBl c = true
        · have HH := hidB (headR_blank hl0 (by rw [CL.out]; exact hbl))
          rcases (isBl_iff c).1 hbl with h | h | h | h
          · replace b9 : ((r[0].toNat : Int) == 9) = true := by rw [b9]; exact decide_eq_true (by omega)
            replace b10 : ((r[0].toNat : Int) == 10) = false := by rw [b10]; exact decide_eq_false (by omega)
            replace b13 : ((r[0].toNat : Int) == 13) = false := by rw [b13]; exact decide_eq_false (by omega)
            replace b32 : ((r[0].toNat : Int) == 32) = false := by rw [b32]; exact decide_eq_false (by omega)
            replace b47 : ((r[0].toNat : Int) == 47) = false := by rw [b47]; exact decide_eq_false (by omega)
            clear h hbl
            go_wp2_with fail
            go_roundw
            case rel => exact ⟨p + 1, by omega, by go_num, lexAt_skip RT.out MT.out AC.out GO.out LF.out Bt.out hl0 HH.out (by omega) id Bt.out⟩
            case measure => simp [intOf]; omega
          · replace b9 : ((r[0].toNat : Int) == 9) = false := by rw [b9]; exact decide_eq_false (by omega)
            replace b10 : ((r[0].toNat : Int) == 10) = true := by rw [b10]; exact decide_eq_true (by omega)
            replace b13 : ((r[0].toNat : Int) == 13) = false := by rw [b13]; exact decide_eq_false (by omega)
            replace b32 : ((r[0].toNat : Int) == 32) = false := by rw [b32]; exact decide_eq_false (by omega)
            replace b47 : ((r[0].toNat : Int) == 47) = false := by rw [b47]; exact decide_eq_false (by omega)
            clear h hbl
            go_wp2_with fail
            go_roundw
            case rel => exact ⟨p + 1, by omega, by go_num, lexAt_skip RT.out MT.out AC.out GO.out LF.out Bt.out hl0 HH.out (by omega) id Bt.out⟩
            case measure => simp [intOf]; omega
          · replace b9 : ((r[0].toNat : Int) == 9) = false := by rw [b9]; exact decide_eq_false (by omega)
            replace b10 : ((r[0].toNat : Int) == 10) = false := by rw [b10]; exact decide_eq_false (by omega)
            replace b13 : ((r[0].toNat : Int) == 13) = true := by rw [b13]; exact decide_eq_true (by omega)
            replace b32 : ((r[0].toNat : Int) == 32) = false := by rw [b32]; exact decide_eq_false (by omega)
            replace b47 : ((r[0].toNat : Int) == 47) = false := by rw [b47]; exact decide_eq_false (by omega)
            clear h hbl
            go_wp2_with fail
            go_roundw
            case rel => exact ⟨p + 1, by omega, by go_num, lexAt_skip RT.out MT.out AC.out GO.out LF.out Bt.out hl0 HH.out (by omega) id Bt.out⟩
            case measure => simp [intOf]; omega
          · replace b9 : ((r[0].toNat : Int) == 9) = false := by rw [b9]; exact decide_eq_false (by omega)
            replace b10 : ((r[0].toNat : Int) == 10) = false := by rw [b10]; exact decide_eq_false (by omega)
            replace b13 : ((r[0].toNat : Int) == 13) = false := by rw [b13]; exact decide_eq_false (by omega)
            replace b32 : ((r[0].toNat : Int) == 32) = true := by rw [b32]; exact decide_eq_true (by omega)
            replace b47 : ((r[0].toNat : Int) == 47) = false := by rw [b47]; exact decide_eq_false (by omega)
            clear h hbl
            go_wp2_with fail
            go_roundw
            case rel => exact ⟨p + 1, by omega, by go_num, lexAt_skip RT.out MT.out AC.out GO.out LF.out Bt.out hl0 HH.out (by omega) id Bt.out⟩
            case measure => simp [intOf]; omega
        · have hbl' : isBl c = false := by simpa using hbl
          have BL : Hid (isBl (s.data.toList.drop p)[0] = false) := hidB (by rw [CL.out]; exact hbl')
          have hn : ¬ (c.toNat = 9 ∨ c.toNat = 10 ∨ c.toNat = 13 ∨ c.toNat = 32) := fun h => hbl ((isBl_iff c).2 h)
          replace b9 : ((r[0].toNat : Int) == 9) = false := by rw [b9]; exact decide_eq_false (by omega)
          replace b10 : ((r[0].toNat : Int) == 10) = false := by rw [b10]; exact decide_eq_false (by omega)
          replace b13 : ((r[0].toNat : Int) == 13) = false := by rw [b13]; exact decide_eq_false (by omega)
          replace b32 : ((r[0].toNat : Int) == 32) = false := by rw [b32]; exact decide_eq_false (by omega)
          clear hn hbl hbl'
          by_cases h47 : c.toNat = 47
          · replace b47 : ((r[0].toNat : Int) == 47) = true := by rw [b47]; exact decide_eq_true h47
            clear h47
            cases hs1 : slash (s.data.toList.drop p) 47
            · rw [hs1] at P1
              cases hs2 : slash (s.data.toList.drop p) 42
              · rw [hs2] at P2
                have HH := hidB (headR_tok hl0 BL.out hs1 hs2)
                clear hs1 hs2
                go_wp2_with fail
                refine (P1.out _).mono ?_; rintro e w3 ⟨rfl, rfl⟩
                go_wp2_with fail
                refine (P2.out _).mono ?_; rintro e w3 ⟨rfl, rfl⟩
                go_wp2_with fail
                refine (TOK.out _ MW.out).mono ?_; rintro e w3 ⟨ka, kb, kc, rfl, hk, hb3⟩
                have R3 := hidB (row_below RT.out hb3)
                have B3 := hidB (grow Bt.out hb3)
                have HK := hidB hk
                clear hb3 hk
                cases hok : (tokR (s.data.toList.drop p)).ok
                · have HU := hidB (lexGo_bad hl0 HH.out hok g p acc)
                  have hnb : (tokR (s.data.toList.drop p)).n ≤ 70001 := by
                    have := bad_small (s.data.toList.drop p) hok
                    rw [← RL.out] at this; omega
                  have HU2 : Hid (lexR s.data.toList = ([], p + (tokR (s.data.toList.drop p)).n, 5)) := hidB (by rw [GO.out, HU.out])
                  clear hok HU
                  generalize (tokR (s.data.toList.drop p)).n = tn at *
                  go_wp2_with fail
                  try rw [Exit.noGoto_ret]
                  go_ret3
                  exact ⟨.slice none 0 0, [], by rw [HU2.out]; exact three_eq _ _ (show (p : Int) + (tn : Int) = ((p + tn : Nat) : Int) by omega), row_nil _ _, by rw [HU2.out]; trivial, B3.out.alloc B3.out.size _⟩
                · have hbd := tokR_bounds hl0 hok
                  have HM := hidB (fun ha => (GO.out.trans (lexGo_many hl0 HH.out hok g p acc ha)))
                  have HT := hidB (fun ha => (GO.out.trans (lexGo_tok hl0 HH.out hok g p acc ha)))
                  have HK2 := hidB (HK.out hok)
                  have hbd2 := hbd.2
                  rw [← RL.out] at hbd2
                  have hbd3 := RS.out
                  clear hok HK
                  generalize hTR : tokR (s.data.toList.drop p) = tr at *
                  obtain ⟨tok, tk, ttext, tnum, tn⟩ := tr
                  simp only at HM HT HK2 hbd hbd2 ⊢
                  have HTR := hidB hTR
                  clear hTR
                  have hbd1 := hbd.1
                  have hn1 : tn ≤ 70000 := by omega
                  have HP := hidB (show p + tn ≤ s.size by omega)
                  have HP1 := hidB hbd1
                  clear hbd hbd2 hbd3 hbd1
                  by_cases hfull : cs.length = 16384
                  · have HU := hidB (HM.out (by rw [mts_length MT.out]; exact hfull))
                    have hx3 : ((cs.length : Int) == 16384) = true := by rw [beq_iff_eq]; omega
                    clear hfull
                    go_wp2_with fail
                    try rw [Exit.noGoto_ret]
                    go_ret3
                    exact ⟨.slice none 0 0, [], by rw [HU.out]; rfl, row_nil _ _, by rw [HU.out]; trivial, B3.out.alloc B3.out.size _⟩
                  · have HU := hidB (HT.out (by rw [mts_length MT.out]; exact hfull))
                    have hx3 : ((cs.length : Int) == 16384) = false := by rw [beq_eq_false_iff_ne]; omega
                    have L3 := hidB (show cs.length + 1 ≤ maxLen by unfold maxLen; omega)
                    have L4 := hidB (show (cs.length + 1) * 40 ≤ 140737488355328 by omega)
                    have LA := hidB (show acc.length + 1 ≤ 16384 by rw [mts_length MT.out]; omega)
                    clear hfull
                    have HX := hidB (R3.out.alloc (.cells #[.int .u8 ka, .int .i64 p, .string kb, .float .f64 kc] 25))
                    have BX := hidB (B3.out.alloc B3.out.size (.cells #[.int .u8 ka, .int .i64 p, .string kb, .float .f64 kc] 25))
                    go_wp2_with (first | (at_builtin; refine wpList_append_own _ (by rfl) _ _ 22 (by rfl) w.heap.size 25 i0 _ 4 40 Tryd.underlying22 hi hz0 hz1 hz2 rfl (by decide) _ _ _ (by rfl) (HX.out.alloc _) ⟨w3.heap.size + 1, 0, none⟩ 1 1 (TC.cells ⟨ka, p, kb, kc⟩) (by rfl) (by rfl) (cells_at (w3.alloc (.cells #[.int .u8 ka, .int .i64 p, .string kb, .float .f64 kc] 25)) (TC.cells ⟨ka, p, kb, kc⟩) _ _ (by simp)) (tc_ones _) L3.out L4.out (Nat.le_trans BX.out.size (by simp)) ?_))
                    intro v' w5 hown' hgrow _
                    have RT5 := hidB (row_more (c := ⟨ka, p, kb, kc⟩) hown' rfl rfl)
                    have B5 := hidB (grown_below HX.out BX.out hgrow)
                    clear hown' hgrow
                    go_wp2_with fail
                    go_roundw
                    case rel => exact ⟨p + tn, HP.out, by go_num, _, acc ++ [⟨tk, p, ttext, tnum⟩], g, RT5.out, mts_snoc MT.out ⟨HK2.out.1, rfl, HK2.out.2.1, HK2.out.2.2⟩, by rw [List.length_append]; exact LA.out, by rw [HU.out, List.drop_drop], by have := LF.out; have := HP1.out; omega, B5.out⟩
                    case measure =>
                      have := HP.out
                      have := HP1.out
                      simp [intOf]; omega
              · rw [hs2] at P2
                have HN := hidB (headR_note hl0 BL.out hs1 hs2)
                have h2 : 2 ≤ r.size := by
                  rw [RL.out]
                  unfold slash Lib.hasPrefix at hs2
                  rw [List.isPrefixOf_iff_prefix] at hs2
                  exact hs2.length_le
                clear hs1 hs2
                have hg := Lib.index_ge ((s.data.toList.drop p).drop 2) [42, 47]
                have hroom := Lib.index_room ((s.data.toList.drop p).drop 2) [42, 47]
                rw [List.length_drop, ← RL.out] at hroom
                have IX2 : Hid (∀ W, Mx W → Calls Tryd.prog 35 #[.string (r.extract 2 r.size), .string ⟨#[42, 47]⟩] W fun e w' => e = .returned (.int .i64 (Lib.index ((s.data.toList.drop p).drop 2) [42, 47])) ∧ W = w') := IX
                clear IX
                generalize Lib.index ((s.data.toList.drop p).drop 2) [42, 47] = ix at *
                simp only [List.length_cons, List.length_nil] at hroom
                have hx2 : (2 : Int) ≤ (r.size : Int) := by omega
                by_cases hix : ix < 0
                · have HU : Hid (lexR s.data.toList = ([], p, 5)) := hidB (by rw [GO.out]; exact lexGo_unclosed hl0 (by rw [HN.out, if_neg (by omega)]) _ _ _)
                  clear hroom hg
                  go_wp2_with fail
                  refine (P1.out _).mono ?_; rintro e w3 ⟨rfl, rfl⟩
                  go_wp2_with fail
                  refine (P2.out _).mono ?_; rintro e w3 ⟨rfl, rfl⟩
                  go_wp2_with fail
                  refine (IX2.out _ MW.out).mono ?_; rintro e w3 ⟨rfl, rfl⟩
                  go_wp2_with fail
                  try rw [Exit.noGoto_ret]
                  go_ret3
                  exact ⟨.slice none 0 0, [], by rw [HU.out]; rfl, row_nil _ _, by rw [HU.out]; trivial, Bt.out⟩
                · have h0x : 0 ≤ ix := by omega
                  have hrm := hroom h0x
                  have HU : Hid (headR (s.data.toList.drop p) = .skip (ix.toNat + 4)) := hidB (by rw [HN.out, if_pos h0x])
                  have hrs2 := RS.out
                  obtain ⟨j, rfl⟩ := Int.eq_ofNat_of_zero_le h0x
                  simp only [Int.toNat_natCast] at HU
                  have HJ := hidB (show p + (j + 4) ≤ s.size by omega)
                  have hj : j ≤ 70000 := by omega
                  clear hroom hg hrm hrs2 h0x hix HN
                  go_wp2_with fail
                  refine (P1.out _).mono ?_; rintro e w3 ⟨rfl, rfl⟩
                  go_wp2_with fail
                  refine (P2.out _).mono ?_; rintro e w3 ⟨rfl, rfl⟩
                  go_wp2_with fail
                  refine (IX2.out _ MW.out).mono ?_; rintro e w3 ⟨rfl, rfl⟩
                  go_wp2_with fail
                  go_roundw
                  case rel => exact ⟨p + (j + 4), HJ.out, congrArg (fun k => Value.int .i64 k) (by omega), lexAt_skip RT.out MT.out AC.out GO.out LF.out Bt.out hl0 HU.out (by omega) id Bt.out⟩
                  case measure =>
                    have := HJ.out
                    simp [intOf]; omega
            · rw [hs1] at P1
              have HH := hidB (headR_line hl0 BL.out hs1)
              have TP := hidB (takeWhile_pos hl0 BL.out)
              have TL := hidB (List.takeWhile_sublist (· != 10) (l := s.data.toList.drop p)).length_le
              clear hs1
              go_wp2_with fail
              refine (P1.out _).mono ?_; rintro e w3 ⟨rfl, rfl⟩
              go_wp2_with fail
              refine (LN.out _ MW.out).mono ?_; rintro e w3 ⟨⟨la, lb, fl, rfl, hla⟩, nd, rfl⟩
              have TL2 := TL.out
              rw [← hla, ← RL.out] at TL2
              have hla2 : la.size ≤ 70000 := by omega
              have HLA := hidB (show p + la.size ≤ s.size by have := RS.out; omega)
              have HU : Hid (headR (s.data.toList.drop p) = .skip la.size) := hidB (by rw [HH.out, hla])
              have TP2 := hidB (show 0 < la.size by rw [hla]; exact TP.out)
              clear TL2 hla
              go_wp2_with fail
              go_roundw
              case rel => exact ⟨p + la.size, HLA.out, by go_num, lexAt_skip RT.out MT.out AC.out GO.out LF.out Bt.out hl0 HU.out TP2.out (fun h => h) (below_drewL Bt.out _)⟩
              case measure =>
                have := HLA.out
                have := TP2.out
                simp [intOf]; omega
          · replace b47 : ((r[0].toNat : Int) == 47) = false := by rw [b47]; exact decide_eq_false h47
            have hne : (s.data.toList.drop p)[0] ≠ 47 := by rw [CL.out]; rintro rfl; exact h47 rfl
            have HH := hidB (headR_tok hl0 BL.out (slash_first hl0 hne 47) (slash_first hl0 hne 42))
            clear h47 hne
            go_wp2_with fail
            refine (TOK.out _ MW.out).mono ?_; rintro e w3 ⟨ka, kb, kc, rfl, hk, hb3⟩
            have R3 := hidB (row_below RT.out hb3)
            have B3 := hidB (grow Bt.out hb3)
            have HK := hidB hk
            clear hb3 hk
            cases hok : (tokR (s.data.toList.drop p)).ok
            · have HU := hidB (lexGo_bad hl0 HH.out hok g p acc)
              have hnb : (tokR (s.data.toList.drop p)).n ≤ 70001 := by
                have := bad_small (s.data.toList.drop p) hok
                rw [← RL.out] at this; omega
              have HU2 : Hid (lexR s.data.toList = ([], p + (tokR (s.data.toList.drop p)).n, 5)) := hidB (by rw [GO.out, HU.out])
              clear hok HU
              generalize (tokR (s.data.toList.drop p)).n = tn at *
              go_wp2_with fail
              try rw [Exit.noGoto_ret]
              go_ret3
              exact ⟨.slice none 0 0, [], by rw [HU2.out]; exact three_eq _ _ (show (p : Int) + (tn : Int) = ((p + tn : Nat) : Int) by omega), row_nil _ _, by rw [HU2.out]; trivial, B3.out.alloc B3.out.size _⟩
            · have hbd := tokR_bounds hl0 hok
              have HM := hidB (fun ha => (GO.out.trans (lexGo_many hl0 HH.out hok g p acc ha)))
              have HT := hidB (fun ha => (GO.out.trans (lexGo_tok hl0 HH.out hok g p acc ha)))
              have HK2 := hidB (HK.out hok)
              have hbd2 := hbd.2
              rw [← RL.out] at hbd2
              have hbd3 := RS.out
              clear hok HK
              generalize hTR : tokR (s.data.toList.drop p) = tr at *
              obtain ⟨tok, tk, ttext, tnum, tn⟩ := tr
              simp only at HM HT HK2 hbd hbd2 ⊢
              have HTR := hidB hTR
              clear hTR
              have hbd1 := hbd.1
              have hn1 : tn ≤ 70000 := by omega
              have HP := hidB (show p + tn ≤ s.size by omega)
              have HP1 := hidB hbd1
              clear hbd hbd2 hbd3 hbd1
              by_cases hfull : cs.length = 16384
              · have HU := hidB (HM.out (by rw [mts_length MT.out]; exact hfull))
                have hx3 : ((cs.length : Int) == 16384) = true := by rw [beq_iff_eq]; omega
                clear hfull
                go_wp2_with fail
                try rw [Exit.noGoto_ret]
                go_ret3
                exact ⟨.slice none 0 0, [], by rw [HU.out]; rfl, row_nil _ _, by rw [HU.out]; trivial, B3.out.alloc B3.out.size _⟩
              · have HU := hidB (HT.out (by rw [mts_length MT.out]; exact hfull))
                have hx3 : ((cs.length : Int) == 16384) = false := by rw [beq_eq_false_iff_ne]; omega
                have L3 := hidB (show cs.length + 1 ≤ maxLen by unfold maxLen; omega)
                have L4 := hidB (show (cs.length + 1) * 40 ≤ 140737488355328 by omega)
                have LA := hidB (show acc.length + 1 ≤ 16384 by rw [mts_length MT.out]; omega)
                clear hfull
                have HX := hidB (R3.out.alloc (.cells #[.int .u8 ka, .int .i64 p, .string kb, .float .f64 kc] 25))
                have BX := hidB (B3.out.alloc B3.out.size (.cells #[.int .u8 ka, .int .i64 p, .string kb, .float .f64 kc] 25))
                go_wp2_with (first | (at_builtin; refine wpList_append_own _ (by rfl) _ _ 22 (by rfl) w.heap.size 25 i0 _ 4 40 Tryd.underlying22 hi hz0 hz1 hz2 rfl (by decide) _ _ _ (by rfl) (HX.out.alloc _) ⟨w3.heap.size + 1, 0, none⟩ 1 1 (TC.cells ⟨ka, p, kb, kc⟩) (by rfl) (by rfl) (cells_at (w3.alloc (.cells #[.int .u8 ka, .int .i64 p, .string kb, .float .f64 kc] 25)) (TC.cells ⟨ka, p, kb, kc⟩) _ _ (by simp)) (tc_ones _) L3.out L4.out (Nat.le_trans BX.out.size (by simp)) ?_))
                intro v' w5 hown' hgrow _
                have RT5 := hidB (row_more (c := ⟨ka, p, kb, kc⟩) hown' rfl rfl)
                have B5 := hidB (grown_below HX.out BX.out hgrow)
                clear hown' hgrow
                go_wp2_with fail
                go_roundw
                case rel => exact ⟨p + tn, HP.out, by go_num, _, acc ++ [⟨tk, p, ttext, tnum⟩], g, RT5.out, mts_snoc MT.out ⟨HK2.out.1, rfl, HK2.out.2.1, HK2.out.2.2⟩, by rw [List.length_append]; exact LA.out, by rw [HU.out, List.drop_drop], by have := LF.out; have := HP1.out; omega, B5.out⟩
                case measure =>
                  have := HP.out
                  have := HP1.out
                  simp [intOf]; omega
      · obtain rfl : p = s.size := by omega
        have HE : Hid (lexR s.data.toList = (acc ++ [⟨0, s.size, [], 0⟩], 0, 0)) := hidB (by rw [GO.out, List.drop_eq_nil_of_le (by rw [← HZ.out]; exact Nat.le_refl _), lexGo_nil])
        have L3 := hidB (show cs.length + 1 ≤ maxLen by unfold maxLen; omega)
        have L4 := hidB (show (cs.length + 1) * 40 ≤ 140737488355328 by omega)
        go_wp2_with (first | (at_builtin; refine wpList_append_own _ (by rfl) _ _ 22 (by rfl) w.heap.size 25 i0 _ 4 40 Tryd.underlying22 hi hz0 hz1 hz2 rfl (by decide) _ _ _ (by rfl) (RT.out.alloc _) ⟨wr.heap.size, 0, none⟩ 1 1 (TC.cells ⟨0, s.size, ⟨#[]⟩, 0⟩) (by rfl) (by rfl) (cells_new wr (TC.cells ⟨0, s.size, ⟨#[]⟩, 0⟩) _) (tc_ones _) L3.out L4.out (Nat.le_trans Bt.out.size (by simp)) ?_))
        intro v' w5 hown' hgrow _
        have RT5 := hidB (row_more (c := ⟨0, s.size, ⟨#[]⟩, 0⟩) hown' rfl rfl)
        have B5 := hidB (grown_below RT.out Bt.out hgrow)
        clear hown' hgrow
        go_wp2_with fail
        try rw [Exit.noGoto_ret]
        go_ret3
        exact ⟨v', _, by rw [HE.out]; rfl, RT5.out, by rw [HE.out]; exact mts_snoc MT.out ⟨rfl, rfl, rfl, Fl.is_0⟩, B5.out⟩

end Go.Proofs.YtkomjmgmancinaaDoor
