/-
  The walk of the statement LexNames: the limits, the errors, the chapter's examples.
-/
import Derived.Test.YtkomjmgmancinaaDoorWrongWalk
import Derived.Test.YtkomjmgmancinaaDoorOnlyWalk
import Derived.Test.YtkomjmgmancinaaDoorAliveT
import Derived.Test.YtkomjmgmancinaaDoorRdTok
namespace Go.Proofs.YtkomjmgmancinaaDoor
open Go.RowKit

theorem lex_n1 : lexR [97, 62, 62, 62, 61, 98] = ([⟨1, 0, [97], 0⟩, ⟨5, 1, [62, 62, 62], 0⟩, ⟨5, 4, [61], 0⟩, ⟨1, 5, [98], 0⟩, ⟨0, 6, [], 0⟩], 0, 0) := by decide +kernel
theorem lex_n2 : lexR [97, 61, 61, 61, 98] = ([⟨1, 0, [97], 0⟩, ⟨5, 1, [61, 61, 61], 0⟩, ⟨1, 4, [98], 0⟩, ⟨0, 5, [], 0⟩], 0, 0) := by decide +kernel
theorem lex_o1 : lexR [97, 47, 42, 98, 42, 47, 32, 47, 47, 32, 99] = ([⟨1, 0, [97], 0⟩, ⟨0, 11, [], 0⟩], 0, 0) := by decide +kernel
theorem lex_o2 : lexR [39, 97, 92, 34, 98, 39] = ([⟨4, 0, [97, 34, 98], 0⟩, ⟨0, 6, [], 0⟩], 0, 0) := by decide +kernel
theorem lex_o3 : lexR [34, 92, 120, 52, 49, 34] = ([⟨4, 0, [65], 0⟩, ⟨0, 6, [], 0⟩], 0, 0) := by decide +kernel
theorem lex_w1 : lexR [48, 49] = ([], 0, 5) := by decide +kernel
theorem lex_w2 : lexR [49, 97] = ([], 0, 5) := by decide +kernel
theorem lex_w3 : lexR [57, 48, 48, 55, 49, 57, 57, 50, 53, 52, 55, 52, 48, 57, 57, 50] = ([], 0, 5) := by decide +kernel
theorem lex_w4 : lexR [34, 97] = ([], 0, 5) := by decide +kernel
theorem lex_w5 : lexR [47, 42] = ([], 0, 5) := by decide +kernel
theorem lex_w6 : lexR [97, 35] = ([], 1, 5) := by decide +kernel
theorem lex_w7 : lexR [34, 97, 92, 113, 34] = ([], 2, 5) := by decide +kernel
def letx : List TI := [⟨2, 0, ⟨#[108, 101, 116]⟩, 0⟩, ⟨1, 0, ⟨#[120]⟩, 0⟩, ⟨0, 0, ⟨#[]⟩, 0⟩]
theorem write_letx : writeR letx = ([108, 101, 116, 32, 120], 0) := by decide +kernel
theorem letx_small : ∀ i (h : i < letx.length), letx[i].text.size ≤ 140737488351232 := by
  intro i h
  have : i = 0 ∨ i = 1 ∨ i = 2 := by (have : letx.length = 3 := rfl); omega
  rcases this with rfl | rfl | rfl
  · exact (by decide : (3 : Nat) ≤ 140737488351232)
  · exact (by decide : (1 : Nat) ≤ 140737488351232)
  · exact (by decide : (0 : Nat) ≤ 140737488351232)
theorem words_n : wordB [116, 121, 112, 101, 111, 102] = true ∧ wordB [111, 102] = false ∧ signB [62, 62, 62] = true ∧ signB [61, 62] = false := by decide +kernel

set_option maxHeartbeats 4000000 in
set_option maxRecDepth 100000 in
theorem law_names (w : World) (hm : Mx w) (ht : Tab w) : Calls Tryd.prog 6 #[] w fun e w' => e = .returned (.bool true) ∧ Below w.heap.size w w' := by
  have TA := hidB (fun W h => tokens_any ⟨#[97, 62, 62, 62, 61, 98]⟩ (by decide) W h)
  unfold TokensQ at TA
  rw [show (⟨#[97, 62, 62, 62, 61, 98]⟩ : ByteArray).data.toList = [97, 62, 62, 62, 61, 98] from rfl, lex_n1] at TA
  simp only at TA
  have TB := hidB (fun W h => tokens_any ⟨#[97, 61, 61, 61, 98]⟩ (by decide) W h)
  unfold TokensQ at TB
  rw [show (⟨#[97, 61, 61, 61, 98]⟩ : ByteArray).data.toList = [97, 61, 61, 61, 98] from rfl, lex_n2] at TB
  simp only at TB
  have M := hidB hm
  have TT := hidB ht
  clear hm ht
  go_enter Tryd.func6, Tryd.ntmps6
  go_wp2_with fail
  refine (TA.out _ M.out).mono ?_; rintro e w1 ⟨v1, c1, rfl, hr1, hm1, hb1⟩
  have B1 := hidB hb1
  have R1 := hidB hr1
  have N1 := hidB hm1
  have M1 := hidB (mx_below M.out hb1)
  clear hb1 hr1 hm1
  go_wp2_with fail
  refine (TB.out _ M1.out).mono ?_; rintro e w2 ⟨v2, c2, rfl, hr2, hm2, hb2⟩
  have B2 := hidB (B1.out.trans (hb2.mono B1.out.size))
  have hr1 : RowT w.heap.size c1 v1 w2 := row_below R1.out hb2
  have hm1 := N1.out
  clear R1 N1
  obtain ⟨pa, xa, rfl, hpa⟩ := rowT_form hr1
  obtain ⟨pb, xb, rfl, hpb⟩ := rowT_form hr2
  have hlen1 := mts_length hm1
  have hlen2 := mts_length hm2
  simp only [List.length_cons, List.length_nil] at hlen1 hlen2
  obtain ⟨ga, rfl⟩ := hpa (by omega)
  obtain ⟨gb, rfl⟩ := hpb (by omega)
  have a1 : c1[1].text = ⟨#[62, 62, 62]⟩ := text_eq rfl (by simpa using (mts_get hm1 1 (by simp) (by omega)).2.2.1)
  have a2 : c1[2].text = ⟨#[61]⟩ := text_eq rfl (by simpa using (mts_get hm1 2 (by simp) (by omega)).2.2.1)
  have b1 : c2[1].text = ⟨#[61, 61, 61]⟩ := text_eq rfl (by simpa using (mts_get hm2 1 (by simp) (by omega)).2.2.1)
  have l1 := (tok_loads hr1 1 (by omega)).2.2.1
  have l2 := (tok_loads hr1 2 (by omega)).2.2.1
  have l3 := (tok_loads hr2 1 (by omega)).2.2.1
  rw [a1] at l1
  rw [a2] at l2
  rw [b1] at l3
  rw [← hlen1, ← hlen2]
  have L1 := hidB l1
  have L2 := hidB l2
  have L3 := hidB l3
  simp only [Nat.one_mul] at l1 l2 l3
  clear hpa hpb hr1 hr2 hm1 hm2 hb2 a1 a2 b1 hlen1 hlen2
  have M0 := hidB (mx_below M.out B2.out)
  have T0 := hidB (tab_on TT.out B2.out)
  clear M1 TA TB M TT L1 L2 L3
  have K0 := B2
  go_wp2_with fail
  refine (only_any _ _ (by decide) 1 _ _ lex_o1 rfl rfl _ M0.out).mono ?_; rintro e x1 ⟨rfl, hb⟩
  have K1 := hidB (K0.out.trans (hb.mono K0.out.size))
  have M1 := hidB (mx_below M0.out hb)
  have T1 := hidB (tab_on T0.out hb)
  clear hb
  go_wp2_with fail
  refine (only_any _ _ (by decide) 4 _ _ lex_o2 rfl rfl _ M1.out).mono ?_; rintro e x2 ⟨rfl, hb⟩
  have K2 := hidB (K1.out.trans (hb.mono K1.out.size))
  have M2 := hidB (mx_below M1.out hb)
  have T2 := hidB (tab_on T1.out hb)
  clear hb
  go_wp2_with fail
  refine (only_any _ _ (by decide) 4 _ _ lex_o3 rfl rfl _ M2.out).mono ?_; rintro e x3 ⟨rfl, hb⟩
  have K3 := hidB (K2.out.trans (hb.mono K2.out.size))
  have M3 := hidB (mx_below M2.out hb)
  have T3 := hidB (tab_on T2.out hb)
  clear hb
  go_wp2_with fail
  refine (wrong_any _ (by decide) 0 lex_w1 _ M3.out).mono ?_; rintro e x4 ⟨rfl, hb⟩
  have K4 := hidB (K3.out.trans (hb.mono K3.out.size))
  have M4 := hidB (mx_below M3.out hb)
  have T4 := hidB (tab_on T3.out hb)
  clear hb
  go_wp2_with fail
  refine (wrong_any _ (by decide) 0 lex_w2 _ M4.out).mono ?_; rintro e x5 ⟨rfl, hb⟩
  have K5 := hidB (K4.out.trans (hb.mono K4.out.size))
  have M5 := hidB (mx_below M4.out hb)
  have T5 := hidB (tab_on T4.out hb)
  clear hb
  go_wp2_with fail
  refine (wrong_any _ (by decide) 0 lex_w3 _ M5.out).mono ?_; rintro e x6 ⟨rfl, hb⟩
  have K6 := hidB (K5.out.trans (hb.mono K5.out.size))
  have M6 := hidB (mx_below M5.out hb)
  have T6 := hidB (tab_on T5.out hb)
  clear hb
  go_wp2_with fail
  refine (wrong_any _ (by decide) 0 lex_w4 _ M6.out).mono ?_; rintro e x7 ⟨rfl, hb⟩
  have K7 := hidB (K6.out.trans (hb.mono K6.out.size))
  have M7 := hidB (mx_below M6.out hb)
  have T7 := hidB (tab_on T6.out hb)
  clear hb
  go_wp2_with fail
  refine (wrong_any _ (by decide) 0 lex_w5 _ M7.out).mono ?_; rintro e x8 ⟨rfl, hb⟩
  have K8 := hidB (K7.out.trans (hb.mono K7.out.size))
  have M8 := hidB (mx_below M7.out hb)
  have T8 := hidB (tab_on T7.out hb)
  clear hb
  go_wp2_with fail
  refine (wrong_any _ (by decide) 1 lex_w6 _ M8.out).mono ?_; rintro e x9 ⟨rfl, hb⟩
  have K9 := hidB (K8.out.trans (hb.mono K8.out.size))
  have M9 := hidB (mx_below M8.out hb)
  have T9 := hidB (tab_on T8.out hb)
  clear hb
  go_wp2_with fail
  refine (wrong_any _ (by decide) 2 lex_w7 _ M9.out).mono ?_; rintro e x10 ⟨rfl, hb⟩
  have K10 := hidB (K9.out.trans (hb.mono K9.out.size))
  have M10 := hidB (mx_below M9.out hb)
  have T10 := hidB (tab_on T9.out hb)
  clear hb
  clear l1 l2 l3
  go_wp2_with (first | (refine wpList_build_to (by rfl) 25 #[(0, .const (.int .u8 2)), (2, .const (.string ⟨#[108, 101, 116]⟩))] (by rfl) #[.int .u8 2, .int .i64 0, .string ⟨#[108, 101, 116]⟩, .float .f64 0] (by kernel_rfl) ?_) | (refine wpList_build_to (by rfl) 25 #[(0, .const (.int .u8 1)), (2, .const (.string ⟨#[120]⟩))] (by rfl) #[.int .u8 1, .int .i64 0, .string ⟨#[120]⟩, .float .f64 0] (by kernel_rfl) ?_) | (refine wpList_build_to (by rfl) 25 #[] (by rfl) #[.int .u8 0, .int .i64 0, .string ⟨#[]⟩, .float .f64 0] (by kernel_rfl) ?_))
  have RD := hidB (rdT_new letx x10 #[.int .u8 2, .int .i64 0, .string ⟨#[108, 101, 116]⟩, .float .f64 0, .int .u8 1, .int .i64 0, .string ⟨#[120]⟩, .float .f64 0, .int .u8 0, .int .i64 0, .string ⟨#[]⟩, .float .f64 0] rfl 25 (by decide) 3 rfl)
  refine (lexText_any letx _ _ RD.out letx_small M10.out.alloc (tab_on T10.out (box_one _ _))).mono ?_
  rintro e x11 hq
  unfold TextQ at hq
  rw [write_letx] at hq
  obtain ⟨rfl, hb⟩ := hq
  have K11 := hidB (K10.out.trans (((box_one _ _).trans (hb.mono (by simp))).mono K10.out.size))
  have M11 := hidB (mx_below M10.out.alloc hb)
  clear hb RD
  go_wp2_with fail
  refine (lexText_none 0 none _).mono ?_
  rintro e x12 hq
  unfold TextQ at hq
  rw [show writeR [] = ([], 5) from rfl] at hq
  obtain ⟨rfl, hb⟩ := hq
  have K12 := hidB (K11.out.trans (hb.mono K11.out.size))
  have M12 := hidB (mx_below M11.out hb)
  clear hb
  go_wp2_with fail
  refine (alive_any _ M12.out).mono ?_; rintro e x13 ⟨rfl, hb⟩
  have K13 := hidB (K12.out.trans (hb.mono K12.out.size))
  have M13 := hidB (mx_below M12.out hb)
  clear hb
  have Q1 := hidB (fun W h => wordP_any ⟨#[116, 121, 112, 101, 111, 102]⟩ (by decide) W h)
  have Q2 := hidB (fun W h => wordP_any ⟨#[111, 102]⟩ (by decide) W h)
  have Q3 := hidB (fun W h => signP_any ⟨#[62, 62, 62]⟩ (by decide) W h)
  have Q4 := hidB (fun W h => signP_any ⟨#[61, 62]⟩ (by decide) W h)
  simp only [words_n.1, words_n.2.1, words_n.2.2.1, words_n.2.2.2] at Q1 Q2 Q3 Q4
  go_wp2_with fail
  refine (Q1.out _ M13.out).mono ?_; rintro e x14 ⟨rfl, rfl⟩
  go_wp2_with fail
  refine (Q2.out _ M13.out).mono ?_; rintro e x14 ⟨rfl, rfl⟩
  go_wp2_with fail
  refine (Q3.out _ M13.out).mono ?_; rintro e x14 ⟨rfl, rfl⟩
  go_wp2_with fail
  refine (Q4.out _ M13.out).mono ?_; rintro e x14 ⟨rfl, rfl⟩
  go_wp2_with fail
  go_ret
  exact ⟨rfl, K13.out⟩

end Go.Proofs.YtkomjmgmancinaaDoor
