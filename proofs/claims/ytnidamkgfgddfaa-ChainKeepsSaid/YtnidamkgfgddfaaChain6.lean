/-
  The chapter's small heaps: two, four; alive.
-/
import Derived.Test.YtnidamkgfgddfaaChainF
namespace Go.Proofs.Ytnidamkgfgddfaa
open Go.RowKit

def twoO : OJ := ⟨1, nullI, true, .slice none 0 0, ⟨0, 0, ⟨#[]⟩, 0⟩, ⟨0, 0, ⟨#[]⟩, 0⟩, ⟨#[]⟩, false, false⟩
def twoH : HI := [(twoO, []), (twoO, [])]
def threeH : HI := twoH ++ [(prxO twoH 0 1, [])]
def fourH : HI := threeH ++ [(prxO threeH 2 0, [])]
theorem twoH_ok : HOk twoH := fun e he => by
  simp only [twoH, List.mem_cons, List.not_mem_nil, or_false] at he
  rcases he with rfl | rfl <;> exact ⟨⟨(by decide : (0 : Int) ≤ 1), (by decide : (0 : Int) ≤ 1), Int.le_refl 0, Int.le_refl 0⟩, fun q hq => by cases hq⟩
theorem twoH_keys : HKeys twoH := fun e he => by
  simp only [twoH, List.mem_cons, List.not_mem_nil, or_false] at he
  rcases he with rfl | rfl <;> exact fun q hq => by cases hq
theorem threeH_ok : HOk threeH := twoH_ok.prx 0 1
theorem threeH_keys : HKeys threeH := twoH_keys.prx 0 1
theorem fourH_ok : HOk fourH := threeH_ok.prx 2 0
theorem fourH_keys : HKeys fourH := threeH_keys.prx 2 0
theorem FrB.setT {B : Nat} {H : HI} {v : Value} {w : World} (f : FrB B H v w) {q : Nat} {t : TypeId} {cs : Array Value} (hq : Bk w q t cs) (ht : t ≠ 65) (hto : t ≠ 49) (u : Value) : FrB B H v (w.setCell ⟨q, 0, none⟩ u) := by
  obtain ⟨h, e, f⟩ := f
  exact ⟨h, e, f.own.kept (set_grownH w _ _) (Or.inr (own_ne_typeH f.own (fun e => hto e.symm) hq)), fun e he => (f.props e he).far hq ht (Nat.zero_le _) (Nat.le_of_eq (by simp [World.setCell])) (fun b hb => Below.heap_setCell w _ _ b hb)⟩
theorem mk_two : mkE twoH 0 1 = 0 := by kernel_rfl
theorem mk_three : mkE threeH 2 0 = 0 := by kernel_rfl
theorem ask_four : askE fourH [3] = 0 := by kernel_rfl
theorem dwn_four : dwn fourH 3 = [2, 0] := by kernel_rfl
theorem cut_four : cutB fourH 3 = false := by kernel_rfl
theorem deep_four : deepV fourH 3 = 2 := by kernel_rfl

set_option maxHeartbeats 8000000 in
set_option maxRecDepth 100000 in
theorem two_any (w : World) : Calls Try.prog 7 #[] w fun e w' => ∃ v, e = .returned (.agg #[v]) ∧ FrB w.heap.size twoH v w' ∧ Below w.heap.size w w' := by
  have R := hidB (show Bk (w.alloc (.cells (#[.slice none 0 0]) 25)) (w.heap.size) 25 (#[.slice none 0 0]) from Bk.new w _ _)
  have B := hidB (show Below w.heap.size w (w.alloc (.cells (#[.slice none 0 0]) 25)) from box_one w _)
  go_enter Try.func7, Try.ntmps7
  go_upto_region 1 with fail
  generalize hW : (w.alloc (.cells (#[.slice none 0 0]) 25)) = w1 at *
  clear hW
  have X := hidB (show Bk (w1.alloc (.cells twoO.cs 49)) w1.heap.size 49 twoO.cs from Bk.new w1 _ _)
  have R2 := hidB (show Bk (w1.alloc (.cells twoO.cs 49)) w.heap.size 25 #[.slice none 0 0] from R.out.alloc _)
  have B2 := hidB (show Below w.heap.size w (w1.alloc (.cells twoO.cs 49)) from B.out.alloc B.out.size _)
  clear R B
  go_upto_region 2 with (first | ((with_reducible refine wpId ?_); refine wpList_build_to (by rfl) 46 _ (by rfl) (nullI.cells.toArray) (by kernel_rfl) ?_) | ((with_reducible refine wpId ?_); refine wpList_build_to (by rfl) 49 _ (by rfl) (twoO.cs) (by kernel_rfl) ?_) | ((with_reducible refine wpId ?_); refine wpList_store_new (by rfl) 49 (.tmp 1) (.tmp 3) (by rfl) twoO.cs 49 _ (by rfl) (by rfl) (by kernel_rfl) (by rfl) (by exact OJ.one _ rfl) ?_))
  generalize (w1.alloc (.cells twoO.cs 49)) = w2 at *
  generalize w1.heap.size = gx at *
  have BK := hidB (show Bk (w2.alloc (.cells (twoO.cs.toList ++ twoO.cs.toList).toArray 49)) w2.heap.size 49 (twoO.cs.toList ++ twoO.cs.toList).toArray from Bk.new w2 _ _)
  have R3 := hidB (show Bk (w2.alloc (.cells (twoO.cs.toList ++ twoO.cs.toList).toArray 49)) w.heap.size 25 #[.slice none 0 0] from R2.out.alloc _)
  have HS := hidB B2.out.size
  have B3 := hidB (show Below w.heap.size w (w2.alloc (.cells (twoO.cs.toList ++ twoO.cs.toList).toArray 49)) from B2.out.alloc B2.out.size _)
  have r0 : (w2.alloc (.cells (twoO.cs.toList ++ twoO.cs.toList).toArray 49)).cell? ⟨w.heap.size, 0, none⟩ = some (.slice none 0 0) := R3.out.cell 0
  have f0 : (w2.alloc (.cells (twoO.cs.toList ++ twoO.cs.toList).toArray 49)).frozen? ⟨w.heap.size, 0, none⟩ = false := R3.out.free 0
  go_wp2_with (first | ((with_reducible refine ldId 49 (.tmp 1) ?_); refine wpList_load_row (by rfl) 49 (.tmp 1) (by rfl) (gx) (by rfl) 49 (twoO.cs) (0, 0) _ (by exact X.out) Try.underlying49 (by rfl) (by kernel_rfl) ?_) | ((with_reducible refine wpId ?_); refine wpList_mkSliceH (by rfl) 23 49 2 18 _ (by rfl) [(0, twoO.a), (1, twoO.a)] (by kernel_rfl) (.agg zeroObjH) (twoO.cs.toList ++ twoO.cs.toList).toArray Try.underlying23 (by kernel_rfl) (by decide) (by decide) (by kernel_rfl) ?_; generalize hW3 : (w2.alloc (.cells (twoO.cs.toList ++ twoO.cs.toList).toArray 49)) = w3 at *))
  have FR := hidB (show FrB w.heap.size twoH (.slice (some ⟨w2.heap.size, 0, none⟩) 2 2) (w3.setCell ⟨w.heap.size, 0, none⟩ (.slice (some ⟨w2.heap.size, 0, none⟩) 2 2)) from ⟨twoH, rfl, ⟨(show w3.ownsRow w.heap.size 49 18 (.slice (some ⟨w2.heap.size, 0, none⟩) 2 2) 2 (flatH twoH) from ⟨rfl, Or.inr ⟨w2.heap.size, 2, _, rfl, HS.out, BK.out, Nat.le_refl _, by unfold maxLen; omega, rfl, rfl⟩⟩).kept (set_grownH w3 _ _) (Or.inr (own_ne_typeH (show w3.ownsRow w.heap.size 49 18 (.slice (some ⟨w2.heap.size, 0, none⟩) 2 2) 2 (flatH twoH) from ⟨rfl, Or.inr ⟨w2.heap.size, 2, _, rfl, HS.out, BK.out, Nat.le_refl _, by unfold maxLen; omega, rfl, rfl⟩⟩) (by decide) R3.out)), fun e he => by
    simp only [twoH, List.mem_cons, List.not_mem_nil, or_false] at he
    rcases he with rfl | rfl <;> exact ⟨rdP_nil _, fun h0 => absurd h0 (by decide)⟩⟩⟩)
  exact bodyPost_ret (v := .agg (#[(.slice (some ⟨w2.heap.size, 0, none⟩) 2 2)])) (results_cell_row Try.results7 _ _ (w.heap.size) 25 (#[(.slice (some ⟨w2.heap.size, 0, none⟩) 2 2)]) (0, 0) _ rfl (R3.out.set 0 _) Try.underlying25 rfl (by kernel_rfl)) rfl (⟨_, rfl, FR.out, B3.out.setCell (Nat.le_refl _) _⟩)
set_option maxHeartbeats 8000000 in
set_option maxRecDepth 100000 in
theorem four_any (w : World) : Calls Try.prog 13 #[] w fun e w' => ∃ v, e = .returned (.agg #[v]) ∧ FrB w.heap.size fourH v w' ∧ Below w.heap.size w w' := by
  have R := hidB (show Bk (w.alloc (.cells (#[.slice none 0 0]) 25)) (w.heap.size) 25 (#[.slice none 0 0]) from Bk.new w _ _)
  have B := hidB (show Below w.heap.size w (w.alloc (.cells (#[.slice none 0 0]) 25)) from box_one w _)
  go_enter Try.func13, Try.ntmps13
  go_upto_region 1 with fail
  generalize hW : (w.alloc (.cells (#[.slice none 0 0]) 25)) = w1 at *
  clear hW
  go_wp2_with fail
  refine (two_any _).mono ?_; rintro e w2 ⟨v, rfl, hfr, hb⟩
  have FR := hidB hfr
  replace R := hidB (R.out.on hb)
  replace B := hidB (B.out.trans (hb.mono B.out.size))
  clear hb hfr
  go_wp2_with fail
  refine (make_fr twoH_ok twoH_keys FR.out.rd 0 1).mono ?_; rintro e w3 ⟨hb, ⟨hne, _⟩ | ⟨_, v2, rfl, hfr⟩⟩
  · exact absurd mk_two hne
  have FR2 := hidB (show FrB w2.heap.size threeH v2 w3 from hfr)
  replace R := hidB (R.out.on hb)
  have HS := hidB B.out.size
  replace B := hidB (B.out.trans (hb.mono B.out.size))
  clear hb hfr FR
  obtain ⟨p2, c2, rfl⟩ := FR2.out.rd.form
  have TB := hidB (show Bk (w3.alloc (.cells #[(.slice p2 threeH.length c2)] 25)) w3.heap.size 25 #[(.slice p2 threeH.length c2)] from Bk.new w3 _ _)
  have R4 := hidB (show Bk (w3.alloc (.cells #[(.slice p2 threeH.length c2)] 25)) w.heap.size 25 #[.slice none 0 0] from R.out.alloc _)
  have FR4 := hidB (show FrB w2.heap.size threeH (.slice p2 threeH.length c2) (w3.alloc (.cells #[(.slice p2 threeH.length c2)] 25)) from FR2.out.on (box_one w3 _))
  have HST := hidB B.out.size
  have HRT := hidB (show w.heap.size ≠ w3.heap.size from Nat.ne_of_lt R.out.lt)
  have HW2 := hidB HS.out
  have B4 := hidB (show Below w.heap.size w (w3.alloc (.cells #[(.slice p2 threeH.length c2)] 25)) from B.out.alloc B.out.size _)
  clear R B FR2
  go_upto_region 2 with (first | ((with_reducible refine wpId ?_); refine wpList_store_new (by rfl) 25 (.tmp 1) (.tmp 7) (by rfl) #[(.slice p2 threeH.length c2)] 25 _ (by rfl) (by rfl) (by kernel_rfl) (by rfl) (by rfl) ?_))
  generalize (w3.alloc (.cells #[(.slice p2 threeH.length c2)] 25)) = w4 at *
  generalize w3.heap.size = gt at *
  go_wp2_with (first | ((with_reducible refine ldId 25 (.tmp 1) ?_); refine wpList_load_row (by rfl) 25 (.tmp 1) (by rfl) (gt) (by rfl) 25 (#[(.slice p2 threeH.length c2)]) (0, 0) _ (by exact TB.out) Try.underlying25 (by rfl) (by kernel_rfl) ?_))
  refine (make_fr threeH_ok threeH_keys FR4.out.rd 2 0).mono ?_; rintro e w5 ⟨hb, ⟨hne, _⟩ | ⟨_, v3, rfl, hfr⟩⟩
  · exact absurd mk_three hne
  have FR5 := hidB (show FrB w4.heap.size fourH v3 w5 from hfr)
  replace TB := hidB (TB.out.on hb)
  replace R4 := hidB (R4.out.on hb)
  have HW4 := hidB B4.out.size
  replace B4 := hidB (B4.out.trans (hb.mono B4.out.size))
  have hgt := hidB TB.out.lt
  clear hb hfr FR4
  obtain ⟨p3, c3, rfl⟩ := FR5.out.rd.form
  have t0 : w5.cell? ⟨gt, 0, none⟩ = some (.slice p2 threeH.length c2) := TB.out.cell 0
  have tf : w5.frozen? ⟨gt, 0, none⟩ = false := TB.out.free 0
  go_upto_region 3 with fail
  clear t0 tf
  have hgw : w.heap.size ≤ gt := HST.out
  have TB6 := hidB (show Bk (w5.setCell ⟨gt, 0, none⟩ (.slice p3 fourH.length c3)) gt 25 #[(.slice p3 fourH.length c3)] from TB.out.set 0 _)
  have B6 := hidB (show Below w.heap.size w (w5.setCell ⟨gt, 0, none⟩ (.slice p3 fourH.length c3)) from B4.out.setCell hgw _)
  have FR6 := hidB (show FrB w4.heap.size fourH (.slice p3 fourH.length c3) (w5.setCell ⟨gt, 0, none⟩ (.slice p3 fourH.length c3)) from FR5.out.setT TB.out (by decide) (by decide) _)
  have R6 := hidB (show Bk (w5.setCell ⟨gt, 0, none⟩ (.slice p3 fourH.length c3)) w.heap.size 25 #[.slice none 0 0] from R4.out.far (by show w.heap.size ≠ gt; exact HRT.out) _)
  clear TB B4 FR5 R4
  generalize (w5.setCell ⟨gt, 0, none⟩ (.slice p3 fourH.length c3)) = w6 at *
  have r0 : w6.cell? ⟨w.heap.size, 0, none⟩ = some (.slice none 0 0) := R6.out.cell 0
  have f0 : w6.frozen? ⟨w.heap.size, 0, none⟩ = false := R6.out.free 0
  go_wp2_with (first | ((with_reducible refine ldId 25 (.tmp 1) ?_); refine wpList_load_row (by rfl) 25 (.tmp 1) (by rfl) (gt) (by rfl) 25 (#[(.slice p3 fourH.length c3)]) (0, 0) _ (by exact TB6.out) Try.underlying25 (by rfl) (by kernel_rfl) ?_))
  exact bodyPost_ret (v := .agg (#[(.slice p3 fourH.length c3)])) (results_cell_row Try.results13 _ _ (w.heap.size) 25 (#[(.slice p3 fourH.length c3)]) (0, 0) _ rfl (R6.out.set 0 _) Try.underlying25 rfl (by kernel_rfl)) rfl (⟨_, rfl, (FR6.out.setT R6.out (by decide) (by decide) _).low HW4.out, B6.out.setCell (Nat.le_refl _) _⟩)
set_option maxHeartbeats 8000000 in
set_option maxRecDepth 100000 in
theorem alive14_any (w : World) : Calls Try.prog 6 #[] w fun e w' => e = .returned (.bool true) ∧ Below w.heap.size w w' := by
  go_enter Try.func6, Try.ntmps6
  have B := hidB (Below.refl w.heap.size w)
  go_wp2_with fail
  refine (four_any _).mono ?_; rintro e w1 ⟨v, rfl, hfr, hb⟩
  have FR := hidB hfr
  replace B := hidB (B.out.trans (hb.mono B.out.size))
  clear hb hfr
  go_wp2_with fail
  refine (down_fr fourH_ok fourH_keys FR.out.rd 3).mono ?_; rintro e w2 ⟨hb, ⟨hne, _⟩ | ⟨_, v2, rfl, hown⟩⟩
  · exact absurd ask_four hne
  rw [show ((3 : Int).toNat) = 3 from rfl, dwn_four] at hown
  rw [show ((3 : Int).toNat) = 3 from rfl, cut_four]
  have HO := hidB hown
  replace B := hidB (B.out.trans (hb.mono B.out.size))
  clear hb hown FR
  obtain ⟨g2, c2, rfl⟩ := own_some HO.out (by decide)
  go_wp2_with fail
  refine (four_any _).mono ?_; rintro e w3 ⟨v3, rfl, hfr, hb⟩
  have FR := hidB hfr
  replace HO := hidB (own_onH HO.out hb)
  replace B := hidB (B.out.trans (hb.mono B.out.size))
  clear hb hfr
  go_wp2_with fail
  refine (deep_fr fourH_ok fourH_keys FR.out.rd 3).mono ?_; rintro e w4 ⟨rfl, hb⟩
  rw [deep_four, ask_four]
  replace HO := hidB (own_onH HO.out hb)
  replace B := hidB (B.out.trans (hb.mono B.out.size))
  clear hb FR
  have c0 : w4.cell? ⟨g2, 0, none⟩ = some (.int .i64 2) := own_at HO.out rfl
  have c1 : w4.cell? ⟨g2, 1, none⟩ = some (.int .i64 0) := own_at HO.out rfl
  go_wp2_with fail
  go_ret
  exact ⟨rfl, B.out⟩

end Go.Proofs.Ytnidamkgfgddfaa
