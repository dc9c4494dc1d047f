/-
  An object of a heap, and its own property.
  An object's own property.
-/
import Derived.Test.YtbmaodlghglopaaGreatDoorTp13
namespace Go.Proofs.YtbmaodlghglopaaGreatDoor
open Go.RowKit

/-- What Of leaves: the object itself, another block of its list. -/
def OfR (o : OJ × List PI) (w : World) (e : Ending) (w' : World) : Prop := ∃ pv, e = .returned (.tuple #[({ o.1 with props := pv } : OJ).a, .int .i64 0]) ∧ RdP o.2 pv w' ∧ Below w.heap.size w w'
theorem OfR.mk' (o : OJ × List PI) (w : World) (w' : World) (pv : Value) (h : RdP o.2 pv w') (hb : Below w.heap.size w w') : OfR o w (.returned (.tuple #[({ o.1 with props := pv } : OJ).a, .int .i64 0])) w' := ⟨pv, rfl, h, hb⟩
set_option maxHeartbeats 8000000 in
set_option maxRecDepth 100000 in
theorem heapOf_any (h : HI) (hok : HOk h) (hk : HKeys h) (hc : chkH h = 0) (hv : Value) (n : Nat) (hn : n < h.length) (e0 : OJ × List PI) (he : h[n]'hn = e0) (hl : e0.2.length ≤ 4096) (w : World) (hr : RdH h hv w) : Calls Tryz.prog 17 #[.agg #[hv], .int .i64 n] w (OfR e0 w) := by
  have CHK := hidB (fun W (hb : Below w.heap.size w W) => chk_any h hok hk hv W (hr.on hb))
  have HC := hidB hc
  have HLL := hidB hl
  obtain ⟨g, o, c, rfl, hlm, hj⟩ := hr.obj hn
  rw [he] at hj
  have HJ := hidB hj
  unfold maxLen at hlm
  have hlm2 : h.length ≤ 9223372036854775807 := by omega
  have hn0 : (0 : Int) ≤ (n : Int) := by omega
  have hn1 : (n : Int) < (h.length : Int) := by omega
  have hn2 : ¬ ((n : Int) < 0) := by omega
  have hn3 : ¬ ((h.length : Int) ≤ (n : Int)) := by omega
  clear hok hk hc hr hj hlm hl he
  have Y := hidB (show Bk ((w.alloc (.cells (#[(.slice (some ⟨g, o, none⟩) h.length c)]) 24)).alloc (.cells (#[.int .u8 0, .int .u8 0, .float .f64 0, .string ⟨#[]⟩, .int .i64 0, .bool false, .slice none 0 0, .int .u8 0, .float .f64 0, .string ⟨#[]⟩, .int .i64 0, .int .u8 0, .float .f64 0, .string ⟨#[]⟩, .int .i64 0, .string ⟨#[]⟩, .bool false, .bool false]) 42)) (w.heap.size) 24 (#[(.slice (some ⟨g, o, none⟩) h.length c)]) from (Bk.new w _ _).alloc _)
  have R := hidB (show Bk ((w.alloc (.cells (#[(.slice (some ⟨g, o, none⟩) h.length c)]) 24)).alloc (.cells (#[.int .u8 0, .int .u8 0, .float .f64 0, .string ⟨#[]⟩, .int .i64 0, .bool false, .slice none 0 0, .int .u8 0, .float .f64 0, .string ⟨#[]⟩, .int .i64 0, .int .u8 0, .float .f64 0, .string ⟨#[]⟩, .int .i64 0, .string ⟨#[]⟩, .bool false, .bool false]) 42)) (w.heap.size + 1) 42 (#[.int .u8 0, .int .u8 0, .float .f64 0, .string ⟨#[]⟩, .int .i64 0, .bool false, .slice none 0 0, .int .u8 0, .float .f64 0, .string ⟨#[]⟩, .int .i64 0, .int .u8 0, .float .f64 0, .string ⟨#[]⟩, .int .i64 0, .string ⟨#[]⟩, .bool false, .bool false]) from Bk.new2 w _ _ _)
  have B := hidB (show Below w.heap.size w ((w.alloc (.cells (#[(.slice (some ⟨g, o, none⟩) h.length c)]) 24)).alloc (.cells (#[.int .u8 0, .int .u8 0, .float .f64 0, .string ⟨#[]⟩, .int .i64 0, .bool false, .slice none 0 0, .int .u8 0, .float .f64 0, .string ⟨#[]⟩, .int .i64 0, .int .u8 0, .float .f64 0, .string ⟨#[]⟩, .int .i64 0, .string ⟨#[]⟩, .bool false, .bool false]) 42)) from (box_one w _).alloc (by simp) _)
  go_enter Tryz.func17, Tryz.ntmps17
  go_upto_region 1 with fail
  generalize hW : ((w.alloc (.cells (#[(.slice (some ⟨g, o, none⟩) h.length c)]) 24)).alloc (.cells (#[.int .u8 0, .int .u8 0, .float .f64 0, .string ⟨#[]⟩, .int .i64 0, .bool false, .slice none 0 0, .int .u8 0, .float .f64 0, .string ⟨#[]⟩, .int .i64 0, .int .u8 0, .float .f64 0, .string ⟨#[]⟩, .int .i64 0, .string ⟨#[]⟩, .bool false, .bool false]) 42)) = w1 at *
  clear hW
  go_wp2_with (first | ((with_reducible refine ldId 24 (.tmp 2) ?_); refine wpList_load_row (by rfl) 24 (.tmp 2) (by rfl) (w.heap.size) (by rfl) 24 (#[(.slice (some ⟨g, o, none⟩) h.length c)]) (0, 0) _ (by exact Y.out) Tryz.underlying24 (by rfl) (by kernel_rfl) ?_))
  refine (CHK.out _ B.out).mono ?_; rintro e w2 ⟨rfl, hb⟩
  rw [HC.out]
  have HJ2 := hidB (HJ.out.on (B.out.trans (hb.mono B.out.size)))
  clear CHK HJ
  replace Y := hidB (Y.out.on hb)
  replace R := hidB (R.out.on hb)
  replace B := hidB (B.out.trans (hb.mono B.out.size))
  clear hb
  have y0 : w2.cell? ⟨w.heap.size, 0, none⟩ = some (.slice (some ⟨g, o, none⟩) h.length c) := Y.out.cell 0
  go_wp2_with (first | ((with_reducible refine ldId 42 (.tmp 26) ?_); refine wpList_load_mid (by rfl) 42 (.tmp 26) (by rfl) (g) (o + n * 18) (by rfl) (e0.1.cs.toList) _ (by exact HJ2.out.row) Tryz.underlying42 (by rfl) (by kernel_rfl) ?_))
  all_goals first | (exfalso; omega) | skip
  refine (one_any e0.1 e0.2 _ HJ2.out.props HLL.out).mono ?_; rintro e w3 ⟨pv, rfl, hown, hb⟩
  have HPV := hidB (rdP_own hown)
  have HP1 := hidB (own_one hown)
  have HOB := hidB hown
  have HBS := hidB B.out.size
  have HRL := hidB R.out.lt
  replace R := hidB (R.out.on hb)
  replace B := hidB (B.out.trans (hb.mono B.out.size))
  clear hb
  clear hown y0
  go_wp2_with (first | ((with_reducible refine stId 42 (.tmp 4) (.tmp 28) ?_); refine wpList_store_row (by rfl) 42 (.tmp 4) (.tmp 28) (by rfl) (w.heap.size + 1) (({ e0.1 with props := pv } : OJ).cs) (by rfl) (by rfl) 42 (#[.int .u8 0, .int .u8 0, .float .f64 0, .string ⟨#[]⟩, .int .i64 0, .bool false, .slice none 0 0, .int .u8 0, .float .f64 0, .string ⟨#[]⟩, .int .i64 0, .int .u8 0, .float .f64 0, .string ⟨#[]⟩, .int .i64 0, .string ⟨#[]⟩, .bool false, .bool false]) (by exact R.out) (by kernel_rfl) (by rfl) (by exact oj_one _ HP1.out) ?_))
  exact bodyPost_ret (v := .tuple #[.agg (({ e0.1 with props := pv } : OJ).cs), .int .i64 0]) (results_row2 Tryz.results17 _ _ (w.heap.size + 1) 42 (({ e0.1 with props := pv } : OJ).cs) (0, 0) _ rfl (R.out.setRow _) Tryz.underlying42 rfl (by kernel_rfl)) rfl (OfR.mk' e0 w (w3.setRow (w.heap.size + 1) ({ e0.1 with props := pv } : OJ).cs) pv (rdP_own (own_eq HOB.out (fun k hk => heap_setRow w3 (own_neB HOB.out R.out (by decide) hk) _))) (below_setRow B.out (Nat.le_succ _) _))

end Go.Proofs.YtbmaodlghglopaaGreatDoor

namespace Go.Proofs.YtbmaodlghglopaaGreatDoor
open Go.RowKit

/-- What Own tells. -/
def OwnR (l : List PI) (k : KI) (w : World) (e : Ending) (w' : World) : Prop := e = .returned (.tuple #[(findV l k).1.a, .bool (findV l k).2.1, .int .i64 (findV l k).2.2]) ∧ Below w.heap.size w w'
theorem OwnR.mk' (l : List PI) (k : KI) (d : DI) (b : Bool) (er : Int) (h : findV l k = (d, b, er)) (w w' : World) (hb : Below w.heap.size w w') : OwnR l k w (.returned (.tuple #[d.a, .bool b, .int .i64 er])) w' := by unfold OwnR; rw [h]; exact ⟨rfl, hb⟩
set_option maxHeartbeats 8000000 in
set_option maxRecDepth 100000 in
theorem ownR_any (h : HI) (hok : HOk h) (hk : HKeys h) (hc : chkH h = 0) (hv : Value) (n : Nat) (hn : n < h.length) (e0 : OJ × List PI) (he : h[n]'hn = e0) (hl : e0.2.length ≤ 4096) (hpo : ∀ p ∈ e0.2, p.d.ok) (k : KI) (w : World) (hr : RdH h hv w) : Calls Tryz.prog 7 #[.agg #[hv], .int .i64 n, k.a] w (OwnR e0.2 k w) := by
  have HOF := hidB (fun W (hb : Below w.heap.size w W) => heapOf_any h hok hk hc hv n hn e0 he hl W (hr.on hb))
  have HPO := hidB hpo
  clear hok hk hc he hl hr hpo
  have Y := hidB (show Bk (((w.alloc (.cells (#[hv]) 24)).alloc (.cells (k.cells.toArray) 26)).alloc (.cells (#[.int .u8 0, .int .u8 0, .float .f64 0, .string ⟨#[]⟩, .int .i64 0, .int .u8 0, .float .f64 0, .string ⟨#[]⟩, .int .i64 0, .int .u8 0, .float .f64 0, .string ⟨#[]⟩, .int .i64 0, .bool false, .bool false, .bool false]) 31)) (w.heap.size) 24 (#[hv]) from ((Bk.new w _ _).alloc _).alloc _)
  have K := hidB (show Bk (((w.alloc (.cells (#[hv]) 24)).alloc (.cells (k.cells.toArray) 26)).alloc (.cells (#[.int .u8 0, .int .u8 0, .float .f64 0, .string ⟨#[]⟩, .int .i64 0, .int .u8 0, .float .f64 0, .string ⟨#[]⟩, .int .i64 0, .int .u8 0, .float .f64 0, .string ⟨#[]⟩, .int .i64 0, .bool false, .bool false, .bool false]) 31)) (w.heap.size + 1) 26 (k.cells.toArray) from (Bk.new2 w _ _ _).alloc _)
  have R := hidB (show Bk (((w.alloc (.cells (#[hv]) 24)).alloc (.cells (k.cells.toArray) 26)).alloc (.cells (#[.int .u8 0, .int .u8 0, .float .f64 0, .string ⟨#[]⟩, .int .i64 0, .int .u8 0, .float .f64 0, .string ⟨#[]⟩, .int .i64 0, .int .u8 0, .float .f64 0, .string ⟨#[]⟩, .int .i64 0, .bool false, .bool false, .bool false]) 31)) (w.heap.size + 1 + 1) 31 (#[.int .u8 0, .int .u8 0, .float .f64 0, .string ⟨#[]⟩, .int .i64 0, .int .u8 0, .float .f64 0, .string ⟨#[]⟩, .int .i64 0, .int .u8 0, .float .f64 0, .string ⟨#[]⟩, .int .i64 0, .bool false, .bool false, .bool false]) from Bk.new3 w _ _ _ _)
  have B := hidB (show Below w.heap.size w (((w.alloc (.cells (#[hv]) 24)).alloc (.cells (k.cells.toArray) 26)).alloc (.cells (#[.int .u8 0, .int .u8 0, .float .f64 0, .string ⟨#[]⟩, .int .i64 0, .int .u8 0, .float .f64 0, .string ⟨#[]⟩, .int .i64 0, .int .u8 0, .float .f64 0, .string ⟨#[]⟩, .int .i64 0, .bool false, .bool false, .bool false]) 31)) from ((box_one w _).alloc (by simp) _).alloc (by simp <;> omega) _)
  go_enter Tryz.func7, Tryz.ntmps7
  go_upto_region 1 with fail
  generalize hW : (((w.alloc (.cells (#[hv]) 24)).alloc (.cells (k.cells.toArray) 26)).alloc (.cells (#[.int .u8 0, .int .u8 0, .float .f64 0, .string ⟨#[]⟩, .int .i64 0, .int .u8 0, .float .f64 0, .string ⟨#[]⟩, .int .i64 0, .int .u8 0, .float .f64 0, .string ⟨#[]⟩, .int .i64 0, .bool false, .bool false, .bool false]) 31)) = w1 at *
  clear hW
  go_wp2_with (first | ((with_reducible refine ldId 24 (.tmp 3) ?_); refine wpList_load_row (by rfl) 24 (.tmp 3) (by rfl) (w.heap.size) (by rfl) 24 (#[hv]) (0, 0) _ (by exact Y.out) Tryz.underlying24 (by rfl) (by kernel_rfl) ?_))
  refine (HOF.out _ B.out).mono ?_; rintro e w2 ⟨pv, rfl, hown, hb⟩
  obtain ⟨qa, ca, rfl⟩ : ∃ q c, pv = .slice q e0.2.length c := by obtain ⟨q, c, hq, _⟩ := hown; exact ⟨q, c, hq⟩
  have HRP := hidB hown
  clear hown
  replace Y := hidB (Y.out.on hb)
  replace K := hidB (K.out.on hb)
  replace R := hidB (R.out.on hb)
  replace B := hidB (B.out.trans (hb.mono B.out.size))
  clear hb
  clear HOF
  have O := hidB (Bk.new w2 42 (#[.int .u8 0, .int .u8 0, .float .f64 0, .string ⟨#[]⟩, .int .i64 0, .bool false, .slice none 0 0, .int .u8 0, .float .f64 0, .string ⟨#[]⟩, .int .i64 0, .int .u8 0, .float .f64 0, .string ⟨#[]⟩, .int .i64 0, .string ⟨#[]⟩, .bool false, .bool false]))
  have HG := hidB B.out.size
  go_upto_region 2 with (first | ((with_reducible refine stId 42 (.tmp 9) (.tmp 15) ?_); refine wpList_store_row (by rfl) 42 (.tmp 9) (.tmp 15) (by rfl) (w2.heap.size) (({ e0.1 with props := .slice qa e0.2.length ca } : OJ).cs) (by rfl) (by rfl) 42 (#[.int .u8 0, .int .u8 0, .float .f64 0, .string ⟨#[]⟩, .int .i64 0, .bool false, .slice none 0 0, .int .u8 0, .float .f64 0, .string ⟨#[]⟩, .int .i64 0, .int .u8 0, .float .f64 0, .string ⟨#[]⟩, .int .i64 0, .string ⟨#[]⟩, .bool false, .bool false]) (by exact O.out) (by kernel_rfl) (by rfl) (by exact oj_one _ rfl) ?_))
  have O3 := hidB (show Bk ((w2.alloc (.cells (#[.int .u8 0, .int .u8 0, .float .f64 0, .string ⟨#[]⟩, .int .i64 0, .bool false, .slice none 0 0, .int .u8 0, .float .f64 0, .string ⟨#[]⟩, .int .i64 0, .int .u8 0, .float .f64 0, .string ⟨#[]⟩, .int .i64 0, .string ⟨#[]⟩, .bool false, .bool false]) 42)).setRow w2.heap.size (({ e0.1 with props := .slice qa e0.2.length ca } : OJ).cs)) w2.heap.size 42 (({ e0.1 with props := .slice qa e0.2.length ca } : OJ).cs) from O.out.setRow _)
  have K3 := hidB (show Bk ((w2.alloc (.cells (#[.int .u8 0, .int .u8 0, .float .f64 0, .string ⟨#[]⟩, .int .i64 0, .bool false, .slice none 0 0, .int .u8 0, .float .f64 0, .string ⟨#[]⟩, .int .i64 0, .int .u8 0, .float .f64 0, .string ⟨#[]⟩, .int .i64 0, .string ⟨#[]⟩, .bool false, .bool false]) 42)).setRow w2.heap.size (({ e0.1 with props := .slice qa e0.2.length ca } : OJ).cs)) (w.heap.size + 1) 26 (k.cells.toArray) from (K.out.alloc _).setRow_far (Nat.ne_of_gt K.out.lt) _)
  have R3 := hidB (show Bk ((w2.alloc (.cells (#[.int .u8 0, .int .u8 0, .float .f64 0, .string ⟨#[]⟩, .int .i64 0, .bool false, .slice none 0 0, .int .u8 0, .float .f64 0, .string ⟨#[]⟩, .int .i64 0, .int .u8 0, .float .f64 0, .string ⟨#[]⟩, .int .i64 0, .string ⟨#[]⟩, .bool false, .bool false]) 42)).setRow w2.heap.size (({ e0.1 with props := .slice qa e0.2.length ca } : OJ).cs)) (w.heap.size + 1 + 1) 31 (#[.int .u8 0, .int .u8 0, .float .f64 0, .string ⟨#[]⟩, .int .i64 0, .int .u8 0, .float .f64 0, .string ⟨#[]⟩, .int .i64 0, .int .u8 0, .float .f64 0, .string ⟨#[]⟩, .int .i64 0, .bool false, .bool false, .bool false]) from (R.out.alloc _).setRow_far (Nat.ne_of_gt R.out.lt) _)
  have B3 := hidB (show Below w.heap.size w ((w2.alloc (.cells (#[.int .u8 0, .int .u8 0, .float .f64 0, .string ⟨#[]⟩, .int .i64 0, .bool false, .slice none 0 0, .int .u8 0, .float .f64 0, .string ⟨#[]⟩, .int .i64 0, .int .u8 0, .float .f64 0, .string ⟨#[]⟩, .int .i64 0, .string ⟨#[]⟩, .bool false, .bool false]) 42)).setRow w2.heap.size (({ e0.1 with props := .slice qa e0.2.length ca } : OJ).cs)) from below_setRow (B.out.trans (box_one w2 _ |>.mono B.out.size)) B.out.size _)
  have HRP3 := hidB (show RdP e0.2 (.slice qa e0.2.length ca) ((w2.alloc (.cells (#[.int .u8 0, .int .u8 0, .float .f64 0, .string ⟨#[]⟩, .int .i64 0, .bool false, .slice none 0 0, .int .u8 0, .float .f64 0, .string ⟨#[]⟩, .int .i64 0, .int .u8 0, .float .f64 0, .string ⟨#[]⟩, .int .i64 0, .string ⟨#[]⟩, .bool false, .bool false]) 42)).setRow w2.heap.size (({ e0.1 with props := .slice qa e0.2.length ca } : OJ).cs)) from HRP.out.on (below_setRow (box_one w2 _) (Nat.le_refl _) _))
  clear Y K R B O HRP
  generalize hW : ((w2.alloc (.cells (#[.int .u8 0, .int .u8 0, .float .f64 0, .string ⟨#[]⟩, .int .i64 0, .bool false, .slice none 0 0, .int .u8 0, .float .f64 0, .string ⟨#[]⟩, .int .i64 0, .int .u8 0, .float .f64 0, .string ⟨#[]⟩, .int .i64 0, .string ⟨#[]⟩, .bool false, .bool false]) 42)).setRow w2.heap.size (({ e0.1 with props := .slice qa e0.2.length ca } : OJ).cs)) = w3 at *
  clear hW
  generalize hGo : w2.heap.size = go at *
  clear hGo
  have y6 : w3.cell? ⟨go, 6, none⟩ = some (.slice qa e0.2.length ca) := O3.out.cell 6
  go_wp2_with (first | ((with_reducible refine ldId 26 (.tmp 5) ?_); refine wpList_load_row (by rfl) 26 (.tmp 5) (by rfl) (w.heap.size + 1) (by rfl) 26 (k.cells.toArray) (0, 0) _ (by exact K3.out) Tryz.underlying26 (by rfl) (by kernel_rfl) ?_))
  refine (find_any e0.2 HPO.out k _ w3 HRP3.out).mono ?_; rintro e w4 ⟨rfl, hb⟩
  replace R3 := hidB (R3.out.on hb)
  replace B3 := hidB (B3.out.trans (hb.mono B3.out.size))
  clear hb y6 O3 K3 HRP3
  obtain ⟨⟨d, b, er⟩, hf⟩ : ∃ x, findV e0.2 k = x := ⟨_, rfl⟩
  have HF := hidB hf
  rw [hf]
  clear hf
  go_wp2_with (first | ((with_reducible refine stId 31 (.tmp 6) (.tmp 25) ?_); refine wpList_store_row (by rfl) 31 (.tmp 6) (.tmp 25) (by rfl) (w.heap.size + 1 + 1) (d.cs) (by rfl) (by rfl) 31 (#[.int .u8 0, .int .u8 0, .float .f64 0, .string ⟨#[]⟩, .int .i64 0, .int .u8 0, .float .f64 0, .string ⟨#[]⟩, .int .i64 0, .int .u8 0, .float .f64 0, .string ⟨#[]⟩, .int .i64 0, .bool false, .bool false, .bool false]) (by exact R3.out) (by kernel_rfl) (by rfl) (by exact DI.one _) ?_))
  exact bodyPost_ret (v := .tuple #[.agg d.cs, .bool b, .int .i64 er]) (results_row3 Tryz.results7 _ _ (w.heap.size + 1 + 1) 31 d.cs (0, 0) _ rfl (R3.out.setRow _) Tryz.underlying31 rfl (by kernel_rfl)) rfl (OwnR.mk' e0.2 k d b er HF.out w _ (below_setRow B3.out (by omega) _))

end Go.Proofs.YtbmaodlghglopaaGreatDoor
