/-
  The same: descriptors.
-/
import Derived.Test.YtlpldhcoplbopaaPostCheck
namespace Go.Proofs.Ytlpldhcoplbopaa
open Go.RowKit

set_option maxHeartbeats 8000000 in
set_option maxRecDepth 100000 in
theorem check_no (a : AI) (x : OI) (f : FI) (lk ks : List KI) (ds : List DI) (hm2 : a.m = 5) (hm : 1 ≤ a.m ∧ a.m ≤ 13) (hl : a.m = 11 → ds.length = ks.length) (he : askedE a x lk = 0) (hk : knownE a.m f ks ds = 0) (hw : wellB a x f lk ks ds = true) (hfo : x.fo = false) (w : World) (h : AskOk a x lk w) (hf : FactsOk f ks ds w) : Calls Try.prog 13 #[a.a, x.a, f.a] w fun e w' => e = .returned (.tuple #[OI.a { OI.done with fo := false }, .bool true, .int .i64 0]) ∧ Below w.heap.size w w' := by
  have HF := hidB hfo
  clear hfo
  have QA := hidB (fun W (hb : Below w.heap.size w W) => pasked_any a x lk W (h.on hb))
  have KA := hidB (fun W (hb : Below w.heap.size w W) => known_any a.m f ks ds hm W (hf.on hb))
  have WA := hidB (fun W (hb : Below w.heap.size w W) => well_any a x f lk ks ds hm hl W (h.on hb) (hf.on hb))
  clear h hf hm hl
  rw [he] at QA
  rw [hk] at KA
  rw [hw] at WA
  clear he hk hw
  have A1 := hidB (show Bk ((((w.alloc (.cells a.cs 35)).alloc (.cells x.cs 38)).alloc (.cells f.cs 48)).alloc (.cells #[.int .u8 0, .int .u8 0, .float .f64 0, .string ⟨#[]⟩, .int .i64 0, .bool false, .bool false, .int .u8 0, .int .u8 0, .float .f64 0, .string ⟨#[]⟩, .int .i64 0, .int .u8 0, .float .f64 0, .string ⟨#[]⟩, .int .i64 0, .int .u8 0, .float .f64 0, .string ⟨#[]⟩, .int .i64 0, .bool false, .bool false, .bool false, .slice none 0 0, .int .u8 0, .string ⟨#[]⟩] 38)) (w.heap.size) 35 a.cs from (((Bk.new w _ _).alloc _).alloc _).alloc _)
  have X1 := hidB (show Bk ((((w.alloc (.cells a.cs 35)).alloc (.cells x.cs 38)).alloc (.cells f.cs 48)).alloc (.cells #[.int .u8 0, .int .u8 0, .float .f64 0, .string ⟨#[]⟩, .int .i64 0, .bool false, .bool false, .int .u8 0, .int .u8 0, .float .f64 0, .string ⟨#[]⟩, .int .i64 0, .int .u8 0, .float .f64 0, .string ⟨#[]⟩, .int .i64 0, .int .u8 0, .float .f64 0, .string ⟨#[]⟩, .int .i64 0, .bool false, .bool false, .bool false, .slice none 0 0, .int .u8 0, .string ⟨#[]⟩] 38)) (w.heap.size + 1) 38 x.cs from ((Bk.new2 w _ _ _).alloc _).alloc _)
  have F1 := hidB (show Bk ((((w.alloc (.cells a.cs 35)).alloc (.cells x.cs 38)).alloc (.cells f.cs 48)).alloc (.cells #[.int .u8 0, .int .u8 0, .float .f64 0, .string ⟨#[]⟩, .int .i64 0, .bool false, .bool false, .int .u8 0, .int .u8 0, .float .f64 0, .string ⟨#[]⟩, .int .i64 0, .int .u8 0, .float .f64 0, .string ⟨#[]⟩, .int .i64 0, .int .u8 0, .float .f64 0, .string ⟨#[]⟩, .int .i64 0, .bool false, .bool false, .bool false, .slice none 0 0, .int .u8 0, .string ⟨#[]⟩] 38)) (w.heap.size + 1 + 1) 48 f.cs from (Bk.new3 w _ _ _ _).alloc _)
  have R1 := hidB (show Bk ((((w.alloc (.cells a.cs 35)).alloc (.cells x.cs 38)).alloc (.cells f.cs 48)).alloc (.cells #[.int .u8 0, .int .u8 0, .float .f64 0, .string ⟨#[]⟩, .int .i64 0, .bool false, .bool false, .int .u8 0, .int .u8 0, .float .f64 0, .string ⟨#[]⟩, .int .i64 0, .int .u8 0, .float .f64 0, .string ⟨#[]⟩, .int .i64 0, .int .u8 0, .float .f64 0, .string ⟨#[]⟩, .int .i64 0, .bool false, .bool false, .bool false, .slice none 0 0, .int .u8 0, .string ⟨#[]⟩] 38)) (w.heap.size + 1 + 1 + 1) 38 OI.zero.cs from Bk.new4 w _ _ _ _ _)
  have B1 := hidB (show Below w.heap.size w ((((w.alloc (.cells a.cs 35)).alloc (.cells x.cs 38)).alloc (.cells f.cs 48)).alloc (.cells #[.int .u8 0, .int .u8 0, .float .f64 0, .string ⟨#[]⟩, .int .i64 0, .bool false, .bool false, .int .u8 0, .int .u8 0, .float .f64 0, .string ⟨#[]⟩, .int .i64 0, .int .u8 0, .float .f64 0, .string ⟨#[]⟩, .int .i64 0, .int .u8 0, .float .f64 0, .string ⟨#[]⟩, .int .i64 0, .bool false, .bool false, .bool false, .slice none 0 0, .int .u8 0, .string ⟨#[]⟩] 38)) from (((box_one w _).alloc (by simp) _).alloc (by simp; omega) _).alloc (by simp; omega) _)
  have HM := hidB hm2
  clear hm2
  go_enter Try.func13, Try.ntmps13
  go_upto_region 1 with fail
  generalize ((((w.alloc (.cells a.cs 35)).alloc (.cells x.cs 38)).alloc (.cells f.cs 48)).alloc (.cells #[.int .u8 0, .int .u8 0, .float .f64 0, .string ⟨#[]⟩, .int .i64 0, .bool false, .bool false, .int .u8 0, .int .u8 0, .float .f64 0, .string ⟨#[]⟩, .int .i64 0, .int .u8 0, .float .f64 0, .string ⟨#[]⟩, .int .i64 0, .int .u8 0, .float .f64 0, .string ⟨#[]⟩, .int .i64 0, .bool false, .bool false, .bool false, .slice none 0 0, .int .u8 0, .string ⟨#[]⟩] 38)) = w1 at *
  go_wp2_with (first | ((with_reducible refine ldId 35 (.tmp 3) ?_); refine wpList_load_row (by rfl) 35 (.tmp 3) (by rfl) (w.heap.size) (by rfl) 35 _ (0, 0) _ (by exact A1.out) Try.underlying35 (by rfl) (by kernel_rfl) ?_) | ((with_reducible refine ldId 38 (.tmp 4) ?_); refine wpList_load_row (by rfl) 38 (.tmp 4) (by rfl) (w.heap.size + 1) (by rfl) 38 _ (0, 0) _ (by exact X1.out) Try.underlying38 (by rfl) (by kernel_rfl) ?_))
  refine (QA.out _ B1.out).mono ?_; rintro e w2 ⟨rfl, hb⟩
  have A2 := hidB (A1.out.on hb)
  have X2 := hidB (X1.out.on hb)
  have F2 := hidB (F1.out.on hb)
  have R2 := hidB (R1.out.on hb)
  have B2 := hidB (B1.out.trans (hb.mono B1.out.size))
  clear hb A1 X1 F1 R1 B1
  have z_m : w2.cell? ⟨w.heap.size, 0, none⟩ = some (.int .u8 a.m) := A2.out.cell 0
  go_wp2_with (first | ((with_reducible refine ldId 48 (.tmp 5) ?_); refine wpList_load_row (by rfl) 48 (.tmp 5) (by rfl) (w.heap.size + 1 + 1) (by rfl) 48 _ (0, 0) _ (by exact F2.out) Try.underlying48 (by rfl) (by kernel_rfl) ?_))
  refine (KA.out _ B2.out).mono ?_; rintro e w3 ⟨rfl, hb⟩
  have A3 := hidB (A2.out.on hb)
  have X3 := hidB (X2.out.on hb)
  have F3 := hidB (F2.out.on hb)
  have R3 := hidB (R2.out.on hb)
  have B3 := hidB (B2.out.trans (hb.mono B2.out.size))
  clear hb A2 X2 F2 R2 B2
  clear z_m
  go_wp2_with (first | ((with_reducible refine ldId 35 (.tmp 3) ?_); refine wpList_load_row (by rfl) 35 (.tmp 3) (by rfl) (w.heap.size) (by rfl) 35 _ (0, 0) _ (by exact A3.out) Try.underlying35 (by rfl) (by kernel_rfl) ?_) | ((with_reducible refine ldId 38 (.tmp 4) ?_); refine wpList_load_row (by rfl) 38 (.tmp 4) (by rfl) (w.heap.size + 1) (by rfl) 38 _ (0, 0) _ (by exact X3.out) Try.underlying38 (by rfl) (by kernel_rfl) ?_) | ((with_reducible refine ldId 48 (.tmp 5) ?_); refine wpList_load_row (by rfl) 48 (.tmp 5) (by rfl) (w.heap.size + 1 + 1) (by rfl) 48 _ (0, 0) _ (by exact F3.out) Try.underlying48 (by rfl) (by kernel_rfl) ?_))
  refine (WA.out _ B3.out).mono ?_; rintro e w4 ⟨rfl, hb⟩
  have A4 := hidB (A3.out.on hb)
  have X4 := hidB (X3.out.on hb)
  have F4 := hidB (F3.out.on hb)
  have R4 := hidB (R3.out.on hb)
  have B4 := hidB (B3.out.trans (hb.mono B3.out.size))
  clear hb A3 X3 F3 R3 B3
  have A5 := hidB (show Bk (w4.alloc (.cells OI.done.cs 38)) (w.heap.size) 35 a.cs from A4.out.alloc _)
  have X5 := hidB (show Bk (w4.alloc (.cells OI.done.cs 38)) (w.heap.size + 1) 38 x.cs from X4.out.alloc _)
  have R5 := hidB (show Bk (w4.alloc (.cells OI.done.cs 38)) (w.heap.size + 1 + 1 + 1) 38 OI.zero.cs from R4.out.alloc _)
  have O5 := hidB (show Bk (w4.alloc (.cells OI.done.cs 38)) w4.heap.size 38 OI.done.cs from Bk.new w4 _ _)
  have B5 := hidB (show Below w.heap.size w (w4.alloc (.cells OI.done.cs 38)) from B4.out.alloc B4.out.size _)
  have hn5 : w.heap.size + 1 + 1 + 1 < w4.heap.size := R4.out.lt
  have hw5 : w4.heap.size < (w4.alloc (.cells OI.done.cs 38)).heap.size := by simp
  go_upto_region 10 with (first | ((with_reducible refine wpId ?_); refine wpList_build_to (by rfl) 38 _ (by rfl) OI.done.cs (by kernel_rfl) ?_) | ((with_reducible refine stId 38 (.tmp 11) (.tmp 33) ?_); refine wpList_store_new (by rfl) 38 (.tmp 11) (.tmp 33) (by rfl) OI.done.cs 38 _ (by rfl) (by rfl) (by exact size_out) (by rfl) (by exact OI.one _ (by rfl)) ?_))
  generalize (w4.alloc (.cells OI.done.cs 38)) = w5 at *
  generalize w4.heap.size = g5 at *
  clear A4 X4 F4 R4 B4
  have hn6 : w.heap.size + 1 + 1 + 1 ≠ g5 := by omega
  have hn7 : w.heap.size ≤ g5 := by omega
  have z_m : w5.cell? ⟨w.heap.size, 0, none⟩ = some (.int .u8 5) := by rw [← HM.out]; exact A5.out.cell 0
  have z_f : w5.cell? ⟨w.heap.size + 1, 6, none⟩ = some (.bool false) := by rw [← HF.out]; exact X5.out.cell 6
  have f5 : w5.frozen? ⟨g5, 6, none⟩ = false := O5.out.free 6
  have o5 : w5.cell? ⟨g5, 6, none⟩ = some (.bool false) := O5.out.cell 6
  have O6 := hidB (show Bk (w5.setCell ⟨g5, 6, none⟩ (.bool false)) g5 38 (OI.cs { OI.done with fo := false }) from O5.out.set 6 _)
  have R6 := hidB (show Bk (w5.setCell ⟨g5, 6, none⟩ (.bool false)) (w.heap.size + 1 + 1 + 1) 38 OI.zero.cs from R5.out.far hn6 _)
  have B6 := hidB (show Below w.heap.size w (w5.setCell ⟨g5, 6, none⟩ (.bool false)) from B5.out.setCell (p := ⟨g5, 6, none⟩) hn7 _)
  have z6 : (w5.setCell ⟨g5, 6, none⟩ (.bool false)).cell? ⟨w.heap.size + 1, 6, none⟩ = some (.bool false) := by rw [← HF.out]; exact (X5.out.far (p := ⟨g5, 6, none⟩) (show w.heap.size + 1 ≠ g5 by omega) _).cell 6
  go_upto_region 21 with fail
  generalize (w5.setCell ⟨g5, 6, none⟩ (.bool false)) = w6 at *
  go_wp2_with (first | ((with_reducible refine ldId 38 (.tmp 11) ?_); refine wpList_load_row (by rfl) 38 (.tmp 11) (by rfl) g5 (by rfl) 38 _ (0, 0) _ (by exact O6.out) Try.underlying38 (by rfl) (by exact size_out) ?_) | ((with_reducible refine stId 38 (.tmp 6) (.tmp 67) ?_); refine wpList_store_row (by rfl) 38 (.tmp 6) (.tmp 67) (by rfl) (w.heap.size + 1 + 1 + 1) ({ OI.done with fo := false } : OI).cs (by rfl) (by rfl) 38 OI.zero.cs (by exact R6.out) (by exact size_out) (by rfl) (by exact OI.one _ (by rfl)) ?_))
  exact bodyPost_ret (v := .tuple #[OI.a { OI.done with fo := false }, .bool true, .int .i64 0]) (results_row3 Try.results13 _ _ (w.heap.size + 1 + 1 + 1) 38 (OI.cs { OI.done with fo := false }) (0, 0) _ rfl (R6.out.setRow _) Try.underlying38 rfl size_out) rfl ⟨rfl, below_setRow B6.out (by omega) _⟩

set_option maxHeartbeats 8000000 in
set_option maxRecDepth 100000 in
theorem check_yes (a : AI) (x : OI) (f : FI) (lk ks : List KI) (ds : List DI) (hm2 : a.m = 5) (hm : 1 ≤ a.m ∧ a.m ≤ 13) (hl : a.m = 11 → ds.length = ks.length) (he : askedE a x lk = 0) (hk : knownE a.m f ks ds = 0) (hw : wellB a x f lk ks ds = true) (hfo : x.fo = true) (hd : x.d.ok) (w : World) (h : AskOk a x lk w) (hf : FactsOk f ks ds w) : Calls Try.prog 13 #[a.a, x.a, f.a] w fun e w' => e = .returned (.tuple #[OI.a { OI.done with fo := true, d := x.d.com }, .bool true, .int .i64 0]) ∧ Below w.heap.size w w' := by
  have HF := hidB hfo
  have CA := hidB (fun W => complete_any x.d hd W)
  clear hfo hd
  generalize x.d.com = c at *
  generalize x.d.err = er at *
  have QA := hidB (fun W (hb : Below w.heap.size w W) => pasked_any a x lk W (h.on hb))
  have KA := hidB (fun W (hb : Below w.heap.size w W) => known_any a.m f ks ds hm W (hf.on hb))
  have WA := hidB (fun W (hb : Below w.heap.size w W) => well_any a x f lk ks ds hm hl W (h.on hb) (hf.on hb))
  clear h hf hm hl
  rw [he] at QA
  rw [hk] at KA
  rw [hw] at WA
  clear he hk hw
  have A1 := hidB (show Bk ((((w.alloc (.cells a.cs 35)).alloc (.cells x.cs 38)).alloc (.cells f.cs 48)).alloc (.cells #[.int .u8 0, .int .u8 0, .float .f64 0, .string ⟨#[]⟩, .int .i64 0, .bool false, .bool false, .int .u8 0, .int .u8 0, .float .f64 0, .string ⟨#[]⟩, .int .i64 0, .int .u8 0, .float .f64 0, .string ⟨#[]⟩, .int .i64 0, .int .u8 0, .float .f64 0, .string ⟨#[]⟩, .int .i64 0, .bool false, .bool false, .bool false, .slice none 0 0, .int .u8 0, .string ⟨#[]⟩] 38)) (w.heap.size) 35 a.cs from (((Bk.new w _ _).alloc _).alloc _).alloc _)
  have X1 := hidB (show Bk ((((w.alloc (.cells a.cs 35)).alloc (.cells x.cs 38)).alloc (.cells f.cs 48)).alloc (.cells #[.int .u8 0, .int .u8 0, .float .f64 0, .string ⟨#[]⟩, .int .i64 0, .bool false, .bool false, .int .u8 0, .int .u8 0, .float .f64 0, .string ⟨#[]⟩, .int .i64 0, .int .u8 0, .float .f64 0, .string ⟨#[]⟩, .int .i64 0, .int .u8 0, .float .f64 0, .string ⟨#[]⟩, .int .i64 0, .bool false, .bool false, .bool false, .slice none 0 0, .int .u8 0, .string ⟨#[]⟩] 38)) (w.heap.size + 1) 38 x.cs from ((Bk.new2 w _ _ _).alloc _).alloc _)
  have F1 := hidB (show Bk ((((w.alloc (.cells a.cs 35)).alloc (.cells x.cs 38)).alloc (.cells f.cs 48)).alloc (.cells #[.int .u8 0, .int .u8 0, .float .f64 0, .string ⟨#[]⟩, .int .i64 0, .bool false, .bool false, .int .u8 0, .int .u8 0, .float .f64 0, .string ⟨#[]⟩, .int .i64 0, .int .u8 0, .float .f64 0, .string ⟨#[]⟩, .int .i64 0, .int .u8 0, .float .f64 0, .string ⟨#[]⟩, .int .i64 0, .bool false, .bool false, .bool false, .slice none 0 0, .int .u8 0, .string ⟨#[]⟩] 38)) (w.heap.size + 1 + 1) 48 f.cs from (Bk.new3 w _ _ _ _).alloc _)
  have R1 := hidB (show Bk ((((w.alloc (.cells a.cs 35)).alloc (.cells x.cs 38)).alloc (.cells f.cs 48)).alloc (.cells #[.int .u8 0, .int .u8 0, .float .f64 0, .string ⟨#[]⟩, .int .i64 0, .bool false, .bool false, .int .u8 0, .int .u8 0, .float .f64 0, .string ⟨#[]⟩, .int .i64 0, .int .u8 0, .float .f64 0, .string ⟨#[]⟩, .int .i64 0, .int .u8 0, .float .f64 0, .string ⟨#[]⟩, .int .i64 0, .bool false, .bool false, .bool false, .slice none 0 0, .int .u8 0, .string ⟨#[]⟩] 38)) (w.heap.size + 1 + 1 + 1) 38 OI.zero.cs from Bk.new4 w _ _ _ _ _)
  have B1 := hidB (show Below w.heap.size w ((((w.alloc (.cells a.cs 35)).alloc (.cells x.cs 38)).alloc (.cells f.cs 48)).alloc (.cells #[.int .u8 0, .int .u8 0, .float .f64 0, .string ⟨#[]⟩, .int .i64 0, .bool false, .bool false, .int .u8 0, .int .u8 0, .float .f64 0, .string ⟨#[]⟩, .int .i64 0, .int .u8 0, .float .f64 0, .string ⟨#[]⟩, .int .i64 0, .int .u8 0, .float .f64 0, .string ⟨#[]⟩, .int .i64 0, .bool false, .bool false, .bool false, .slice none 0 0, .int .u8 0, .string ⟨#[]⟩] 38)) from (((box_one w _).alloc (by simp) _).alloc (by simp; omega) _).alloc (by simp; omega) _)
  have HM := hidB hm2
  clear hm2
  go_enter Try.func13, Try.ntmps13
  go_upto_region 1 with fail
  generalize ((((w.alloc (.cells a.cs 35)).alloc (.cells x.cs 38)).alloc (.cells f.cs 48)).alloc (.cells #[.int .u8 0, .int .u8 0, .float .f64 0, .string ⟨#[]⟩, .int .i64 0, .bool false, .bool false, .int .u8 0, .int .u8 0, .float .f64 0, .string ⟨#[]⟩, .int .i64 0, .int .u8 0, .float .f64 0, .string ⟨#[]⟩, .int .i64 0, .int .u8 0, .float .f64 0, .string ⟨#[]⟩, .int .i64 0, .bool false, .bool false, .bool false, .slice none 0 0, .int .u8 0, .string ⟨#[]⟩] 38)) = w1 at *
  go_wp2_with (first | ((with_reducible refine ldId 35 (.tmp 3) ?_); refine wpList_load_row (by rfl) 35 (.tmp 3) (by rfl) (w.heap.size) (by rfl) 35 _ (0, 0) _ (by exact A1.out) Try.underlying35 (by rfl) (by kernel_rfl) ?_) | ((with_reducible refine ldId 38 (.tmp 4) ?_); refine wpList_load_row (by rfl) 38 (.tmp 4) (by rfl) (w.heap.size + 1) (by rfl) 38 _ (0, 0) _ (by exact X1.out) Try.underlying38 (by rfl) (by kernel_rfl) ?_))
  refine (QA.out _ B1.out).mono ?_; rintro e w2 ⟨rfl, hb⟩
  have A2 := hidB (A1.out.on hb)
  have X2 := hidB (X1.out.on hb)
  have F2 := hidB (F1.out.on hb)
  have R2 := hidB (R1.out.on hb)
  have B2 := hidB (B1.out.trans (hb.mono B1.out.size))
  clear hb A1 X1 F1 R1 B1
  have z_m : w2.cell? ⟨w.heap.size, 0, none⟩ = some (.int .u8 a.m) := A2.out.cell 0
  go_wp2_with (first | ((with_reducible refine ldId 48 (.tmp 5) ?_); refine wpList_load_row (by rfl) 48 (.tmp 5) (by rfl) (w.heap.size + 1 + 1) (by rfl) 48 _ (0, 0) _ (by exact F2.out) Try.underlying48 (by rfl) (by kernel_rfl) ?_))
  refine (KA.out _ B2.out).mono ?_; rintro e w3 ⟨rfl, hb⟩
  have A3 := hidB (A2.out.on hb)
  have X3 := hidB (X2.out.on hb)
  have F3 := hidB (F2.out.on hb)
  have R3 := hidB (R2.out.on hb)
  have B3 := hidB (B2.out.trans (hb.mono B2.out.size))
  clear hb A2 X2 F2 R2 B2
  clear z_m
  go_wp2_with (first | ((with_reducible refine ldId 35 (.tmp 3) ?_); refine wpList_load_row (by rfl) 35 (.tmp 3) (by rfl) (w.heap.size) (by rfl) 35 _ (0, 0) _ (by exact A3.out) Try.underlying35 (by rfl) (by kernel_rfl) ?_) | ((with_reducible refine ldId 38 (.tmp 4) ?_); refine wpList_load_row (by rfl) 38 (.tmp 4) (by rfl) (w.heap.size + 1) (by rfl) 38 _ (0, 0) _ (by exact X3.out) Try.underlying38 (by rfl) (by kernel_rfl) ?_) | ((with_reducible refine ldId 48 (.tmp 5) ?_); refine wpList_load_row (by rfl) 48 (.tmp 5) (by rfl) (w.heap.size + 1 + 1) (by rfl) 48 _ (0, 0) _ (by exact F3.out) Try.underlying48 (by rfl) (by kernel_rfl) ?_))
  refine (WA.out _ B3.out).mono ?_; rintro e w4 ⟨rfl, hb⟩
  have A4 := hidB (A3.out.on hb)
  have X4 := hidB (X3.out.on hb)
  have F4 := hidB (F3.out.on hb)
  have R4 := hidB (R3.out.on hb)
  have B4 := hidB (B3.out.trans (hb.mono B3.out.size))
  clear hb A3 X3 F3 R3 B3
  have A5 := hidB (show Bk (w4.alloc (.cells OI.done.cs 38)) (w.heap.size) 35 a.cs from A4.out.alloc _)
  have X5 := hidB (show Bk (w4.alloc (.cells OI.done.cs 38)) (w.heap.size + 1) 38 x.cs from X4.out.alloc _)
  have R5 := hidB (show Bk (w4.alloc (.cells OI.done.cs 38)) (w.heap.size + 1 + 1 + 1) 38 OI.zero.cs from R4.out.alloc _)
  have O5 := hidB (show Bk (w4.alloc (.cells OI.done.cs 38)) w4.heap.size 38 OI.done.cs from Bk.new w4 _ _)
  have B5 := hidB (show Below w.heap.size w (w4.alloc (.cells OI.done.cs 38)) from B4.out.alloc B4.out.size _)
  have hn5 : w.heap.size + 1 + 1 + 1 < w4.heap.size := R4.out.lt
  have hw5 : w4.heap.size < (w4.alloc (.cells OI.done.cs 38)).heap.size := by simp
  go_upto_region 10 with (first | ((with_reducible refine wpId ?_); refine wpList_build_to (by rfl) 38 _ (by rfl) OI.done.cs (by kernel_rfl) ?_) | ((with_reducible refine stId 38 (.tmp 11) (.tmp 33) ?_); refine wpList_store_new (by rfl) 38 (.tmp 11) (.tmp 33) (by rfl) OI.done.cs 38 _ (by rfl) (by rfl) (by exact size_out) (by rfl) (by exact OI.one _ (by rfl)) ?_))
  generalize (w4.alloc (.cells OI.done.cs 38)) = w5 at *
  generalize w4.heap.size = g5 at *
  clear A4 X4 F4 R4 B4
  have hn6 : w.heap.size + 1 + 1 + 1 ≠ g5 := by omega
  have hn7 : w.heap.size ≤ g5 := by omega
  have z_m : w5.cell? ⟨w.heap.size, 0, none⟩ = some (.int .u8 5) := by rw [← HM.out]; exact A5.out.cell 0
  have z_f : w5.cell? ⟨w.heap.size + 1, 6, none⟩ = some (.bool true) := by rw [← HF.out]; exact X5.out.cell 6
  have f5 : w5.frozen? ⟨g5, 6, none⟩ = false := O5.out.free 6
  have o5 : w5.cell? ⟨g5, 6, none⟩ = some (.bool false) := O5.out.cell 6
  have O6 := hidB (show Bk (w5.setCell ⟨g5, 6, none⟩ (.bool true)) g5 38 (OI.cs { OI.done with fo := true }) from O5.out.set 6 _)
  have R6 := hidB (show Bk (w5.setCell ⟨g5, 6, none⟩ (.bool true)) (w.heap.size + 1 + 1 + 1) 38 OI.zero.cs from R5.out.far hn6 _)
  have B6 := hidB (show Below w.heap.size w (w5.setCell ⟨g5, 6, none⟩ (.bool true)) from B5.out.setCell (p := ⟨g5, 6, none⟩) hn7 _)
  have X6 := hidB (show Bk (w5.setCell ⟨g5, 6, none⟩ (.bool true)) (w.heap.size + 1) 38 x.cs from X5.out.far (p := ⟨g5, 6, none⟩) (show w.heap.size + 1 ≠ g5 by omega) _)
  go_upto_region 21 with fail
  generalize (w5.setCell ⟨g5, 6, none⟩ (.bool true)) = w6 at *
  have z6 : w6.cell? ⟨w.heap.size + 1, 6, none⟩ = some (.bool true) := by rw [← HF.out]; exact X6.out.cell 6
  go_wp2_with (first | ((with_reducible refine ldId 32 (.tmp 61) ?_); refine wpList_load_mid (by rfl) 32 (.tmp 61) (by rfl) (w.heap.size + 1) 7 (by rfl) (x.d.cs.toList) _ (by exact Bk.mid X6.out 7 _ rfl) Try.underlying32 (by rfl) (by kernel_rfl) ?_))
  refine (CA.out _).mono ?_; rintro e w7 ⟨rfl, hb⟩
  have O7 := hidB (O6.out.on hb)
  have R7 := hidB (R6.out.on hb)
  have B7 := hidB (B6.out.trans (hb.mono B6.out.size))
  clear hb
  have O8 := hidB (show Bk (w7.setCells g5 7 (c.cs.toList)) g5 38 (OI.cs { OI.done with fo := true, d := c }) from Bk.setCells2 O7.out (c.cs.toList) 7 (Nat.le_of_ble_eq_true rfl) (by rfl))
  have R8 := hidB (show Bk (w7.setCells g5 7 (c.cs.toList)) (w.heap.size + 1 + 1 + 1) 38 OI.zero.cs from Bk.setCells_far hn6 (c.cs.toList) 7 R7.out)
  have B8 := hidB (show Below w.heap.size w (w7.setCells g5 7 (c.cs.toList)) from below_setCells hn7 (c.cs.toList) 7 B7.out)
  go_wp2_with (first | ((with_reducible refine stId 32 (.tmp 66) (.tmp 64) ?_); refine wpList_store_mid (by rfl) 32 (.tmp 66) (.tmp 64) (by rfl) g5 7 c.cs (by rfl) (by rfl) (by exact Bk.there O7.out 7 16 (by decide)) (by exact size_desc) (by exact DI.one _) ?_; generalize (w7.setCells g5 7 _) = w8 at *) | ((with_reducible refine ldId 38 (.tmp 11) ?_); refine wpList_load_row (by rfl) 38 (.tmp 11) (by rfl) g5 (by rfl) 38 _ (0, 0) _ (by exact O8.out) Try.underlying38 (by rfl) (by exact size_out) ?_) | ((with_reducible refine stId 38 (.tmp 6) (.tmp 67) ?_); refine wpList_store_row (by rfl) 38 (.tmp 6) (.tmp 67) (by rfl) (w.heap.size + 1 + 1 + 1) ({ OI.done with fo := true, d := c } : OI).cs (by rfl) (by rfl) 38 OI.zero.cs (by exact R8.out) (by exact size_out) (by rfl) (by exact OI.one _ (by rfl)) ?_))
  exact bodyPost_ret (v := .tuple #[OI.a { OI.done with fo := true, d := c }, .bool true, .int .i64 0]) (results_row3 Try.results13 _ _ (w.heap.size + 1 + 1 + 1) 38 (OI.cs { OI.done with fo := true, d := c }) (0, 0) _ rfl (R8.out.setRow _) Try.underlying38 rfl size_out) rfl ⟨rfl, below_setRow B8.out (by omega) _⟩

end Go.Proofs.Ytlpldhcoplbopaa
