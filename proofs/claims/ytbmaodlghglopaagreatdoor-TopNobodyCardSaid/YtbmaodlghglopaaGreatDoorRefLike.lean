/-
  What reads alike is the same, as the reference says.
-/
import Derived.Test.YtbmaodlghglopaaGreatDoorMxA
import Derived.Test.YtbmaodlghglopaaGreatDoorMxZ
namespace Go.Proofs.YtbmaodlghglopaaGreatDoor
open Go.RowKit

theorem rangeKeepR {w W : World} {g o : Nat} {p : PI} (h : w.rangeAt g o p.cs.toList) (hb : Below w.heap.size w W) (hg : g < w.heap.size) : W.rangeAt g o p.k.cells := by
  intro j u hu
  refine rangeOn hb hg h j u ?_
  have hj : j < 2 := (List.getElem?_eq_some_iff.1 hu).1
  match j, hj with
  | 0, _ => exact hu
  | 1, _ => exact hu
theorem rangeKeepD {w W : World} {g o : Nat} {p : PI} (h : w.rangeAt g o p.cs.toList) (hb : Below w.heap.size w W) (hg : g < w.heap.size) : W.rangeAt g (o + 2) p.d.cs.toList := by
  intro j u hu
  rw [Nat.add_assoc]
  refine rangeOn hb hg h (2 + j) u ?_
  rw [Nat.add_comm]
  exact hu

theorem KI.eq_selfR (k : KI) : KI.eq k k = true := by unfold KI.eq; simp
set_option maxHeartbeats 8000000 in
set_option maxRecDepth 100000 in
theorem rlike_self (v : VI) (w : World) : Calls Tryz.prog 45 #[v.a, v.a] w fun e w' => e = .returned (.bool true) ∧ Below w.heap.size w w' := by
  have HN : Fl.isNaN v.x = true ∨ Fl.isNaN v.x = false := by cases Fl.isNaN v.x <;> simp
  rcases HN with hn | hn
  all_goals first | have ho := ordN hn v.x | have ho := ordE hn
  all_goals clear hn
  all_goals
    have X := hidB (show Bk ((w.alloc (.cells (v.cells.toArray) 29)).alloc (.cells (v.cells.toArray) 29)) (w.heap.size) 29 (v.cells.toArray) from (Bk.new w _ _).alloc _)
    have Y := hidB (show Bk ((w.alloc (.cells (v.cells.toArray) 29)).alloc (.cells (v.cells.toArray) 29)) (w.heap.size + 1) 29 (v.cells.toArray) from Bk.new2 w _ _ _)
    have B := hidB (show Below w.heap.size w ((w.alloc (.cells (v.cells.toArray) 29)).alloc (.cells (v.cells.toArray) 29)) from (box_one w _).alloc (by simp) _)
    go_enter Tryz.func45, Tryz.ntmps45
    go_upto_region 1 with fail
    generalize hW : ((w.alloc (.cells (v.cells.toArray) 29)).alloc (.cells (v.cells.toArray) 29)) = w1 at *
    clear hW
    have x0 : w1.cell? ⟨w.heap.size, 0, none⟩ = some (.int .u8 v.k) := X.out.cell 0
    have x1 : w1.cell? ⟨w.heap.size, 1, none⟩ = some (.float .f64 v.x) := X.out.cell 1
    have x2 : w1.cell? ⟨w.heap.size, 2, none⟩ = some (.string v.s) := X.out.cell 2
    have x3 : w1.cell? ⟨w.heap.size, 3, none⟩ = some (.int .i64 v.r) := X.out.cell 3
    have y0 : w1.cell? ⟨w.heap.size + 1, 0, none⟩ = some (.int .u8 v.k) := Y.out.cell 0
    have y1 : w1.cell? ⟨w.heap.size + 1, 1, none⟩ = some (.float .f64 v.x) := Y.out.cell 1
    have y2 : w1.cell? ⟨w.heap.size + 1, 2, none⟩ = some (.string v.s) := Y.out.cell 2
    have y3 : w1.cell? ⟨w.heap.size + 1, 3, none⟩ = some (.int .i64 v.r) := Y.out.cell 3
    go_wp2_with fail
    go_ret
    exact ⟨rfl, B.out⟩
set_option maxHeartbeats 8000000 in
set_option maxRecDepth 100000 in
theorem rlikeD_self (d : DI) (w : World) : Calls Tryz.prog 46 #[d.a, d.a] w fun e w' => e = .returned (.bool true) ∧ Below w.heap.size w w' := by
  have X := hidB (show Bk ((w.alloc (.cells (d.cs) 31)).alloc (.cells (d.cs) 31)) (w.heap.size) 31 (d.cs) from (Bk.new w _ _).alloc _)
  have Y := hidB (show Bk ((w.alloc (.cells (d.cs) 31)).alloc (.cells (d.cs) 31)) (w.heap.size + 1) 31 (d.cs) from Bk.new2 w _ _ _)
  have B := hidB (show Below w.heap.size w ((w.alloc (.cells (d.cs) 31)).alloc (.cells (d.cs) 31)) from (box_one w _).alloc (by simp) _)
  go_enter Tryz.func46, Tryz.ntmps46
  go_upto_region 1 with fail
  generalize hW : ((w.alloc (.cells (d.cs) 31)).alloc (.cells (d.cs) 31)) = w1 at *
  clear hW
  have x0 : w1.cell? ⟨w.heap.size, 0, none⟩ = some (.int .u8 d.has) := X.out.cell 0
  have x13 : w1.cell? ⟨w.heap.size, 13, none⟩ = some (.bool d.wr) := X.out.cell 13
  have x14 : w1.cell? ⟨w.heap.size, 14, none⟩ = some (.bool d.en) := X.out.cell 14
  have x15 : w1.cell? ⟨w.heap.size, 15, none⟩ = some (.bool d.cf) := X.out.cell 15
  have y0 : w1.cell? ⟨w.heap.size + 1, 0, none⟩ = some (.int .u8 d.has) := Y.out.cell 0
  have y13 : w1.cell? ⟨w.heap.size + 1, 13, none⟩ = some (.bool d.wr) := Y.out.cell 13
  have y14 : w1.cell? ⟨w.heap.size + 1, 14, none⟩ = some (.bool d.en) := Y.out.cell 14
  have y15 : w1.cell? ⟨w.heap.size + 1, 15, none⟩ = some (.bool d.cf) := Y.out.cell 15
  go_wp2_with (first | ((with_reducible refine ldId 29 (.tmp 32) ?_); refine wpList_wload_mid 29 (.tmp 32) (by rfl) (by rfl) (w.heap.size) 1 (by rfl) (d.v.cells) _ (by exact Bk.mid X.out 1 _ rfl) Tryz.underlying29 (by rfl) (by kernel_rfl) ?_) | ((with_reducible refine ldId 29 (.tmp 34) ?_); refine wpList_wload_mid 29 (.tmp 34) (by rfl) (by rfl) (w.heap.size + 1) 1 (by rfl) (d.v.cells) _ (by exact Bk.mid Y.out 1 _ rfl) Tryz.underlying29 (by rfl) (by kernel_rfl) ?_) | ((with_reducible refine ldId 29 (.tmp 39) ?_); refine wpList_wload_mid 29 (.tmp 39) (by rfl) (by rfl) (w.heap.size) 5 (by rfl) (d.g.cells) _ (by exact Bk.mid X.out 5 _ rfl) Tryz.underlying29 (by rfl) (by kernel_rfl) ?_) | ((with_reducible refine ldId 29 (.tmp 41) ?_); refine wpList_wload_mid 29 (.tmp 41) (by rfl) (by rfl) (w.heap.size + 1) 5 (by rfl) (d.g.cells) _ (by exact Bk.mid Y.out 5 _ rfl) Tryz.underlying29 (by rfl) (by kernel_rfl) ?_) | ((with_reducible refine ldId 29 (.tmp 46) ?_); refine wpList_wload_mid 29 (.tmp 46) (by rfl) (by rfl) (w.heap.size) 9 (by rfl) (d.t.cells) _ (by exact Bk.mid X.out 9 _ rfl) Tryz.underlying29 (by rfl) (by kernel_rfl) ?_) | ((with_reducible refine ldId 29 (.tmp 48) ?_); refine wpList_wload_mid 29 (.tmp 48) (by rfl) (by rfl) (w.heap.size + 1) 9 (by rfl) (d.t.cells) _ (by exact Bk.mid Y.out 9 _ rfl) Tryz.underlying29 (by rfl) (by kernel_rfl) ?_) | (go_at_call 45; with_reducible refine (rlike_self d.v _).mono ?_; rintro e v1 ⟨rfl, hb⟩; replace X := hidB (X.out.on hb); replace Y := hidB (Y.out.on hb); replace B := hidB (B.out.trans (hb.mono B.out.size)); clear hb) | (go_at_call 45; with_reducible refine (rlike_self d.g _).mono ?_; rintro e v1 ⟨rfl, hb⟩; replace X := hidB (X.out.on hb); replace Y := hidB (Y.out.on hb); replace B := hidB (B.out.trans (hb.mono B.out.size)); clear hb) | (go_at_call 45; with_reducible refine (rlike_self d.t _).mono ?_; rintro e v1 ⟨rfl, hb⟩; replace X := hidB (X.out.on hb); replace Y := hidB (Y.out.on hb); replace B := hidB (B.out.trans (hb.mono B.out.size)); clear hb))
  go_ret
  exact ⟨rfl, B.out⟩
set_option maxHeartbeats 8000000 in
set_option maxRecDepth 100000 in
theorem rlikeO_self (o : OJ) (pv : Value) (l : List PI) (w : World) (hr1 : RdP l o.props w) (hr2 : RdP l pv w) : Calls Tryz.prog 26 #[o.a, ({ o with props := pv } : OJ).a] w fun e w' => e = .returned (.bool true) ∧ Below w.heap.size w w' := by
  obtain ⟨p1, c1, hp1, a1, a2, a3⟩ := hr1
  obtain ⟨p2, c2, hp2, b1, b2, b3⟩ := hr2
  unfold maxLen at a2 b2
  have hlm : l.length ≤ 9223372036854775807 := by omega
  have HA := hidB a3
  have HB := hidB b3
  have HP1 := hidB hp1
  have HP2 := hidB hp2
  clear a3 b3 hp1 hp2
  have X := hidB (show Bk ((w.alloc (.cells (o.cs) 42)).alloc (.cells (({ o with props := pv } : OJ).cs) 42)) (w.heap.size) 42 (o.cs) from (Bk.new w _ _).alloc _)
  have Y := hidB (show Bk ((w.alloc (.cells (o.cs) 42)).alloc (.cells (({ o with props := pv } : OJ).cs) 42)) (w.heap.size + 1) 42 (({ o with props := pv } : OJ).cs) from Bk.new2 w _ _ _)
  have B := hidB (show Below w.heap.size w ((w.alloc (.cells (o.cs) 42)).alloc (.cells (({ o with props := pv } : OJ).cs) 42)) from (box_one w _).alloc (by simp) _)
  go_enter Tryz.func26, Tryz.ntmps26
  have x0 : ((w.alloc (.cells (o.cs) 42)).alloc (.cells (({ o with props := pv } : OJ).cs) 42)).cell? ⟨w.heap.size, 0, none⟩ = some (.int .u8 o.kd) := X.out.cell 0
  have x5 : ((w.alloc (.cells (o.cs) 42)).alloc (.cells (({ o with props := pv } : OJ).cs) 42)).cell? ⟨w.heap.size, 5, none⟩ = some (.bool o.ext) := X.out.cell 5
  have x15 : ((w.alloc (.cells (o.cs) 42)).alloc (.cells (({ o with props := pv } : OJ).cs) 42)).cell? ⟨w.heap.size, 15, none⟩ = some (.string o.tx) := X.out.cell 15
  have x16 : ((w.alloc (.cells (o.cs) 42)).alloc (.cells (({ o with props := pv } : OJ).cs) 42)).cell? ⟨w.heap.size, 16, none⟩ = some (.bool o.ca) := X.out.cell 16
  have x17 : ((w.alloc (.cells (o.cs) 42)).alloc (.cells (({ o with props := pv } : OJ).cs) 42)).cell? ⟨w.heap.size, 17, none⟩ = some (.bool o.ma) := X.out.cell 17
  have x1 : ((w.alloc (.cells (o.cs) 42)).alloc (.cells (({ o with props := pv } : OJ).cs) 42)).cell? ⟨w.heap.size, 1, none⟩ = some (.int .u8 o.pr.k) := X.out.cell 1
  have x2 : ((w.alloc (.cells (o.cs) 42)).alloc (.cells (({ o with props := pv } : OJ).cs) 42)).cell? ⟨w.heap.size, 2, none⟩ = some (.float .f64 o.pr.x) := X.out.cell 2
  have x3 : ((w.alloc (.cells (o.cs) 42)).alloc (.cells (({ o with props := pv } : OJ).cs) 42)).cell? ⟨w.heap.size, 3, none⟩ = some (.string o.pr.s) := X.out.cell 3
  have x4 : ((w.alloc (.cells (o.cs) 42)).alloc (.cells (({ o with props := pv } : OJ).cs) 42)).cell? ⟨w.heap.size, 4, none⟩ = some (.int .i64 o.pr.r) := X.out.cell 4
  have x7 : ((w.alloc (.cells (o.cs) 42)).alloc (.cells (({ o with props := pv } : OJ).cs) 42)).cell? ⟨w.heap.size, 7, none⟩ = some (.int .u8 o.tg.k) := X.out.cell 7
  have x8 : ((w.alloc (.cells (o.cs) 42)).alloc (.cells (({ o with props := pv } : OJ).cs) 42)).cell? ⟨w.heap.size, 8, none⟩ = some (.float .f64 o.tg.x) := X.out.cell 8
  have x9 : ((w.alloc (.cells (o.cs) 42)).alloc (.cells (({ o with props := pv } : OJ).cs) 42)).cell? ⟨w.heap.size, 9, none⟩ = some (.string o.tg.s) := X.out.cell 9
  have x10 : ((w.alloc (.cells (o.cs) 42)).alloc (.cells (({ o with props := pv } : OJ).cs) 42)).cell? ⟨w.heap.size, 10, none⟩ = some (.int .i64 o.tg.r) := X.out.cell 10
  have x11 : ((w.alloc (.cells (o.cs) 42)).alloc (.cells (({ o with props := pv } : OJ).cs) 42)).cell? ⟨w.heap.size, 11, none⟩ = some (.int .u8 o.hd.k) := X.out.cell 11
  have x12 : ((w.alloc (.cells (o.cs) 42)).alloc (.cells (({ o with props := pv } : OJ).cs) 42)).cell? ⟨w.heap.size, 12, none⟩ = some (.float .f64 o.hd.x) := X.out.cell 12
  have x13 : ((w.alloc (.cells (o.cs) 42)).alloc (.cells (({ o with props := pv } : OJ).cs) 42)).cell? ⟨w.heap.size, 13, none⟩ = some (.string o.hd.s) := X.out.cell 13
  have x14 : ((w.alloc (.cells (o.cs) 42)).alloc (.cells (({ o with props := pv } : OJ).cs) 42)).cell? ⟨w.heap.size, 14, none⟩ = some (.int .i64 o.hd.r) := X.out.cell 14
  have y0 : ((w.alloc (.cells (o.cs) 42)).alloc (.cells (({ o with props := pv } : OJ).cs) 42)).cell? ⟨w.heap.size + 1, 0, none⟩ = some (.int .u8 o.kd) := Y.out.cell 0
  have y5 : ((w.alloc (.cells (o.cs) 42)).alloc (.cells (({ o with props := pv } : OJ).cs) 42)).cell? ⟨w.heap.size + 1, 5, none⟩ = some (.bool o.ext) := Y.out.cell 5
  have y15 : ((w.alloc (.cells (o.cs) 42)).alloc (.cells (({ o with props := pv } : OJ).cs) 42)).cell? ⟨w.heap.size + 1, 15, none⟩ = some (.string o.tx) := Y.out.cell 15
  have y16 : ((w.alloc (.cells (o.cs) 42)).alloc (.cells (({ o with props := pv } : OJ).cs) 42)).cell? ⟨w.heap.size + 1, 16, none⟩ = some (.bool o.ca) := Y.out.cell 16
  have y17 : ((w.alloc (.cells (o.cs) 42)).alloc (.cells (({ o with props := pv } : OJ).cs) 42)).cell? ⟨w.heap.size + 1, 17, none⟩ = some (.bool o.ma) := Y.out.cell 17
  have y1 : ((w.alloc (.cells (o.cs) 42)).alloc (.cells (({ o with props := pv } : OJ).cs) 42)).cell? ⟨w.heap.size + 1, 1, none⟩ = some (.int .u8 o.pr.k) := Y.out.cell 1
  have y2 : ((w.alloc (.cells (o.cs) 42)).alloc (.cells (({ o with props := pv } : OJ).cs) 42)).cell? ⟨w.heap.size + 1, 2, none⟩ = some (.float .f64 o.pr.x) := Y.out.cell 2
  have y3 : ((w.alloc (.cells (o.cs) 42)).alloc (.cells (({ o with props := pv } : OJ).cs) 42)).cell? ⟨w.heap.size + 1, 3, none⟩ = some (.string o.pr.s) := Y.out.cell 3
  have y4 : ((w.alloc (.cells (o.cs) 42)).alloc (.cells (({ o with props := pv } : OJ).cs) 42)).cell? ⟨w.heap.size + 1, 4, none⟩ = some (.int .i64 o.pr.r) := Y.out.cell 4
  have y7 : ((w.alloc (.cells (o.cs) 42)).alloc (.cells (({ o with props := pv } : OJ).cs) 42)).cell? ⟨w.heap.size + 1, 7, none⟩ = some (.int .u8 o.tg.k) := Y.out.cell 7
  have y8 : ((w.alloc (.cells (o.cs) 42)).alloc (.cells (({ o with props := pv } : OJ).cs) 42)).cell? ⟨w.heap.size + 1, 8, none⟩ = some (.float .f64 o.tg.x) := Y.out.cell 8
  have y9 : ((w.alloc (.cells (o.cs) 42)).alloc (.cells (({ o with props := pv } : OJ).cs) 42)).cell? ⟨w.heap.size + 1, 9, none⟩ = some (.string o.tg.s) := Y.out.cell 9
  have y10 : ((w.alloc (.cells (o.cs) 42)).alloc (.cells (({ o with props := pv } : OJ).cs) 42)).cell? ⟨w.heap.size + 1, 10, none⟩ = some (.int .i64 o.tg.r) := Y.out.cell 10
  have y11 : ((w.alloc (.cells (o.cs) 42)).alloc (.cells (({ o with props := pv } : OJ).cs) 42)).cell? ⟨w.heap.size + 1, 11, none⟩ = some (.int .u8 o.hd.k) := Y.out.cell 11
  have y12 : ((w.alloc (.cells (o.cs) 42)).alloc (.cells (({ o with props := pv } : OJ).cs) 42)).cell? ⟨w.heap.size + 1, 12, none⟩ = some (.float .f64 o.hd.x) := Y.out.cell 12
  have y13 : ((w.alloc (.cells (o.cs) 42)).alloc (.cells (({ o with props := pv } : OJ).cs) 42)).cell? ⟨w.heap.size + 1, 13, none⟩ = some (.string o.hd.s) := Y.out.cell 13
  have y14 : ((w.alloc (.cells (o.cs) 42)).alloc (.cells (({ o with props := pv } : OJ).cs) 42)).cell? ⟨w.heap.size + 1, 14, none⟩ = some (.int .i64 o.hd.r) := Y.out.cell 14
  have x6 : ((w.alloc (.cells (o.cs) 42)).alloc (.cells (({ o with props := pv } : OJ).cs) 42)).cell? ⟨w.heap.size, 6, none⟩ = some (.slice p1 l.length c1) := (X.out.cell 6).trans (congrArg some HP1.out)
  have y6 : ((w.alloc (.cells (o.cs) 42)).alloc (.cells (({ o with props := pv } : OJ).cs) 42)).cell? ⟨w.heap.size + 1, 6, none⟩ = some (.slice p2 l.length c2) := (Y.out.cell 6).trans (congrArg some HP2.out)
  go_wp2_with fail
  refine (rlike_self o.pr _).mono ?_; rintro e w2 ⟨rfl, hb⟩
  replace X := hidB (X.out.on hb); replace Y := hidB (Y.out.on hb); replace B := hidB (B.out.trans (hb.mono B.out.size)); clear hb
  clear x0 y0 x1 y1 x2 y2 x3 y3 x4 y4 x5 y5 x6 y6 x7 y7 x8 y8 x9 y9 x10 y10 x11 y11 x12 y12 x13 y13 x14 y14 x15 y15 x16 y16 x17 y17
  have x0 : w2.cell? ⟨w.heap.size, 0, none⟩ = some (.int .u8 o.kd) := X.out.cell 0
  have x5 : w2.cell? ⟨w.heap.size, 5, none⟩ = some (.bool o.ext) := X.out.cell 5
  have x15 : w2.cell? ⟨w.heap.size, 15, none⟩ = some (.string o.tx) := X.out.cell 15
  have x16 : w2.cell? ⟨w.heap.size, 16, none⟩ = some (.bool o.ca) := X.out.cell 16
  have x17 : w2.cell? ⟨w.heap.size, 17, none⟩ = some (.bool o.ma) := X.out.cell 17
  have x1 : w2.cell? ⟨w.heap.size, 1, none⟩ = some (.int .u8 o.pr.k) := X.out.cell 1
  have x2 : w2.cell? ⟨w.heap.size, 2, none⟩ = some (.float .f64 o.pr.x) := X.out.cell 2
  have x3 : w2.cell? ⟨w.heap.size, 3, none⟩ = some (.string o.pr.s) := X.out.cell 3
  have x4 : w2.cell? ⟨w.heap.size, 4, none⟩ = some (.int .i64 o.pr.r) := X.out.cell 4
  have x7 : w2.cell? ⟨w.heap.size, 7, none⟩ = some (.int .u8 o.tg.k) := X.out.cell 7
  have x8 : w2.cell? ⟨w.heap.size, 8, none⟩ = some (.float .f64 o.tg.x) := X.out.cell 8
  have x9 : w2.cell? ⟨w.heap.size, 9, none⟩ = some (.string o.tg.s) := X.out.cell 9
  have x10 : w2.cell? ⟨w.heap.size, 10, none⟩ = some (.int .i64 o.tg.r) := X.out.cell 10
  have x11 : w2.cell? ⟨w.heap.size, 11, none⟩ = some (.int .u8 o.hd.k) := X.out.cell 11
  have x12 : w2.cell? ⟨w.heap.size, 12, none⟩ = some (.float .f64 o.hd.x) := X.out.cell 12
  have x13 : w2.cell? ⟨w.heap.size, 13, none⟩ = some (.string o.hd.s) := X.out.cell 13
  have x14 : w2.cell? ⟨w.heap.size, 14, none⟩ = some (.int .i64 o.hd.r) := X.out.cell 14
  have y0 : w2.cell? ⟨w.heap.size + 1, 0, none⟩ = some (.int .u8 o.kd) := Y.out.cell 0
  have y5 : w2.cell? ⟨w.heap.size + 1, 5, none⟩ = some (.bool o.ext) := Y.out.cell 5
  have y15 : w2.cell? ⟨w.heap.size + 1, 15, none⟩ = some (.string o.tx) := Y.out.cell 15
  have y16 : w2.cell? ⟨w.heap.size + 1, 16, none⟩ = some (.bool o.ca) := Y.out.cell 16
  have y17 : w2.cell? ⟨w.heap.size + 1, 17, none⟩ = some (.bool o.ma) := Y.out.cell 17
  have y1 : w2.cell? ⟨w.heap.size + 1, 1, none⟩ = some (.int .u8 o.pr.k) := Y.out.cell 1
  have y2 : w2.cell? ⟨w.heap.size + 1, 2, none⟩ = some (.float .f64 o.pr.x) := Y.out.cell 2
  have y3 : w2.cell? ⟨w.heap.size + 1, 3, none⟩ = some (.string o.pr.s) := Y.out.cell 3
  have y4 : w2.cell? ⟨w.heap.size + 1, 4, none⟩ = some (.int .i64 o.pr.r) := Y.out.cell 4
  have y7 : w2.cell? ⟨w.heap.size + 1, 7, none⟩ = some (.int .u8 o.tg.k) := Y.out.cell 7
  have y8 : w2.cell? ⟨w.heap.size + 1, 8, none⟩ = some (.float .f64 o.tg.x) := Y.out.cell 8
  have y9 : w2.cell? ⟨w.heap.size + 1, 9, none⟩ = some (.string o.tg.s) := Y.out.cell 9
  have y10 : w2.cell? ⟨w.heap.size + 1, 10, none⟩ = some (.int .i64 o.tg.r) := Y.out.cell 10
  have y11 : w2.cell? ⟨w.heap.size + 1, 11, none⟩ = some (.int .u8 o.hd.k) := Y.out.cell 11
  have y12 : w2.cell? ⟨w.heap.size + 1, 12, none⟩ = some (.float .f64 o.hd.x) := Y.out.cell 12
  have y13 : w2.cell? ⟨w.heap.size + 1, 13, none⟩ = some (.string o.hd.s) := Y.out.cell 13
  have y14 : w2.cell? ⟨w.heap.size + 1, 14, none⟩ = some (.int .i64 o.hd.r) := Y.out.cell 14
  have x6 : w2.cell? ⟨w.heap.size, 6, none⟩ = some (.slice p1 l.length c1) := (X.out.cell 6).trans (congrArg some HP1.out)
  have y6 : w2.cell? ⟨w.heap.size + 1, 6, none⟩ = some (.slice p2 l.length c2) := (Y.out.cell 6).trans (congrArg some HP2.out)
  go_wp2_with fail
  refine (rlike_self o.tg _).mono ?_; rintro e w3 ⟨rfl, hb⟩
  replace X := hidB (X.out.on hb); replace Y := hidB (Y.out.on hb); replace B := hidB (B.out.trans (hb.mono B.out.size)); clear hb
  clear x0 y0 x1 y1 x2 y2 x3 y3 x4 y4 x5 y5 x6 y6 x7 y7 x8 y8 x9 y9 x10 y10 x11 y11 x12 y12 x13 y13 x14 y14 x15 y15 x16 y16 x17 y17
  have x0 : w3.cell? ⟨w.heap.size, 0, none⟩ = some (.int .u8 o.kd) := X.out.cell 0
  have x5 : w3.cell? ⟨w.heap.size, 5, none⟩ = some (.bool o.ext) := X.out.cell 5
  have x15 : w3.cell? ⟨w.heap.size, 15, none⟩ = some (.string o.tx) := X.out.cell 15
  have x16 : w3.cell? ⟨w.heap.size, 16, none⟩ = some (.bool o.ca) := X.out.cell 16
  have x17 : w3.cell? ⟨w.heap.size, 17, none⟩ = some (.bool o.ma) := X.out.cell 17
  have x1 : w3.cell? ⟨w.heap.size, 1, none⟩ = some (.int .u8 o.pr.k) := X.out.cell 1
  have x2 : w3.cell? ⟨w.heap.size, 2, none⟩ = some (.float .f64 o.pr.x) := X.out.cell 2
  have x3 : w3.cell? ⟨w.heap.size, 3, none⟩ = some (.string o.pr.s) := X.out.cell 3
  have x4 : w3.cell? ⟨w.heap.size, 4, none⟩ = some (.int .i64 o.pr.r) := X.out.cell 4
  have x7 : w3.cell? ⟨w.heap.size, 7, none⟩ = some (.int .u8 o.tg.k) := X.out.cell 7
  have x8 : w3.cell? ⟨w.heap.size, 8, none⟩ = some (.float .f64 o.tg.x) := X.out.cell 8
  have x9 : w3.cell? ⟨w.heap.size, 9, none⟩ = some (.string o.tg.s) := X.out.cell 9
  have x10 : w3.cell? ⟨w.heap.size, 10, none⟩ = some (.int .i64 o.tg.r) := X.out.cell 10
  have x11 : w3.cell? ⟨w.heap.size, 11, none⟩ = some (.int .u8 o.hd.k) := X.out.cell 11
  have x12 : w3.cell? ⟨w.heap.size, 12, none⟩ = some (.float .f64 o.hd.x) := X.out.cell 12
  have x13 : w3.cell? ⟨w.heap.size, 13, none⟩ = some (.string o.hd.s) := X.out.cell 13
  have x14 : w3.cell? ⟨w.heap.size, 14, none⟩ = some (.int .i64 o.hd.r) := X.out.cell 14
  have y0 : w3.cell? ⟨w.heap.size + 1, 0, none⟩ = some (.int .u8 o.kd) := Y.out.cell 0
  have y5 : w3.cell? ⟨w.heap.size + 1, 5, none⟩ = some (.bool o.ext) := Y.out.cell 5
  have y15 : w3.cell? ⟨w.heap.size + 1, 15, none⟩ = some (.string o.tx) := Y.out.cell 15
  have y16 : w3.cell? ⟨w.heap.size + 1, 16, none⟩ = some (.bool o.ca) := Y.out.cell 16
  have y17 : w3.cell? ⟨w.heap.size + 1, 17, none⟩ = some (.bool o.ma) := Y.out.cell 17
  have y1 : w3.cell? ⟨w.heap.size + 1, 1, none⟩ = some (.int .u8 o.pr.k) := Y.out.cell 1
  have y2 : w3.cell? ⟨w.heap.size + 1, 2, none⟩ = some (.float .f64 o.pr.x) := Y.out.cell 2
  have y3 : w3.cell? ⟨w.heap.size + 1, 3, none⟩ = some (.string o.pr.s) := Y.out.cell 3
  have y4 : w3.cell? ⟨w.heap.size + 1, 4, none⟩ = some (.int .i64 o.pr.r) := Y.out.cell 4
  have y7 : w3.cell? ⟨w.heap.size + 1, 7, none⟩ = some (.int .u8 o.tg.k) := Y.out.cell 7
  have y8 : w3.cell? ⟨w.heap.size + 1, 8, none⟩ = some (.float .f64 o.tg.x) := Y.out.cell 8
  have y9 : w3.cell? ⟨w.heap.size + 1, 9, none⟩ = some (.string o.tg.s) := Y.out.cell 9
  have y10 : w3.cell? ⟨w.heap.size + 1, 10, none⟩ = some (.int .i64 o.tg.r) := Y.out.cell 10
  have y11 : w3.cell? ⟨w.heap.size + 1, 11, none⟩ = some (.int .u8 o.hd.k) := Y.out.cell 11
  have y12 : w3.cell? ⟨w.heap.size + 1, 12, none⟩ = some (.float .f64 o.hd.x) := Y.out.cell 12
  have y13 : w3.cell? ⟨w.heap.size + 1, 13, none⟩ = some (.string o.hd.s) := Y.out.cell 13
  have y14 : w3.cell? ⟨w.heap.size + 1, 14, none⟩ = some (.int .i64 o.hd.r) := Y.out.cell 14
  have x6 : w3.cell? ⟨w.heap.size, 6, none⟩ = some (.slice p1 l.length c1) := (X.out.cell 6).trans (congrArg some HP1.out)
  have y6 : w3.cell? ⟨w.heap.size + 1, 6, none⟩ = some (.slice p2 l.length c2) := (Y.out.cell 6).trans (congrArg some HP2.out)
  go_wp2_with fail
  refine (rlike_self o.hd _).mono ?_; rintro e w4 ⟨rfl, hb⟩
  replace X := hidB (X.out.on hb); replace Y := hidB (Y.out.on hb); replace B := hidB (B.out.trans (hb.mono B.out.size)); clear hb
  clear x0 y0 x1 y1 x2 y2 x3 y3 x4 y4 x5 y5 x6 y6 x7 y7 x8 y8 x9 y9 x10 y10 x11 y11 x12 y12 x13 y13 x14 y14 x15 y15 x16 y16 x17 y17
  have x0 : w4.cell? ⟨w.heap.size, 0, none⟩ = some (.int .u8 o.kd) := X.out.cell 0
  have x5 : w4.cell? ⟨w.heap.size, 5, none⟩ = some (.bool o.ext) := X.out.cell 5
  have x15 : w4.cell? ⟨w.heap.size, 15, none⟩ = some (.string o.tx) := X.out.cell 15
  have x16 : w4.cell? ⟨w.heap.size, 16, none⟩ = some (.bool o.ca) := X.out.cell 16
  have x17 : w4.cell? ⟨w.heap.size, 17, none⟩ = some (.bool o.ma) := X.out.cell 17
  have x1 : w4.cell? ⟨w.heap.size, 1, none⟩ = some (.int .u8 o.pr.k) := X.out.cell 1
  have x2 : w4.cell? ⟨w.heap.size, 2, none⟩ = some (.float .f64 o.pr.x) := X.out.cell 2
  have x3 : w4.cell? ⟨w.heap.size, 3, none⟩ = some (.string o.pr.s) := X.out.cell 3
  have x4 : w4.cell? ⟨w.heap.size, 4, none⟩ = some (.int .i64 o.pr.r) := X.out.cell 4
  have x7 : w4.cell? ⟨w.heap.size, 7, none⟩ = some (.int .u8 o.tg.k) := X.out.cell 7
  have x8 : w4.cell? ⟨w.heap.size, 8, none⟩ = some (.float .f64 o.tg.x) := X.out.cell 8
  have x9 : w4.cell? ⟨w.heap.size, 9, none⟩ = some (.string o.tg.s) := X.out.cell 9
  have x10 : w4.cell? ⟨w.heap.size, 10, none⟩ = some (.int .i64 o.tg.r) := X.out.cell 10
  have x11 : w4.cell? ⟨w.heap.size, 11, none⟩ = some (.int .u8 o.hd.k) := X.out.cell 11
  have x12 : w4.cell? ⟨w.heap.size, 12, none⟩ = some (.float .f64 o.hd.x) := X.out.cell 12
  have x13 : w4.cell? ⟨w.heap.size, 13, none⟩ = some (.string o.hd.s) := X.out.cell 13
  have x14 : w4.cell? ⟨w.heap.size, 14, none⟩ = some (.int .i64 o.hd.r) := X.out.cell 14
  have y0 : w4.cell? ⟨w.heap.size + 1, 0, none⟩ = some (.int .u8 o.kd) := Y.out.cell 0
  have y5 : w4.cell? ⟨w.heap.size + 1, 5, none⟩ = some (.bool o.ext) := Y.out.cell 5
  have y15 : w4.cell? ⟨w.heap.size + 1, 15, none⟩ = some (.string o.tx) := Y.out.cell 15
  have y16 : w4.cell? ⟨w.heap.size + 1, 16, none⟩ = some (.bool o.ca) := Y.out.cell 16
  have y17 : w4.cell? ⟨w.heap.size + 1, 17, none⟩ = some (.bool o.ma) := Y.out.cell 17
  have y1 : w4.cell? ⟨w.heap.size + 1, 1, none⟩ = some (.int .u8 o.pr.k) := Y.out.cell 1
  have y2 : w4.cell? ⟨w.heap.size + 1, 2, none⟩ = some (.float .f64 o.pr.x) := Y.out.cell 2
  have y3 : w4.cell? ⟨w.heap.size + 1, 3, none⟩ = some (.string o.pr.s) := Y.out.cell 3
  have y4 : w4.cell? ⟨w.heap.size + 1, 4, none⟩ = some (.int .i64 o.pr.r) := Y.out.cell 4
  have y7 : w4.cell? ⟨w.heap.size + 1, 7, none⟩ = some (.int .u8 o.tg.k) := Y.out.cell 7
  have y8 : w4.cell? ⟨w.heap.size + 1, 8, none⟩ = some (.float .f64 o.tg.x) := Y.out.cell 8
  have y9 : w4.cell? ⟨w.heap.size + 1, 9, none⟩ = some (.string o.tg.s) := Y.out.cell 9
  have y10 : w4.cell? ⟨w.heap.size + 1, 10, none⟩ = some (.int .i64 o.tg.r) := Y.out.cell 10
  have y11 : w4.cell? ⟨w.heap.size + 1, 11, none⟩ = some (.int .u8 o.hd.k) := Y.out.cell 11
  have y12 : w4.cell? ⟨w.heap.size + 1, 12, none⟩ = some (.float .f64 o.hd.x) := Y.out.cell 12
  have y13 : w4.cell? ⟨w.heap.size + 1, 13, none⟩ = some (.string o.hd.s) := Y.out.cell 13
  have y14 : w4.cell? ⟨w.heap.size + 1, 14, none⟩ = some (.int .i64 o.hd.r) := Y.out.cell 14
  have x6 : w4.cell? ⟨w.heap.size, 6, none⟩ = some (.slice p1 l.length c1) := (X.out.cell 6).trans (congrArg some HP1.out)
  have y6 : w4.cell? ⟨w.heap.size + 1, 6, none⟩ = some (.slice p2 l.length c2) := (Y.out.cell 6).trans (congrArg some HP2.out)
  go_upto_region 3 with fail
  clear x0 y0 x1 y1 x2 y2 x3 y3 x4 y4 x5 y5 x6 y6 x7 y7 x8 y8 x9 y9 x10 y10 x11 y11 x12 y12 x13 y13 x14 y14 x15 y15 x16 y16 x17 y17
  go_wp2_with fail
  skip
  go_loopw [5] (fun s5 wr => ∃ i : Nat, i ≤ l.length ∧ s5 = .int .i64 i ∧ Bk wr w.heap.size 42 o.cs ∧ Bk wr (w.heap.size + 1) 42 ({ o with props := pv } : OJ).cs ∧ Below w.heap.size w wr) (fun i _ => l.length - (intOf i).toNat)
  case atStart => exact ⟨0, by omega, rfl, X.out, Y.out, B.out⟩
  case round =>
    clear X Y B
    obtain ⟨i, hi, rfl, hX, hY, hb⟩ := hrel
    have X := hidB hX
    have Y := hidB hY
    have B := hidB hb
    clear hX hY hb
    have hx2 : (0 : Int) ≤ (i : Int) := by omega
    have x6 : wr.cell? ⟨w.heap.size, 6, none⟩ = some (.slice p1 l.length c1) := (X.out.cell 6).trans (congrArg some HP1.out)
    by_cases hlt : i < l.length
    rotate_left
    · obtain rfl : i = l.length := by omega
      have hx4 : ¬ ((l.length : Int) < (l.length : Int)) := by omega
      clear HA HB hi hlt
      go_wp2_with fail
      go_ret
      exact ⟨rfl, B.out⟩
    have hx1 : (i : Int) < (l.length : Int) := by omega
    obtain ⟨g1, o1, rfl, hg1, hr1⟩ := HA.out (by omega)
    obtain ⟨g2, o2, rfl, hg2, hr2⟩ := HB.out (by omega)
    have HK1 := hidB (fun W (hS : Below w.heap.size w W) => rangeKeepR (hr1 i hlt) hS hg1)
    have HD1 := hidB (fun W (hS : Below w.heap.size w W) => rangeKeepD (hr1 i hlt) hS hg1)
    have HK2 := hidB (fun W (hS : Below w.heap.size w W) => rangeKeepR (hr2 i hlt) hS hg2)
    have HD2 := hidB (fun W (hS : Below w.heap.size w W) => rangeKeepD (hr2 i hlt) hS hg2)
    clear hr1 hr2 hg1 hg2
    generalize l[i]'hlt = p0 at *
    have z1 : Tryz.prog.eqGuardType Tryz.prog.depth 26 = false := by kernel_rfl
    have V1 : ∀ W : World, (Op.equalIn 10000 26 p0.k.a p0.k.a).run Tryz.prog W = .ok true W := fun W => (equal_key 9998 p0.k p0.k W).trans (by rw [KI.eq_selfR])
    go_upto_region 6 with fail
    clear x6
    refine wp_region_noPanic ?_
    refine wp_region_held_drew (S := fun W => Below w.heap.size w W ∧ Bk W w.heap.size 42 o.cs ∧ Bk W (w.heap.size + 1) 42 ({ o with props := pv } : OJ).cs) (by kernel_rfl) ?_ (fun hHeld => ?_)
    · exact ⟨B.out.drew, X.out.drew, Y.out.drew⟩
    generalize hWd : wr.drew = wd at *
    clear hWd
    first | (refine wpAnyH_take (i := 0) (v := undef) (by exact gE rfl) (by kernel_rfl) (by kernel_rfl) (by kernel_rfl) (fun _ _ _ h => h) (Or.inr ⟨?_, rfl⟩) (by assumption) ?_; (rfl); try simp only [Act.put, List.setIfInBounds_toArray, List.set_cons_zero, List.set_cons_succ]) | (refine wpAnyH_take (i := 0) (v := ?_) (by exact gE rfl) (by kernel_rfl) (by kernel_rfl) (by kernel_rfl) (fun _ _ _ h => h) (Or.inl ⟨?_, ?_⟩) (by assumption) ?_; rotate_left; (rfl); (focus (intro w hSw; (try dsimp only at hSw); go_simp; try with_reducible rfl)); try simp only [Act.put, List.setIfInBounds_toArray, List.set_cons_zero, List.set_cons_succ])
    first | (refine wpAnyH_take (i := 1) (v := undef) (by exact gE rfl) (by kernel_rfl) (by kernel_rfl) (by kernel_rfl) (fun _ _ _ h => h) (Or.inr ⟨?_, rfl⟩) (by assumption) ?_; (rfl); try simp only [Act.put, List.setIfInBounds_toArray, List.set_cons_zero, List.set_cons_succ]) | (refine wpAnyH_take (i := 1) (v := ?_) (by exact gE rfl) (by kernel_rfl) (by kernel_rfl) (by kernel_rfl) (fun _ _ _ h => h) (Or.inl ⟨?_, ?_⟩) (by assumption) ?_; rotate_left; (rfl); (focus (intro W hSw; have hc0 := (show W.cell? ⟨w.heap.size, 6, none⟩ = some (.slice (some ⟨g1, o1, none⟩) l.length c1) from (hSw.2.1.cell 6).trans (congrArg some HP1.out)); clear hSw; go_simp; try with_reducible rfl)); try simp only [Act.put, List.setIfInBounds_toArray, List.set_cons_zero, List.set_cons_succ])
    first | (refine wpAnyH_take (i := 2) (v := undef) (by exact gE rfl) (by kernel_rfl) (by kernel_rfl) (by kernel_rfl) (fun _ _ _ h => h) (Or.inr ⟨?_, rfl⟩) (by assumption) ?_; (rfl); try simp only [Act.put, List.setIfInBounds_toArray, List.set_cons_zero, List.set_cons_succ]) | (refine wpAnyH_take (i := 2) (v := ?_) (by exact gE rfl) (by kernel_rfl) (by kernel_rfl) (by kernel_rfl) (fun _ _ _ h => h) (Or.inl ⟨?_, ?_⟩) (by assumption) ?_; rotate_left; (rfl); (focus (intro w hSw; (try dsimp only at hSw); go_simp; try with_reducible rfl)); try simp only [Act.put, List.setIfInBounds_toArray, List.set_cons_zero, List.set_cons_succ])
    first | (refine wpAnyH_take (i := 3) (v := undef) (by exact gE rfl) (by kernel_rfl) (by kernel_rfl) (by kernel_rfl) (fun _ _ _ h => h) (Or.inr ⟨?_, rfl⟩) (by assumption) ?_; (rfl); try simp only [Act.put, List.setIfInBounds_toArray, List.set_cons_zero, List.set_cons_succ]) | (refine wpAnyH_take (i := 3) (v := ?_) (by exact gE rfl) (by kernel_rfl) (by kernel_rfl) (by kernel_rfl) (fun _ _ _ h => h) (Or.inl ⟨?_, ?_⟩) (by assumption) ?_; rotate_left; (rfl); (focus (intro w hSw; (try dsimp only at hSw); go_simp; try with_reducible rfl)); try simp only [Act.put, List.setIfInBounds_toArray, List.set_cons_zero, List.set_cons_succ])
    first | (refine wpAnyH_take (i := 4) (v := undef) (by exact gE rfl) (by kernel_rfl) (by kernel_rfl) (by kernel_rfl) (fun _ _ _ h => h) (Or.inr ⟨?_, rfl⟩) (by assumption) ?_; (rfl); try simp only [Act.put, List.setIfInBounds_toArray, List.set_cons_zero, List.set_cons_succ]) | (refine wpAnyH_take (i := 4) (v := ?_) (by exact gE rfl) (by kernel_rfl) (by kernel_rfl) (by kernel_rfl) (fun _ _ _ h => h) (Or.inl ⟨?_, ?_⟩) (by assumption) ?_; rotate_left; (rfl); (focus (intro w hSw; (try dsimp only at hSw); go_simp; try with_reducible rfl)); try simp only [Act.put, List.setIfInBounds_toArray, List.set_cons_zero, List.set_cons_succ])
    (refine wpAnyH_take (i := 5) (v := p0.k.a) (by exact gE rfl) (by kernel_rfl) (by kernel_rfl) (by kernel_rfl) (fun _ _ _ h => h) (yieldsIf_load_mid (by rfl) 26 (.tmp 83) (by rfl) (g1) (o1 + i * 18) (by rfl) (p0.k.cells) _ (fun W hS => HK1.out _ hS.1) Tryz.underlying26 (by rfl) (by kernel_rfl)) (by assumption) ?_; try simp only [Act.put, List.setIfInBounds_toArray, List.set_cons_zero, List.set_cons_succ])
    first | (refine wpAnyH_take (i := 6) (v := undef) (by exact gE rfl) (by kernel_rfl) (by kernel_rfl) (by kernel_rfl) (fun _ _ _ h => h) (Or.inr ⟨?_, rfl⟩) (by assumption) ?_; (rfl); try simp only [Act.put, List.setIfInBounds_toArray, List.set_cons_zero, List.set_cons_succ]) | (refine wpAnyH_take (i := 6) (v := ?_) (by exact gE rfl) (by kernel_rfl) (by kernel_rfl) (by kernel_rfl) (fun _ _ _ h => h) (Or.inl ⟨?_, ?_⟩) (by assumption) ?_; rotate_left; (rfl); (focus (intro w hSw; (try dsimp only at hSw); go_simp; try with_reducible rfl)); try simp only [Act.put, List.setIfInBounds_toArray, List.set_cons_zero, List.set_cons_succ])
    first | (refine wpAnyH_take (i := 7) (v := undef) (by exact gE rfl) (by kernel_rfl) (by kernel_rfl) (by kernel_rfl) (fun _ _ _ h => h) (Or.inr ⟨?_, rfl⟩) (by assumption) ?_; (rfl); try simp only [Act.put, List.setIfInBounds_toArray, List.set_cons_zero, List.set_cons_succ]) | (refine wpAnyH_take (i := 7) (v := ?_) (by exact gE rfl) (by kernel_rfl) (by kernel_rfl) (by kernel_rfl) (fun _ _ _ h => h) (Or.inl ⟨?_, ?_⟩) (by assumption) ?_; rotate_left; (rfl); (focus (intro W hSw; have hc0 := (show W.cell? ⟨w.heap.size + 1, 6, none⟩ = some (.slice (some ⟨g2, o2, none⟩) l.length c2) from (hSw.2.2.cell 6).trans (congrArg some HP2.out)); clear hSw; go_simp; try with_reducible rfl)); try simp only [Act.put, List.setIfInBounds_toArray, List.set_cons_zero, List.set_cons_succ])
    first | (refine wpAnyH_take (i := 8) (v := undef) (by exact gE rfl) (by kernel_rfl) (by kernel_rfl) (by kernel_rfl) (fun _ _ _ h => h) (Or.inr ⟨?_, rfl⟩) (by assumption) ?_; (rfl); try simp only [Act.put, List.setIfInBounds_toArray, List.set_cons_zero, List.set_cons_succ]) | (refine wpAnyH_take (i := 8) (v := ?_) (by exact gE rfl) (by kernel_rfl) (by kernel_rfl) (by kernel_rfl) (fun _ _ _ h => h) (Or.inl ⟨?_, ?_⟩) (by assumption) ?_; rotate_left; (rfl); (focus (intro w hSw; (try dsimp only at hSw); go_simp; try with_reducible rfl)); try simp only [Act.put, List.setIfInBounds_toArray, List.set_cons_zero, List.set_cons_succ])
    first | (refine wpAnyH_take (i := 9) (v := undef) (by exact gE rfl) (by kernel_rfl) (by kernel_rfl) (by kernel_rfl) (fun _ _ _ h => h) (Or.inr ⟨?_, rfl⟩) (by assumption) ?_; (rfl); try simp only [Act.put, List.setIfInBounds_toArray, List.set_cons_zero, List.set_cons_succ]) | (refine wpAnyH_take (i := 9) (v := ?_) (by exact gE rfl) (by kernel_rfl) (by kernel_rfl) (by kernel_rfl) (fun _ _ _ h => h) (Or.inl ⟨?_, ?_⟩) (by assumption) ?_; rotate_left; (rfl); (focus (intro w hSw; (try dsimp only at hSw); go_simp; try with_reducible rfl)); try simp only [Act.put, List.setIfInBounds_toArray, List.set_cons_zero, List.set_cons_succ])
    first | (refine wpAnyH_take (i := 10) (v := undef) (by exact gE rfl) (by kernel_rfl) (by kernel_rfl) (by kernel_rfl) (fun _ _ _ h => h) (Or.inr ⟨?_, rfl⟩) (by assumption) ?_; (rfl); try simp only [Act.put, List.setIfInBounds_toArray, List.set_cons_zero, List.set_cons_succ]) | (refine wpAnyH_take (i := 10) (v := ?_) (by exact gE rfl) (by kernel_rfl) (by kernel_rfl) (by kernel_rfl) (fun _ _ _ h => h) (Or.inl ⟨?_, ?_⟩) (by assumption) ?_; rotate_left; (rfl); (focus (intro w hSw; (try dsimp only at hSw); go_simp; try with_reducible rfl)); try simp only [Act.put, List.setIfInBounds_toArray, List.set_cons_zero, List.set_cons_succ])
    (refine wpAnyH_take (i := 11) (v := p0.k.a) (by exact gE rfl) (by kernel_rfl) (by kernel_rfl) (by kernel_rfl) (fun _ _ _ h => h) (yieldsIf_load_mid (by rfl) 26 (.tmp 89) (by rfl) (g2) (o2 + i * 18) (by rfl) (p0.k.cells) _ (fun W hS => HK2.out _ hS.1) Tryz.underlying26 (by rfl) (by kernel_rfl)) (by assumption) ?_; try simp only [Act.put, List.setIfInBounds_toArray, List.set_cons_zero, List.set_cons_succ])
    first | (refine wpAnyH_take (i := 12) (v := undef) (by exact gE rfl) (by kernel_rfl) (by kernel_rfl) (by kernel_rfl) (fun _ _ _ h => h) (Or.inr ⟨?_, rfl⟩) (by assumption) ?_; (rfl); try simp only [Act.put, List.setIfInBounds_toArray, List.set_cons_zero, List.set_cons_succ]) | (refine wpAnyH_take (i := 12) (v := ?_) (by exact gE rfl) (by kernel_rfl) (by kernel_rfl) (by kernel_rfl) (fun _ _ _ h => h) (Or.inl ⟨?_, ?_⟩) (by assumption) ?_; rotate_left; (rfl); (focus (intro W hSw; have hc0 := V1 W; clear hSw; go_simp; try with_reducible rfl)); try simp only [Act.put, List.setIfInBounds_toArray, List.set_cons_zero, List.set_cons_succ])
    first | (refine wpAnyH_take (i := 13) (v := undef) (by exact gE rfl) (by kernel_rfl) (by kernel_rfl) (by kernel_rfl) (fun _ _ _ h => h) (Or.inr ⟨?_, rfl⟩) (by assumption) ?_; (rfl); try simp only [Act.put, List.setIfInBounds_toArray, List.set_cons_zero, List.set_cons_succ]) | (refine wpAnyH_take (i := 13) (v := ?_) (by exact gE rfl) (by kernel_rfl) (by kernel_rfl) (by kernel_rfl) (fun _ _ _ h => h) (Or.inl ⟨?_, ?_⟩) (by assumption) ?_; rotate_left; (rfl); (focus (intro w hSw; (try dsimp only at hSw); go_simp; try with_reducible rfl)); try simp only [Act.put, List.setIfInBounds_toArray, List.set_cons_zero, List.set_cons_succ])
    first | (refine wpAnyH_take (i := 14) (v := undef) (by exact gE rfl) (by kernel_rfl) (by kernel_rfl) (by kernel_rfl) (fun _ _ _ h => h) (Or.inr ⟨?_, rfl⟩) (by assumption) ?_; (rfl); try simp only [Act.put, List.setIfInBounds_toArray, List.set_cons_zero, List.set_cons_succ]) | (refine wpAnyH_take (i := 14) (v := ?_) (by exact gE rfl) (by kernel_rfl) (by kernel_rfl) (by kernel_rfl) (fun _ _ _ h => h) (Or.inl ⟨?_, ?_⟩) (by assumption) ?_; rotate_left; (rfl); (focus (intro w hSw; (try dsimp only at hSw); go_simp; try with_reducible rfl)); try simp only [Act.put, List.setIfInBounds_toArray, List.set_cons_zero, List.set_cons_succ])
    first | (refine wpAnyH_take (i := 15) (v := undef) (by exact gE rfl) (by kernel_rfl) (by kernel_rfl) (by kernel_rfl) (fun _ _ _ h => h) (Or.inr ⟨?_, rfl⟩) (by assumption) ?_; (rfl); try simp only [Act.put, List.setIfInBounds_toArray, List.set_cons_zero, List.set_cons_succ]) | (refine wpAnyH_take (i := 15) (v := ?_) (by exact gE rfl) (by kernel_rfl) (by kernel_rfl) (by kernel_rfl) (fun _ _ _ h => h) (Or.inl ⟨?_, ?_⟩) (by assumption) ?_; rotate_left; (rfl); (focus (intro W hSw; have hc0 := (show W.cell? ⟨w.heap.size, 6, none⟩ = some (.slice (some ⟨g1, o1, none⟩) l.length c1) from (hSw.2.1.cell 6).trans (congrArg some HP1.out)); clear hSw; go_simp; try with_reducible rfl)); try simp only [Act.put, List.setIfInBounds_toArray, List.set_cons_zero, List.set_cons_succ])
    first | (refine wpAnyH_take (i := 16) (v := undef) (by exact gE rfl) (by kernel_rfl) (by kernel_rfl) (by kernel_rfl) (fun _ _ _ h => h) (Or.inr ⟨?_, rfl⟩) (by assumption) ?_; (rfl); try simp only [Act.put, List.setIfInBounds_toArray, List.set_cons_zero, List.set_cons_succ]) | (refine wpAnyH_take (i := 16) (v := ?_) (by exact gE rfl) (by kernel_rfl) (by kernel_rfl) (by kernel_rfl) (fun _ _ _ h => h) (Or.inl ⟨?_, ?_⟩) (by assumption) ?_; rotate_left; (rfl); (focus (intro w hSw; (try dsimp only at hSw); go_simp; try with_reducible rfl)); try simp only [Act.put, List.setIfInBounds_toArray, List.set_cons_zero, List.set_cons_succ])
    first | (refine wpAnyH_take (i := 17) (v := undef) (by exact gE rfl) (by kernel_rfl) (by kernel_rfl) (by kernel_rfl) (fun _ _ _ h => h) (Or.inr ⟨?_, rfl⟩) (by assumption) ?_; (rfl); try simp only [Act.put, List.setIfInBounds_toArray, List.set_cons_zero, List.set_cons_succ]) | (refine wpAnyH_take (i := 17) (v := ?_) (by exact gE rfl) (by kernel_rfl) (by kernel_rfl) (by kernel_rfl) (fun _ _ _ h => h) (Or.inl ⟨?_, ?_⟩) (by assumption) ?_; rotate_left; (rfl); (focus (intro w hSw; (try dsimp only at hSw); go_simp; try with_reducible rfl)); try simp only [Act.put, List.setIfInBounds_toArray, List.set_cons_zero, List.set_cons_succ])
    first | (refine wpAnyH_take (i := 18) (v := undef) (by exact gE rfl) (by kernel_rfl) (by kernel_rfl) (by kernel_rfl) (fun _ _ _ h => h) (Or.inr ⟨?_, rfl⟩) (by assumption) ?_; (rfl); try simp only [Act.put, List.setIfInBounds_toArray, List.set_cons_zero, List.set_cons_succ]) | (refine wpAnyH_take (i := 18) (v := ?_) (by exact gE rfl) (by kernel_rfl) (by kernel_rfl) (by kernel_rfl) (fun _ _ _ h => h) (Or.inl ⟨?_, ?_⟩) (by assumption) ?_; rotate_left; (rfl); (focus (intro w hSw; (try dsimp only at hSw); go_simp; try with_reducible rfl)); try simp only [Act.put, List.setIfInBounds_toArray, List.set_cons_zero, List.set_cons_succ])
    (refine wpAnyH_take (i := 19) (v := p0.d.a) (by exact gE rfl) (by kernel_rfl) (by kernel_rfl) (by kernel_rfl) (fun _ _ _ h => h) (yieldsIf_load_mid (by rfl) 31 (.tmp 97) (by rfl) (g1) (o1 + i * 18 + 2) (by rfl) (p0.d.cs.toList) _ (fun W hS => HD1.out _ hS.1) Tryz.underlying31 (by rfl) (by kernel_rfl)) (by assumption) ?_; try simp only [Act.put, List.setIfInBounds_toArray, List.set_cons_zero, List.set_cons_succ])
    first | (refine wpAnyH_take (i := 20) (v := undef) (by exact gE rfl) (by kernel_rfl) (by kernel_rfl) (by kernel_rfl) (fun _ _ _ h => h) (Or.inr ⟨?_, rfl⟩) (by assumption) ?_; (rfl); try simp only [Act.put, List.setIfInBounds_toArray, List.set_cons_zero, List.set_cons_succ]) | (refine wpAnyH_take (i := 20) (v := ?_) (by exact gE rfl) (by kernel_rfl) (by kernel_rfl) (by kernel_rfl) (fun _ _ _ h => h) (Or.inl ⟨?_, ?_⟩) (by assumption) ?_; rotate_left; (rfl); (focus (intro w hSw; (try dsimp only at hSw); go_simp; try with_reducible rfl)); try simp only [Act.put, List.setIfInBounds_toArray, List.set_cons_zero, List.set_cons_succ])
    first | (refine wpAnyH_take (i := 21) (v := undef) (by exact gE rfl) (by kernel_rfl) (by kernel_rfl) (by kernel_rfl) (fun _ _ _ h => h) (Or.inr ⟨?_, rfl⟩) (by assumption) ?_; (rfl); try simp only [Act.put, List.setIfInBounds_toArray, List.set_cons_zero, List.set_cons_succ]) | (refine wpAnyH_take (i := 21) (v := ?_) (by exact gE rfl) (by kernel_rfl) (by kernel_rfl) (by kernel_rfl) (fun _ _ _ h => h) (Or.inl ⟨?_, ?_⟩) (by assumption) ?_; rotate_left; (rfl); (focus (intro W hSw; have hc0 := (show W.cell? ⟨w.heap.size + 1, 6, none⟩ = some (.slice (some ⟨g2, o2, none⟩) l.length c2) from (hSw.2.2.cell 6).trans (congrArg some HP2.out)); clear hSw; go_simp; try with_reducible rfl)); try simp only [Act.put, List.setIfInBounds_toArray, List.set_cons_zero, List.set_cons_succ])
    first | (refine wpAnyH_take (i := 22) (v := undef) (by exact gE rfl) (by kernel_rfl) (by kernel_rfl) (by kernel_rfl) (fun _ _ _ h => h) (Or.inr ⟨?_, rfl⟩) (by assumption) ?_; (rfl); try simp only [Act.put, List.setIfInBounds_toArray, List.set_cons_zero, List.set_cons_succ]) | (refine wpAnyH_take (i := 22) (v := ?_) (by exact gE rfl) (by kernel_rfl) (by kernel_rfl) (by kernel_rfl) (fun _ _ _ h => h) (Or.inl ⟨?_, ?_⟩) (by assumption) ?_; rotate_left; (rfl); (focus (intro w hSw; (try dsimp only at hSw); go_simp; try with_reducible rfl)); try simp only [Act.put, List.setIfInBounds_toArray, List.set_cons_zero, List.set_cons_succ])
    first | (refine wpAnyH_take (i := 23) (v := undef) (by exact gE rfl) (by kernel_rfl) (by kernel_rfl) (by kernel_rfl) (fun _ _ _ h => h) (Or.inr ⟨?_, rfl⟩) (by assumption) ?_; (rfl); try simp only [Act.put, List.setIfInBounds_toArray, List.set_cons_zero, List.set_cons_succ]) | (refine wpAnyH_take (i := 23) (v := ?_) (by exact gE rfl) (by kernel_rfl) (by kernel_rfl) (by kernel_rfl) (fun _ _ _ h => h) (Or.inl ⟨?_, ?_⟩) (by assumption) ?_; rotate_left; (rfl); (focus (intro w hSw; (try dsimp only at hSw); go_simp; try with_reducible rfl)); try simp only [Act.put, List.setIfInBounds_toArray, List.set_cons_zero, List.set_cons_succ])
    first | (refine wpAnyH_take (i := 24) (v := undef) (by exact gE rfl) (by kernel_rfl) (by kernel_rfl) (by kernel_rfl) (fun _ _ _ h => h) (Or.inr ⟨?_, rfl⟩) (by assumption) ?_; (rfl); try simp only [Act.put, List.setIfInBounds_toArray, List.set_cons_zero, List.set_cons_succ]) | (refine wpAnyH_take (i := 24) (v := ?_) (by exact gE rfl) (by kernel_rfl) (by kernel_rfl) (by kernel_rfl) (fun _ _ _ h => h) (Or.inl ⟨?_, ?_⟩) (by assumption) ?_; rotate_left; (rfl); (focus (intro w hSw; (try dsimp only at hSw); go_simp; try with_reducible rfl)); try simp only [Act.put, List.setIfInBounds_toArray, List.set_cons_zero, List.set_cons_succ])
    (refine wpAnyH_take (i := 25) (v := p0.d.a) (by exact gE rfl) (by kernel_rfl) (by kernel_rfl) (by kernel_rfl) (fun _ _ _ h => h) (yieldsIf_load_mid (by rfl) 31 (.tmp 103) (by rfl) (g2) (o2 + i * 18 + 2) (by rfl) (p0.d.cs.toList) _ (fun W hS => HD2.out _ hS.1) Tryz.underlying31 (by rfl) (by kernel_rfl)) (by assumption) ?_; try simp only [Act.put, List.setIfInBounds_toArray, List.set_cons_zero, List.set_cons_succ])
    refine wpAnyH_ready (rs := [26]) (by kernel_rfl) (by simp) ?_
    refine AllReadyH.cons rfl (fun K hK => ?_) AllReadyH.nil
    go_simp
    refine (rlikeD_self p0.d _).mono ?_; rintro e w5 ⟨rfl, hb⟩
    replace hHeld := And.intro (hHeld.1.trans (hb.mono hHeld.1.size)) (And.intro (hHeld.2.1.on hb) (hHeld.2.2.on hb))
    clear hb
    refine hK.out _ _ hHeld (fun _ => ?_)
    clear hK K
    try simp only [Act.put, List.setIfInBounds_toArray, List.set_cons_zero, List.set_cons_succ]
    first | (refine wpAnyH_take (i := 27) (v := undef) (by exact gE rfl) (by kernel_rfl) (by kernel_rfl) (by kernel_rfl) (fun _ _ _ h => h) (Or.inr ⟨?_, rfl⟩) (by assumption) ?_; (rfl); try simp only [Act.put, List.setIfInBounds_toArray, List.set_cons_zero, List.set_cons_succ]) | (refine wpAnyH_take (i := 27) (v := ?_) (by exact gE rfl) (by kernel_rfl) (by kernel_rfl) (by kernel_rfl) (fun _ _ _ h => h) (Or.inl ⟨?_, ?_⟩) (by assumption) ?_; rotate_left; (rfl); (focus (intro w hSw; (try dsimp only at hSw); go_simp; try with_reducible rfl)); try simp only [Act.put, List.setIfInBounds_toArray, List.set_cons_zero, List.set_cons_succ])
    first | (refine wpAnyH_take (i := 28) (v := undef) (by exact gE rfl) (by kernel_rfl) (by kernel_rfl) (by kernel_rfl) (fun _ _ _ h => h) (Or.inr ⟨?_, rfl⟩) (by assumption) ?_; (rfl); try simp only [Act.put, List.setIfInBounds_toArray, List.set_cons_zero, List.set_cons_succ]) | (refine wpAnyH_take (i := 28) (v := ?_) (by exact gE rfl) (by kernel_rfl) (by kernel_rfl) (by kernel_rfl) (fun _ _ _ h => h) (Or.inl ⟨?_, ?_⟩) (by assumption) ?_; rotate_left; (rfl); (focus (intro w hSw; (try dsimp only at hSw); go_simp; try with_reducible rfl)); try simp only [Act.put, List.setIfInBounds_toArray, List.set_cons_zero, List.set_cons_succ])
    refine wpAnyH_done (by kernel_rfl) ?_ _
    refine NoPanic.normal ?_
    replace B := hidB hHeld.1
    replace X := hidB hHeld.2.1
    replace Y := hidB hHeld.2.2
    go_wp2_with fail
    go_roundw
    case rel => exact ⟨i + 1, by omega, by go_num, X.out, Y.out, B.out⟩
    case measure => simp [intOf]; omega
set_option maxHeartbeats 8000000 in
set_option maxRecDepth 100000 in
theorem rsameH_self (h h2 : HI) (he : bareH h2 = bareH h) (v1 v2 : Value) (w : World) (hr1 : RdH h v1 w) (hr2 : RdH h2 v2 w) : Calls Tryz.prog 12 #[.agg #[v1], .agg #[v2]] w fun e w' => e = .returned (.bool true) ∧ Below w.heap.size w w' := by
  have HLN := hidB (bareH_length he)
  have HBE := hidB he
  have HPA := hidB hr1.props
  have HPB := hidB hr2.props
  obtain ⟨⟨p1, c1, rfl, a1, a2, a3⟩, _⟩ := hr1
  obtain ⟨⟨p2, c2, hv2, b1, b2, b3⟩, _⟩ := hr2
  rw [bareH_length he] at hv2
  subst hv2
  unfold maxLen at a2 b2
  have hlm : h.length ≤ 9223372036854775807 := by omega
  have HA := hidB a3
  have HB := hidB b3
  clear a3 b3 he a1 b1
  have X := hidB (show Bk ((w.alloc (.cells (#[(.slice p1 h.length c1)]) 24)).alloc (.cells (#[(.slice p2 h.length c2)]) 24)) (w.heap.size) 24 (#[(.slice p1 h.length c1)]) from (Bk.new w _ _).alloc _)
  have Y := hidB (show Bk ((w.alloc (.cells (#[(.slice p1 h.length c1)]) 24)).alloc (.cells (#[(.slice p2 h.length c2)]) 24)) (w.heap.size + 1) 24 (#[(.slice p2 h.length c2)]) from Bk.new2 w _ _ _)
  have B := hidB (show Below w.heap.size w ((w.alloc (.cells (#[(.slice p1 h.length c1)]) 24)).alloc (.cells (#[(.slice p2 h.length c2)]) 24)) from (box_one w _).alloc (by simp) _)
  go_enter Tryz.func12, Tryz.ntmps12
  go_upto_region 1 with fail
  generalize hW : ((w.alloc (.cells (#[(.slice p1 h.length c1)]) 24)).alloc (.cells (#[(.slice p2 h.length c2)]) 24)) = w1 at *
  clear hW
  have x0 : w1.cell? ⟨w.heap.size, 0, none⟩ = some (.slice p1 h.length c1) := X.out.cell 0
  have y0 : w1.cell? ⟨w.heap.size + 1, 0, none⟩ = some (.slice p2 h.length c2) := Y.out.cell 0
  go_wp2_with fail
  clear x0 y0
  go_loopw [5] (fun s5 wr => ∃ i : Nat, i ≤ h.length ∧ s5 = .int .i64 i ∧ Bk wr w.heap.size 24 #[(.slice p1 h.length c1)] ∧ Bk wr (w.heap.size + 1) 24 #[(.slice p2 h.length c2)] ∧ Below w.heap.size w wr) (fun i _ => h.length - (intOf i).toNat)
  case atStart => exact ⟨0, by omega, rfl, X.out, Y.out, B.out⟩
  case round =>
    clear X Y B
    obtain ⟨i, hi, rfl, hX, hY, hb⟩ := hrel
    have X := hidB hX
    have Y := hidB hY
    have B := hidB hb
    clear hX hY hb
    have hx2 : (0 : Int) ≤ (i : Int) := by omega
    have x0 : wr.cell? ⟨w.heap.size, 0, none⟩ = some (.slice p1 h.length c1) := X.out.cell 0
    have y0 : wr.cell? ⟨w.heap.size + 1, 0, none⟩ = some (.slice p2 h.length c2) := Y.out.cell 0
    by_cases hlt : i < h.length
    rotate_left
    · obtain rfl : i = h.length := by omega
      have hx4 : ¬ ((h.length : Int) < (h.length : Int)) := by omega
      clear HA HB hi hlt
      go_wp2_with fail
      go_ret
      exact ⟨rfl, B.out⟩
    have hx1 : (i : Int) < (h.length : Int) := by omega
    have hlt2 : i < h2.length := by have := HLN.out; omega
    obtain ⟨g1, o1, rfl, hg1, hr1⟩ := HA.out (by omega)
    obtain ⟨g2, o2, rfl, hg2, hr2⟩ := HB.out (by omega)
    have HR1 := hidB (fun W (hS : Below w.heap.size w W) => rangeOn hS hg1 (hr1 i hlt))
    have HR2 := hidB (fun W (hS : Below w.heap.size w W) => rangeOn hS hg2 (hr2 i hlt2))
    have HQ1 := hidB (HPA.out _ (List.getElem_mem hlt))
    have HQ2 := hidB (HPB.out _ (List.getElem_mem hlt2))
    obtain ⟨hl2, ho2⟩ := bareE_two (bareH_at HBE.out hlt2 hlt)
    clear hr1 hr2 hg1 hg2
    generalize (h[i]'hlt) = e1 at *
    generalize (h2[i]'hlt2) = e2 at *
    obtain ⟨q1, l1⟩ := e1
    obtain ⟨q2, l2⟩ := e2
    obtain rfl : l2 = l1 := hl2
    obtain ⟨pv, hpv⟩ : ∃ pv, q2 = { q1 with props := pv } := ⟨_, ho2⟩
    subst hpv
    clear ho2
    go_upto_region 6 with fail
    clear x0 y0
    refine wp_region_noPanic ?_
    refine wp_region_held_drew (S := fun W => Below w.heap.size w W ∧ Bk W w.heap.size 24 #[(.slice (some ⟨g1, o1, none⟩) h.length c1)] ∧ Bk W (w.heap.size + 1) 24 #[(.slice (some ⟨g2, o2, none⟩) h.length c2)]) (by kernel_rfl) ?_ (fun hHeld => ?_)
    · exact ⟨B.out.drew, X.out.drew, Y.out.drew⟩
    generalize hWd : wr.drew = wd at *
    clear hWd
    first | (refine wpAnyH_take (i := 0) (v := undef) (by exact gE rfl) (by kernel_rfl) (by kernel_rfl) (by kernel_rfl) (fun _ _ _ h => h) (Or.inr ⟨?_, rfl⟩) (by assumption) ?_; (rfl); try simp only [Act.put, List.setIfInBounds_toArray, List.set_cons_zero, List.set_cons_succ]) | (refine wpAnyH_take (i := 0) (v := ?_) (by exact gE rfl) (by kernel_rfl) (by kernel_rfl) (by kernel_rfl) (fun _ _ _ h => h) (Or.inl ⟨?_, ?_⟩) (by assumption) ?_; rotate_left; (rfl); (focus (intro w hSw; (try dsimp only at hSw); go_simp; try with_reducible rfl)); try simp only [Act.put, List.setIfInBounds_toArray, List.set_cons_zero, List.set_cons_succ])
    first | (refine wpAnyH_take (i := 1) (v := undef) (by exact gE rfl) (by kernel_rfl) (by kernel_rfl) (by kernel_rfl) (fun _ _ _ h => h) (Or.inr ⟨?_, rfl⟩) (by assumption) ?_; (rfl); try simp only [Act.put, List.setIfInBounds_toArray, List.set_cons_zero, List.set_cons_succ]) | (refine wpAnyH_take (i := 1) (v := ?_) (by exact gE rfl) (by kernel_rfl) (by kernel_rfl) (by kernel_rfl) (fun _ _ _ h => h) (Or.inl ⟨?_, ?_⟩) (by assumption) ?_; rotate_left; (rfl); (focus (intro W hSw; have hc0 := (show W.cell? ⟨w.heap.size, 0, none⟩ = some (.slice (some ⟨g1, o1, none⟩) h.length c1) from hSw.2.1.cell 0); clear hSw; go_simp; try with_reducible rfl)); try simp only [Act.put, List.setIfInBounds_toArray, List.set_cons_zero, List.set_cons_succ])
    first | (refine wpAnyH_take (i := 2) (v := undef) (by exact gE rfl) (by kernel_rfl) (by kernel_rfl) (by kernel_rfl) (fun _ _ _ h => h) (Or.inr ⟨?_, rfl⟩) (by assumption) ?_; (rfl); try simp only [Act.put, List.setIfInBounds_toArray, List.set_cons_zero, List.set_cons_succ]) | (refine wpAnyH_take (i := 2) (v := ?_) (by exact gE rfl) (by kernel_rfl) (by kernel_rfl) (by kernel_rfl) (fun _ _ _ h => h) (Or.inl ⟨?_, ?_⟩) (by assumption) ?_; rotate_left; (rfl); (focus (intro w hSw; (try dsimp only at hSw); go_simp; try with_reducible rfl)); try simp only [Act.put, List.setIfInBounds_toArray, List.set_cons_zero, List.set_cons_succ])
    first | (refine wpAnyH_take (i := 3) (v := undef) (by exact gE rfl) (by kernel_rfl) (by kernel_rfl) (by kernel_rfl) (fun _ _ _ h => h) (Or.inr ⟨?_, rfl⟩) (by assumption) ?_; (rfl); try simp only [Act.put, List.setIfInBounds_toArray, List.set_cons_zero, List.set_cons_succ]) | (refine wpAnyH_take (i := 3) (v := ?_) (by exact gE rfl) (by kernel_rfl) (by kernel_rfl) (by kernel_rfl) (fun _ _ _ h => h) (Or.inl ⟨?_, ?_⟩) (by assumption) ?_; rotate_left; (rfl); (focus (intro w hSw; (try dsimp only at hSw); go_simp; try with_reducible rfl)); try simp only [Act.put, List.setIfInBounds_toArray, List.set_cons_zero, List.set_cons_succ])
    (refine wpAnyH_take (i := 4) (v := q1.a) (by exact gE rfl) (by kernel_rfl) (by kernel_rfl) (by kernel_rfl) (fun _ _ _ h => h) (yieldsIf_load_mid (by rfl) 42 (.tmp 23) (by rfl) (g1) (o1 + i * 18) (by rfl) (q1.cs.toList) _ (fun W hS => HR1.out _ hS.1) Tryz.underlying42 (by rfl) (by kernel_rfl)) (by assumption) ?_; try simp only [Act.put, List.setIfInBounds_toArray, List.set_cons_zero, List.set_cons_succ])
    first | (refine wpAnyH_take (i := 5) (v := undef) (by exact gE rfl) (by kernel_rfl) (by kernel_rfl) (by kernel_rfl) (fun _ _ _ h => h) (Or.inr ⟨?_, rfl⟩) (by assumption) ?_; (rfl); try simp only [Act.put, List.setIfInBounds_toArray, List.set_cons_zero, List.set_cons_succ]) | (refine wpAnyH_take (i := 5) (v := ?_) (by exact gE rfl) (by kernel_rfl) (by kernel_rfl) (by kernel_rfl) (fun _ _ _ h => h) (Or.inl ⟨?_, ?_⟩) (by assumption) ?_; rotate_left; (rfl); (focus (intro w hSw; (try dsimp only at hSw); go_simp; try with_reducible rfl)); try simp only [Act.put, List.setIfInBounds_toArray, List.set_cons_zero, List.set_cons_succ])
    first | (refine wpAnyH_take (i := 6) (v := undef) (by exact gE rfl) (by kernel_rfl) (by kernel_rfl) (by kernel_rfl) (fun _ _ _ h => h) (Or.inr ⟨?_, rfl⟩) (by assumption) ?_; (rfl); try simp only [Act.put, List.setIfInBounds_toArray, List.set_cons_zero, List.set_cons_succ]) | (refine wpAnyH_take (i := 6) (v := ?_) (by exact gE rfl) (by kernel_rfl) (by kernel_rfl) (by kernel_rfl) (fun _ _ _ h => h) (Or.inl ⟨?_, ?_⟩) (by assumption) ?_; rotate_left; (rfl); (focus (intro W hSw; have hc0 := (show W.cell? ⟨w.heap.size + 1, 0, none⟩ = some (.slice (some ⟨g2, o2, none⟩) h.length c2) from hSw.2.2.cell 0); clear hSw; go_simp; try with_reducible rfl)); try simp only [Act.put, List.setIfInBounds_toArray, List.set_cons_zero, List.set_cons_succ])
    first | (refine wpAnyH_take (i := 7) (v := undef) (by exact gE rfl) (by kernel_rfl) (by kernel_rfl) (by kernel_rfl) (fun _ _ _ h => h) (Or.inr ⟨?_, rfl⟩) (by assumption) ?_; (rfl); try simp only [Act.put, List.setIfInBounds_toArray, List.set_cons_zero, List.set_cons_succ]) | (refine wpAnyH_take (i := 7) (v := ?_) (by exact gE rfl) (by kernel_rfl) (by kernel_rfl) (by kernel_rfl) (fun _ _ _ h => h) (Or.inl ⟨?_, ?_⟩) (by assumption) ?_; rotate_left; (rfl); (focus (intro w hSw; (try dsimp only at hSw); go_simp; try with_reducible rfl)); try simp only [Act.put, List.setIfInBounds_toArray, List.set_cons_zero, List.set_cons_succ])
    first | (refine wpAnyH_take (i := 8) (v := undef) (by exact gE rfl) (by kernel_rfl) (by kernel_rfl) (by kernel_rfl) (fun _ _ _ h => h) (Or.inr ⟨?_, rfl⟩) (by assumption) ?_; (rfl); try simp only [Act.put, List.setIfInBounds_toArray, List.set_cons_zero, List.set_cons_succ]) | (refine wpAnyH_take (i := 8) (v := ?_) (by exact gE rfl) (by kernel_rfl) (by kernel_rfl) (by kernel_rfl) (fun _ _ _ h => h) (Or.inl ⟨?_, ?_⟩) (by assumption) ?_; rotate_left; (rfl); (focus (intro w hSw; (try dsimp only at hSw); go_simp; try with_reducible rfl)); try simp only [Act.put, List.setIfInBounds_toArray, List.set_cons_zero, List.set_cons_succ])
    (refine wpAnyH_take (i := 9) (v := ({ q1 with props := pv } : OJ).a) (by exact gE rfl) (by kernel_rfl) (by kernel_rfl) (by kernel_rfl) (fun _ _ _ h => h) (yieldsIf_load_mid (by rfl) 42 (.tmp 28) (by rfl) (g2) (o2 + i * 18) (by rfl) (({ q1 with props := pv } : OJ).cs.toList) _ (fun W hS => HR2.out _ hS.1) Tryz.underlying42 (by rfl) (by kernel_rfl)) (by assumption) ?_; try simp only [Act.put, List.setIfInBounds_toArray, List.set_cons_zero, List.set_cons_succ])
    refine wpAnyH_ready (rs := [10]) (by kernel_rfl) (by simp) ?_
    refine AllReadyH.cons rfl (fun K hK => ?_) AllReadyH.nil
    go_simp
    refine (rlikeO_self q1 pv l2 _ (HQ1.out.on hHeld.1) (HQ2.out.on hHeld.1)).mono ?_; rintro e w5 ⟨rfl, hb⟩
    replace hHeld := And.intro (hHeld.1.trans (hb.mono hHeld.1.size)) (And.intro (hHeld.2.1.on hb) (hHeld.2.2.on hb))
    clear hb
    refine hK.out _ _ hHeld (fun _ => ?_)
    clear hK K
    try simp only [Act.put, List.setIfInBounds_toArray, List.set_cons_zero, List.set_cons_succ]
    first | (refine wpAnyH_take (i := 11) (v := undef) (by exact gE rfl) (by kernel_rfl) (by kernel_rfl) (by kernel_rfl) (fun _ _ _ h => h) (Or.inr ⟨?_, rfl⟩) (by assumption) ?_; (rfl); try simp only [Act.put, List.setIfInBounds_toArray, List.set_cons_zero, List.set_cons_succ]) | (refine wpAnyH_take (i := 11) (v := ?_) (by exact gE rfl) (by kernel_rfl) (by kernel_rfl) (by kernel_rfl) (fun _ _ _ h => h) (Or.inl ⟨?_, ?_⟩) (by assumption) ?_; rotate_left; (rfl); (focus (intro w hSw; (try dsimp only at hSw); go_simp; try with_reducible rfl)); try simp only [Act.put, List.setIfInBounds_toArray, List.set_cons_zero, List.set_cons_succ])
    refine wpAnyH_done (by kernel_rfl) ?_ _
    refine NoPanic.normal ?_
    replace B := hidB hHeld.1
    replace X := hidB hHeld.2.1
    replace Y := hidB hHeld.2.2
    go_wp2_with fail
    go_roundw
    case rel => exact ⟨i + 1, by omega, by go_num, X.out, Y.out, B.out⟩
    case measure => simp [intOf]; omega

end Go.Proofs.YtbmaodlghglopaaGreatDoor
