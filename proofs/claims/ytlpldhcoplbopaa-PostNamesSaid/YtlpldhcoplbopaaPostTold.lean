/-
  What may be told: the walk of post.told.
-/
import Derived.Test.YtlpldhcoplbopaaDescAsk
import Derived.BigGuardPart
namespace Go.Proofs.Ytlpldhcoplbopaa
open Go.RowKit

/-- Facts. -/
structure FI where
  ext : Bool
  pr : VI
  fo : Bool
  d : DI
  keys : Value
  own : Value
abbrev FI.cs (x : FI) : Array Value := #[.bool x.ext, .int .u8 x.pr.k, .float .f64 x.pr.x, .string x.pr.s, .int .i64 x.pr.r, .bool x.fo, .int .u8 x.d.has, .int .u8 x.d.v.k, .float .f64 x.d.v.x, .string x.d.v.s, .int .i64 x.d.v.r, .int .u8 x.d.g.k, .float .f64 x.d.g.x, .string x.d.g.s, .int .i64 x.d.g.r, .int .u8 x.d.t.k, .float .f64 x.d.t.x, .string x.d.t.s, .int .i64 x.d.t.r, .bool x.d.wr, .bool x.d.en, .bool x.d.cf, x.keys, x.own]
abbrev FI.a (x : FI) : Value := .agg x.cs
/-- May a descriptor be told of what is there? -/
def told (d : DI) (x : FI) : Bool := (comR x.ext d x.fo x.d).1 && (d.cf || (x.fo && (!x.d.cf && (bits .and .u8 d.has 2 == 0 || (d.wr || !x.d.wr)))))

set_option maxHeartbeats 8000000 in
set_option maxRecDepth 100000 in
theorem told_any (d : DI) (x : FI) (hd : d.ok) (hx : x.d.ok) (w : World) : Calls Try.prog 36 #[d.a, x.a] w fun e w' => e = .returned (.bool (told d x)) ∧ Below w.heap.size w w' := by
  have CA := hidB (fun W => compatible_any x.ext d x.fo x.d hd hx W)
  clear hd hx
  have U := hidB (show Bk ((w.alloc (.cells d.cs 32)).alloc (.cells x.cs 48)) (w.heap.size) 32 d.cs from (Bk.new w _ _).alloc _)
  have N := hidB (show Bk ((w.alloc (.cells d.cs 32)).alloc (.cells x.cs 48)) (w.heap.size + 1) 48 x.cs from Bk.new2 w _ _ _)
  have Bt := hidB (show Below w.heap.size w ((w.alloc (.cells d.cs 32)).alloc (.cells x.cs 48)) from (box_one w _).alloc (by simp) _)
  unfold told
  obtain ⟨q, hq⟩ : ∃ q, (comR x.ext d x.fo x.d).1 = q := ⟨_, rfl⟩
  rw [hq] at CA ⊢
  generalize (comR x.ext d x.fo x.d).2 = er at *
  clear hq
  have y0 : ((w.alloc (.cells d.cs 32)).alloc (.cells x.cs 48)).cell? ⟨w.heap.size + 1, 0, none⟩ = some (.bool x.ext) := N.out.cell 0
  have y5 : ((w.alloc (.cells d.cs 32)).alloc (.cells x.cs 48)).cell? ⟨w.heap.size + 1, 5, none⟩ = some (.bool x.fo) := N.out.cell 5
  generalize hl : (bits .and .u8 d.has 2 == 0) = l2 at *
  generalize g1 : d.wr = dw at *
  generalize g2 : d.cf = dc at *
  generalize g3 : x.fo = fo at *
  generalize g4 : x.d.wr = nw at *
  generalize g5 : x.d.cf = nc at *
  have G1 := hidB g1
  have G2 := hidB g2
  have G3 := hidB g3
  have G4 := hidB g4
  have G5 := hidB g5
  clear g1 g2 g3 g4 g5
  go_enter Try.func36, Try.ntmps36
  go_upto_region 1 with fail
  generalize ((w.alloc (.cells d.cs 32)).alloc (.cells x.cs 48)) = w1 at *
  go_wp2_with (first | ((with_reducible refine ldId 32 (.tmp 2) ?_); refine wpList_load_row (by rfl) 32 (.tmp 2) (by rfl) (w.heap.size) (by rfl) 32 _ (0, 0) _ (by exact U.out) Try.underlying32 (by rfl) (by exact size_desc) ?_) | ((with_reducible refine ldId 32 (.tmp 13) ?_); refine wpList_load_mid (by rfl) 32 (.tmp 13) (by rfl) (w.heap.size + 1) 6 (by rfl) (x.d).cs.toList _ (by exact Bk.mid N.out 6 _ rfl) Try.underlying32 (by rfl) (by kernel_rfl) ?_))
  refine (CA.out _).mono ?_; rintro e w2 ⟨rfl, hb⟩
  have U2 := hidB (U.out.on hb)
  have N2 := hidB (N.out.on hb)
  have B2 := hidB (Bt.out.trans (hb.mono Bt.out.size))
  clear hb U N Bt y0 y5
  have x0 : w2.cell? ⟨w.heap.size, 0, none⟩ = some (.int .u8 d.has) := U2.out.cell 0
  have x13 : w2.cell? ⟨w.heap.size, 13, none⟩ = some (.bool dw) := by rw [← G1.out]; exact U2.out.cell 13
  have x15 : w2.cell? ⟨w.heap.size, 15, none⟩ = some (.bool dc) := by rw [← G2.out]; exact U2.out.cell 15
  have z5 : w2.cell? ⟨w.heap.size + 1, 5, none⟩ = some (.bool fo) := by rw [← G3.out]; exact N2.out.cell 5
  have z19 : w2.cell? ⟨w.heap.size + 1, 19, none⟩ = some (.bool nw) := by rw [← G4.out]; exact N2.out.cell 19
  have z21 : w2.cell? ⟨w.heap.size + 1, 21, none⟩ = some (.bool nc) := by rw [← G5.out]; exact N2.out.cell 21
  cases q <;> cases dc <;> cases fo <;> cases nc
  all_goals
    go_wp2_with fail
    all_goals
      go_ret
      exact ⟨ret_bool (by first | rfl | (simp [*]; done)), B2.out⟩

/-- May a definition be told as done? -/
def defd (d : DI) (x : FI) : Bool := if x.fo then (comR x.ext d true x.d).1 && (!((hasB d.has 32 && !d.cf) && x.d.cf) && (x.d.cf || (!x.d.wr || (bits .and .u8 d.has 2 == 0 || d.wr)))) else x.ext && !(hasB d.has 32 && !d.cf)
set_option maxHeartbeats 8000000 in
set_option maxRecDepth 100000 in
theorem defined_any (d : DI) (x : FI) (hd : d.ok) (hx : x.d.ok) (w : World) : Calls Try.prog 37 #[d.a, x.a] w fun e w' => e = .returned (.bool (defd d x)) ∧ Below w.heap.size w w' := by
  have CA := hidB (fun W => compatible_any x.ext d true x.d hd hx W)
  clear hd hx
  have U := hidB (show Bk ((w.alloc (.cells d.cs 32)).alloc (.cells x.cs 48)) (w.heap.size) 32 d.cs from (Bk.new w _ _).alloc _)
  have N := hidB (show Bk ((w.alloc (.cells d.cs 32)).alloc (.cells x.cs 48)) (w.heap.size + 1) 48 x.cs from Bk.new2 w _ _ _)
  have Bt := hidB (show Below w.heap.size w ((w.alloc (.cells d.cs 32)).alloc (.cells x.cs 48)) from (box_one w _).alloc (by simp) _)
  unfold defd hasB
  obtain ⟨q, hq⟩ : ∃ q, (comR x.ext d true x.d).1 = q := ⟨_, rfl⟩
  rw [hq] at CA ⊢
  generalize (comR x.ext d true x.d).2 = er at *
  clear hq
  generalize hk : (bits .and .u8 d.has 32 != 0) = k32 at *
  generalize hl : (bits .and .u8 d.has 2 == 0) = l2 at *
  generalize g1 : d.wr = dw at *
  generalize g2 : d.cf = dc at *
  generalize g3 : x.fo = fo at *
  generalize g4 : x.d.wr = nw at *
  generalize g5 : x.d.cf = nc at *
  generalize g6 : x.ext = xe at *
  have G1 := hidB g1
  have G2 := hidB g2
  have G3 := hidB g3
  have G4 := hidB g4
  have G5 := hidB g5
  have G6 := hidB g6
  clear g1 g2 g3 g4 g5 g6
  go_enter Try.func37, Try.ntmps37
  go_upto_region 1 with fail
  generalize ((w.alloc (.cells d.cs 32)).alloc (.cells x.cs 48)) = w1 at *
  have x0 : w1.cell? ⟨w.heap.size, 0, none⟩ = some (.int .u8 d.has) := U.out.cell 0
  have x13 : w1.cell? ⟨w.heap.size, 13, none⟩ = some (.bool dw) := by rw [← G1.out]; exact U.out.cell 13
  have x15 : w1.cell? ⟨w.heap.size, 15, none⟩ = some (.bool dc) := by rw [← G2.out]; exact U.out.cell 15
  have z0 : w1.cell? ⟨w.heap.size + 1, 0, none⟩ = some (.bool xe) := by rw [← G6.out]; exact N.out.cell 0
  have z5 : w1.cell? ⟨w.heap.size + 1, 5, none⟩ = some (.bool fo) := by rw [← G3.out]; exact N.out.cell 5
  have z19 : w1.cell? ⟨w.heap.size + 1, 19, none⟩ = some (.bool nw) := by rw [← G4.out]; exact N.out.cell 19
  have z21 : w1.cell? ⟨w.heap.size + 1, 21, none⟩ = some (.bool nc) := by rw [← G5.out]; exact N.out.cell 21
  cases fo
  · cases k32 <;> cases dc <;> cases xe
    all_goals
      go_wp2_with fail
      go_ret
      exact ⟨ret_bool (by first | rfl | (simp [*]; done)), Bt.out⟩
  · cases k32 <;> cases dc
    all_goals
      go_upto_region 4 with fail
      go_wp2_with (first | ((with_reducible refine ldId 32 (.tmp 2) ?_); refine wpList_load_row (by rfl) 32 (.tmp 2) (by rfl) (w.heap.size) (by rfl) 32 _ (0, 0) _ (by exact U.out) Try.underlying32 (by rfl) (by exact size_desc) ?_) | ((with_reducible refine ldId 32 (.tmp 30) ?_); refine wpList_load_mid (by rfl) 32 (.tmp 30) (by rfl) (w.heap.size + 1) 6 (by rfl) (x.d).cs.toList _ (by exact Bk.mid N.out 6 _ rfl) Try.underlying32 (by rfl) (by kernel_rfl) ?_))
      refine (CA.out _).mono ?_; rintro e w2 ⟨rfl, hb⟩
      have U2 := hidB (U.out.on hb)
      have N2 := hidB (N.out.on hb)
      have B2 := hidB (Bt.out.trans (hb.mono Bt.out.size))
      clear hb U N Bt x0 x13 x15 z0 z5 z19 z21
      have x0 : w2.cell? ⟨w.heap.size, 0, none⟩ = some (.int .u8 d.has) := U2.out.cell 0
      have x13 : w2.cell? ⟨w.heap.size, 13, none⟩ = some (.bool dw) := by rw [← G1.out]; exact U2.out.cell 13
      have z0 : w2.cell? ⟨w.heap.size + 1, 0, none⟩ = some (.bool xe) := by rw [← G6.out]; exact N2.out.cell 0
      have z19 : w2.cell? ⟨w.heap.size + 1, 19, none⟩ = some (.bool nw) := by rw [← G4.out]; exact N2.out.cell 19
      have z21 : w2.cell? ⟨w.heap.size + 1, 21, none⟩ = some (.bool nc) := by rw [← G5.out]; exact N2.out.cell 21
      cases q <;> cases nc <;> cases nw
      all_goals
        go_wp2_with fail
        all_goals
          go_ret
          exact ⟨ret_bool (by first | rfl | (simp [*]; done)), B2.out⟩

end Go.Proofs.Ytlpldhcoplbopaa
