/-
  An ask and an answer: the walk of post.asked.
-/
import Derived.Test.YtlpldhcoplbopaaPostGot
import Derived.Test.YtlpldhcoplbopaaPostKeys
namespace Go.Proofs.Ytlpldhcoplbopaa
open Go.RowKit

/-- An ask; an outcome. -/
structure AI where
  m : Int
  ob : Int
  k : KI
  d : DI
  v : VI
  r : VI
  args : Value
abbrev AI.cs (a : AI) : Array Value := #[.int .u8 a.m, .int .i64 a.ob, .string a.k.s, .int .i64 a.k.n, .int .u8 a.d.has, .int .u8 a.d.v.k, .float .f64 a.d.v.x, .string a.d.v.s, .int .i64 a.d.v.r, .int .u8 a.d.g.k, .float .f64 a.d.g.x, .string a.d.g.s, .int .i64 a.d.g.r, .int .u8 a.d.t.k, .float .f64 a.d.t.x, .string a.d.t.s, .int .i64 a.d.t.r, .bool a.d.wr, .bool a.d.en, .bool a.d.cf, .int .u8 a.v.k, .float .f64 a.v.x, .string a.v.s, .int .i64 a.v.r, .int .u8 a.r.k, .float .f64 a.r.x, .string a.r.s, .int .i64 a.r.r, a.args]
abbrev AI.a (a : AI) : Value := .agg a.cs
structure OI where
  kd : Int
  v : VI
  b : Bool
  fo : Bool
  d : DI
  keys : Value
  er : Int
  tx : ByteArray
abbrev OI.cs (x : OI) : Array Value := #[.int .u8 x.kd, .int .u8 x.v.k, .float .f64 x.v.x, .string x.v.s, .int .i64 x.v.r, .bool x.b, .bool x.fo, .int .u8 x.d.has, .int .u8 x.d.v.k, .float .f64 x.d.v.x, .string x.d.v.s, .int .i64 x.d.v.r, .int .u8 x.d.g.k, .float .f64 x.d.g.x, .string x.d.g.s, .int .i64 x.d.g.r, .int .u8 x.d.t.k, .float .f64 x.d.t.x, .string x.d.t.s, .int .i64 x.d.t.r, .bool x.d.wr, .bool x.d.en, .bool x.d.cf, x.keys, .int .u8 x.er, .string x.tx]
abbrev OI.a (x : OI) : Value := .agg x.cs
/-- The error of an ask and an answer, whose keys are these. -/
def askedE (a : AI) (x : OI) (ks : List KI) : Int :=
  if a.m < 1 ∨ 13 < a.m ∨ x.kd ≠ 1 then 2
  else if a.m = 2 then (if a.v.proto then 0 else 9)
  else if a.m = 6 then a.d.err
  else if a.m = 9 then (if a.v.may then 0 else 9)
  else if a.m = 1 ∨ a.m = 8 ∨ a.m = 12 ∨ a.m = 13 then (if x.v.may then 0 else 9)
  else if a.m = 5 then (if x.fo then x.d.err else 0)
  else if a.m = 11 then keysE ks
  else 0

set_option maxHeartbeats 8000000 in
set_option maxRecDepth 100000 in
theorem pasked_3 (a : AI) (x : OI) (hm : a.m = 3) (hk : x.kd = 1)  (w : World)  : Calls Try.prog 24 #[a.a, x.a] w fun e w' => e = .returned (.int .i64 (0)) ∧ Below w.heap.size w w' := by
  have U := hidB (show Bk ((w.alloc (.cells a.cs 35)).alloc (.cells x.cs 38)) (w.heap.size) 35 a.cs from (Bk.new w _ _).alloc _)
  have N := hidB (show Bk ((w.alloc (.cells a.cs 35)).alloc (.cells x.cs 38)) (w.heap.size + 1) 38 x.cs from Bk.new2 w _ _ _)
  have Bt := hidB (show Below w.heap.size w ((w.alloc (.cells a.cs 35)).alloc (.cells x.cs 38)) from (box_one w _).alloc (by simp) _)
  have HM := hidB hm
  have HK := hidB hk
  clear hm hk
  go_enter Try.func24, Try.ntmps24
  go_upto_region 1 with fail
  generalize ((w.alloc (.cells a.cs 35)).alloc (.cells x.cs 38)) = w1 at *
  have x0 : w1.cell? ⟨w.heap.size, 0, none⟩ = some (.int .u8 3) := by rw [← HM.out]; exact U.out.cell 0
  have z0 : w1.cell? ⟨w.heap.size + 1, 0, none⟩ = some (.int .u8 1) := by rw [← HK.out]; exact N.out.cell 0
  go_wp2_with fail
  go_ret
  exact ⟨rfl, Bt.out⟩
  
set_option maxHeartbeats 8000000 in
set_option maxRecDepth 100000 in
theorem pasked_4 (a : AI) (x : OI) (hm : a.m = 4) (hk : x.kd = 1)  (w : World)  : Calls Try.prog 24 #[a.a, x.a] w fun e w' => e = .returned (.int .i64 (0)) ∧ Below w.heap.size w w' := by
  have U := hidB (show Bk ((w.alloc (.cells a.cs 35)).alloc (.cells x.cs 38)) (w.heap.size) 35 a.cs from (Bk.new w _ _).alloc _)
  have N := hidB (show Bk ((w.alloc (.cells a.cs 35)).alloc (.cells x.cs 38)) (w.heap.size + 1) 38 x.cs from Bk.new2 w _ _ _)
  have Bt := hidB (show Below w.heap.size w ((w.alloc (.cells a.cs 35)).alloc (.cells x.cs 38)) from (box_one w _).alloc (by simp) _)
  have HM := hidB hm
  have HK := hidB hk
  clear hm hk
  go_enter Try.func24, Try.ntmps24
  go_upto_region 1 with fail
  generalize ((w.alloc (.cells a.cs 35)).alloc (.cells x.cs 38)) = w1 at *
  have x0 : w1.cell? ⟨w.heap.size, 0, none⟩ = some (.int .u8 4) := by rw [← HM.out]; exact U.out.cell 0
  have z0 : w1.cell? ⟨w.heap.size + 1, 0, none⟩ = some (.int .u8 1) := by rw [← HK.out]; exact N.out.cell 0
  go_wp2_with fail
  go_ret
  exact ⟨rfl, Bt.out⟩
  
set_option maxHeartbeats 8000000 in
set_option maxRecDepth 100000 in
theorem pasked_7 (a : AI) (x : OI) (hm : a.m = 7) (hk : x.kd = 1)  (w : World)  : Calls Try.prog 24 #[a.a, x.a] w fun e w' => e = .returned (.int .i64 (0)) ∧ Below w.heap.size w w' := by
  have U := hidB (show Bk ((w.alloc (.cells a.cs 35)).alloc (.cells x.cs 38)) (w.heap.size) 35 a.cs from (Bk.new w _ _).alloc _)
  have N := hidB (show Bk ((w.alloc (.cells a.cs 35)).alloc (.cells x.cs 38)) (w.heap.size + 1) 38 x.cs from Bk.new2 w _ _ _)
  have Bt := hidB (show Below w.heap.size w ((w.alloc (.cells a.cs 35)).alloc (.cells x.cs 38)) from (box_one w _).alloc (by simp) _)
  have HM := hidB hm
  have HK := hidB hk
  clear hm hk
  go_enter Try.func24, Try.ntmps24
  go_upto_region 1 with fail
  generalize ((w.alloc (.cells a.cs 35)).alloc (.cells x.cs 38)) = w1 at *
  have x0 : w1.cell? ⟨w.heap.size, 0, none⟩ = some (.int .u8 7) := by rw [← HM.out]; exact U.out.cell 0
  have z0 : w1.cell? ⟨w.heap.size + 1, 0, none⟩ = some (.int .u8 1) := by rw [← HK.out]; exact N.out.cell 0
  go_wp2_with fail
  go_ret
  exact ⟨rfl, Bt.out⟩
  
set_option maxHeartbeats 8000000 in
set_option maxRecDepth 100000 in
theorem pasked_10 (a : AI) (x : OI) (hm : a.m = 10) (hk : x.kd = 1)  (w : World)  : Calls Try.prog 24 #[a.a, x.a] w fun e w' => e = .returned (.int .i64 (0)) ∧ Below w.heap.size w w' := by
  have U := hidB (show Bk ((w.alloc (.cells a.cs 35)).alloc (.cells x.cs 38)) (w.heap.size) 35 a.cs from (Bk.new w _ _).alloc _)
  have N := hidB (show Bk ((w.alloc (.cells a.cs 35)).alloc (.cells x.cs 38)) (w.heap.size + 1) 38 x.cs from Bk.new2 w _ _ _)
  have Bt := hidB (show Below w.heap.size w ((w.alloc (.cells a.cs 35)).alloc (.cells x.cs 38)) from (box_one w _).alloc (by simp) _)
  have HM := hidB hm
  have HK := hidB hk
  clear hm hk
  go_enter Try.func24, Try.ntmps24
  go_upto_region 1 with fail
  generalize ((w.alloc (.cells a.cs 35)).alloc (.cells x.cs 38)) = w1 at *
  have x0 : w1.cell? ⟨w.heap.size, 0, none⟩ = some (.int .u8 10) := by rw [← HM.out]; exact U.out.cell 0
  have z0 : w1.cell? ⟨w.heap.size + 1, 0, none⟩ = some (.int .u8 1) := by rw [← HK.out]; exact N.out.cell 0
  go_wp2_with fail
  go_ret
  exact ⟨rfl, Bt.out⟩
  
set_option maxHeartbeats 8000000 in
set_option maxRecDepth 100000 in
theorem pasked_6 (a : AI) (x : OI) (hm : a.m = 6) (hk : x.kd = 1) (hd : a.d.ok) (w : World)  : Calls Try.prog 24 #[a.a, x.a] w fun e w' => e = .returned (.int .i64 (a.d.err)) ∧ Below w.heap.size w w' := by
  have CA := hidB (fun W => descCheck_any a.d hd W)
  clear hd
  generalize a.d.err = er at *
  have U := hidB (show Bk ((w.alloc (.cells a.cs 35)).alloc (.cells x.cs 38)) (w.heap.size) 35 a.cs from (Bk.new w _ _).alloc _)
  have N := hidB (show Bk ((w.alloc (.cells a.cs 35)).alloc (.cells x.cs 38)) (w.heap.size + 1) 38 x.cs from Bk.new2 w _ _ _)
  have Bt := hidB (show Below w.heap.size w ((w.alloc (.cells a.cs 35)).alloc (.cells x.cs 38)) from (box_one w _).alloc (by simp) _)
  have HM := hidB hm
  have HK := hidB hk
  clear hm hk
  go_enter Try.func24, Try.ntmps24
  go_upto_region 1 with fail
  generalize ((w.alloc (.cells a.cs 35)).alloc (.cells x.cs 38)) = w1 at *
  have x0 : w1.cell? ⟨w.heap.size, 0, none⟩ = some (.int .u8 6) := by rw [← HM.out]; exact U.out.cell 0
  have z0 : w1.cell? ⟨w.heap.size + 1, 0, none⟩ = some (.int .u8 1) := by rw [← HK.out]; exact N.out.cell 0
  go_wp2_with (first | ((with_reducible refine ldId 32 (.tmp 28) ?_); refine wpList_load_mid (by rfl) 32 (.tmp 28) (by rfl) (w.heap.size) 4 (by rfl) (a.d.cs.toList) _ (by exact Bk.mid U.out 4 _ rfl) Try.underlying32 (by rfl) (by kernel_rfl) ?_))
  refine (CA.out _).mono ?_; rintro e w2 ⟨rfl, hb⟩
  have B2 := hidB (Bt.out.trans (hb.mono Bt.out.size))
  clear hb
  go_wp2_with fail
  go_ret
  exact ⟨rfl, B2.out⟩
  
set_option maxHeartbeats 8000000 in
set_option maxRecDepth 100000 in
theorem pasked_2 (a : AI) (x : OI) (hm : a.m = 2) (hk : x.kd = 1) (h0 : 0 ≤ a.v.k) (w : World)  : Calls Try.prog 24 #[a.a, x.a] w fun e w' => e = .returned (.int .i64 (if a.v.proto then 0 else 9)) ∧ Below w.heap.size w w' := by
  have CA := hidB (fun W => proto_any a.v h0 W)
  clear h0
  generalize a.v.proto = q at *
  have HM := hidB hm
  have HK := hidB hk
  clear hm hk
  have U := hidB (show Bk ((w.alloc (.cells a.cs 35)).alloc (.cells x.cs 38)) (w.heap.size) 35 a.cs from (Bk.new w _ _).alloc _)
  have N := hidB (show Bk ((w.alloc (.cells a.cs 35)).alloc (.cells x.cs 38)) (w.heap.size + 1) 38 x.cs from Bk.new2 w _ _ _)
  have Bt := hidB (show Below w.heap.size w ((w.alloc (.cells a.cs 35)).alloc (.cells x.cs 38)) from (box_one w _).alloc (by simp) _)
  cases q
  all_goals
    go_enter Try.func24, Try.ntmps24
    go_upto_region 1 with fail
    generalize ((w.alloc (.cells a.cs 35)).alloc (.cells x.cs 38)) = w1 at *
    have x0 : w1.cell? ⟨w.heap.size, 0, none⟩ = some (.int .u8 2) := by rw [← HM.out]; exact U.out.cell 0
    have z0 : w1.cell? ⟨w.heap.size + 1, 0, none⟩ = some (.int .u8 1) := by rw [← HK.out]; exact N.out.cell 0
    go_wp2_with (first | ((with_reducible refine ldId 30 (.tmp 22) ?_); refine wpList_load_mid (by rfl) 30 (.tmp 22) (by rfl) (w.heap.size) 20 (by rfl) (a.v.cells) _ (by exact Bk.mid U.out 20 _ rfl) Try.underlying30 (by rfl) (by kernel_rfl) ?_))
    refine (CA.out _).mono ?_; rintro e w2 ⟨rfl, hb⟩
    have B2 := hidB (Bt.out.trans (hb.mono Bt.out.size))
    clear hb
    go_wp2_with fail
    go_ret
    exact ⟨rfl, B2.out⟩
    
set_option maxHeartbeats 8000000 in
set_option maxRecDepth 100000 in
theorem pasked_9 (a : AI) (x : OI) (hm : a.m = 9) (hk : x.kd = 1) (h0 : 0 ≤ a.v.k) (w : World)  : Calls Try.prog 24 #[a.a, x.a] w fun e w' => e = .returned (.int .i64 (if a.v.may then 0 else 9)) ∧ Below w.heap.size w w' := by
  have CA := hidB (fun W => vmay_any a.v.k a.v.x a.v.s a.v.r h0 W)
  unfold VI.may
  clear h0
  generalize mayV a.v.k a.v.x a.v.s a.v.r = q at *
  have HM := hidB hm
  have HK := hidB hk
  clear hm hk
  have U := hidB (show Bk ((w.alloc (.cells a.cs 35)).alloc (.cells x.cs 38)) (w.heap.size) 35 a.cs from (Bk.new w _ _).alloc _)
  have N := hidB (show Bk ((w.alloc (.cells a.cs 35)).alloc (.cells x.cs 38)) (w.heap.size + 1) 38 x.cs from Bk.new2 w _ _ _)
  have Bt := hidB (show Below w.heap.size w ((w.alloc (.cells a.cs 35)).alloc (.cells x.cs 38)) from (box_one w _).alloc (by simp) _)
  cases q
  all_goals
    go_enter Try.func24, Try.ntmps24
    go_upto_region 1 with fail
    generalize ((w.alloc (.cells a.cs 35)).alloc (.cells x.cs 38)) = w1 at *
    have x0 : w1.cell? ⟨w.heap.size, 0, none⟩ = some (.int .u8 9) := by rw [← HM.out]; exact U.out.cell 0
    have z0 : w1.cell? ⟨w.heap.size + 1, 0, none⟩ = some (.int .u8 1) := by rw [← HK.out]; exact N.out.cell 0
    go_wp2_with (first | ((with_reducible refine ldId 30 (.tmp 33) ?_); refine wpList_load_mid (by rfl) 30 (.tmp 33) (by rfl) (w.heap.size) 20 (by rfl) (a.v.cells) _ (by exact Bk.mid U.out 20 _ rfl) Try.underlying30 (by rfl) (by kernel_rfl) ?_))
    refine (CA.out _).mono ?_; rintro e w2 ⟨rfl, hb⟩
    have B2 := hidB (Bt.out.trans (hb.mono Bt.out.size))
    clear hb
    go_wp2_with fail
    go_ret
    exact ⟨rfl, B2.out⟩
    
set_option maxHeartbeats 8000000 in
set_option maxRecDepth 100000 in
theorem pasked_1 (a : AI) (x : OI) (hm : a.m = 1) (hk : x.kd = 1) (h0 : 0 ≤ x.v.k) (w : World)  : Calls Try.prog 24 #[a.a, x.a] w fun e w' => e = .returned (.int .i64 (if x.v.may then 0 else 9)) ∧ Below w.heap.size w w' := by
  have CA := hidB (fun W => vmay_any x.v.k x.v.x x.v.s x.v.r h0 W)
  unfold VI.may
  clear h0
  generalize mayV x.v.k x.v.x x.v.s x.v.r = q at *
  have HM := hidB hm
  have HK := hidB hk
  clear hm hk
  have U := hidB (show Bk ((w.alloc (.cells a.cs 35)).alloc (.cells x.cs 38)) (w.heap.size) 35 a.cs from (Bk.new w _ _).alloc _)
  have N := hidB (show Bk ((w.alloc (.cells a.cs 35)).alloc (.cells x.cs 38)) (w.heap.size + 1) 38 x.cs from Bk.new2 w _ _ _)
  have Bt := hidB (show Below w.heap.size w ((w.alloc (.cells a.cs 35)).alloc (.cells x.cs 38)) from (box_one w _).alloc (by simp) _)
  cases q
  all_goals
    go_enter Try.func24, Try.ntmps24
    go_upto_region 1 with fail
    generalize ((w.alloc (.cells a.cs 35)).alloc (.cells x.cs 38)) = w1 at *
    have x0 : w1.cell? ⟨w.heap.size, 0, none⟩ = some (.int .u8 1) := by rw [← HM.out]; exact U.out.cell 0
    have z0 : w1.cell? ⟨w.heap.size + 1, 0, none⟩ = some (.int .u8 1) := by rw [← HK.out]; exact N.out.cell 0
    go_wp2_with (first | ((with_reducible refine ldId 30 (.tmp 42) ?_); refine wpList_load_mid (by rfl) 30 (.tmp 42) (by rfl) (w.heap.size + 1) 1 (by rfl) (x.v.cells) _ (by exact Bk.mid N.out 1 _ rfl) Try.underlying30 (by rfl) (by kernel_rfl) ?_))
    refine (CA.out _).mono ?_; rintro e w2 ⟨rfl, hb⟩
    have B2 := hidB (Bt.out.trans (hb.mono Bt.out.size))
    clear hb
    go_wp2_with fail
    go_ret
    exact ⟨rfl, B2.out⟩
    
set_option maxHeartbeats 8000000 in
set_option maxRecDepth 100000 in
theorem pasked_8 (a : AI) (x : OI) (hm : a.m = 8) (hk : x.kd = 1) (h0 : 0 ≤ x.v.k) (w : World)  : Calls Try.prog 24 #[a.a, x.a] w fun e w' => e = .returned (.int .i64 (if x.v.may then 0 else 9)) ∧ Below w.heap.size w w' := by
  have CA := hidB (fun W => vmay_any x.v.k x.v.x x.v.s x.v.r h0 W)
  unfold VI.may
  clear h0
  generalize mayV x.v.k x.v.x x.v.s x.v.r = q at *
  have HM := hidB hm
  have HK := hidB hk
  clear hm hk
  have U := hidB (show Bk ((w.alloc (.cells a.cs 35)).alloc (.cells x.cs 38)) (w.heap.size) 35 a.cs from (Bk.new w _ _).alloc _)
  have N := hidB (show Bk ((w.alloc (.cells a.cs 35)).alloc (.cells x.cs 38)) (w.heap.size + 1) 38 x.cs from Bk.new2 w _ _ _)
  have Bt := hidB (show Below w.heap.size w ((w.alloc (.cells a.cs 35)).alloc (.cells x.cs 38)) from (box_one w _).alloc (by simp) _)
  cases q
  all_goals
    go_enter Try.func24, Try.ntmps24
    go_upto_region 1 with fail
    generalize ((w.alloc (.cells a.cs 35)).alloc (.cells x.cs 38)) = w1 at *
    have x0 : w1.cell? ⟨w.heap.size, 0, none⟩ = some (.int .u8 8) := by rw [← HM.out]; exact U.out.cell 0
    have z0 : w1.cell? ⟨w.heap.size + 1, 0, none⟩ = some (.int .u8 1) := by rw [← HK.out]; exact N.out.cell 0
    go_wp2_with (first | ((with_reducible refine ldId 30 (.tmp 42) ?_); refine wpList_load_mid (by rfl) 30 (.tmp 42) (by rfl) (w.heap.size + 1) 1 (by rfl) (x.v.cells) _ (by exact Bk.mid N.out 1 _ rfl) Try.underlying30 (by rfl) (by kernel_rfl) ?_))
    refine (CA.out _).mono ?_; rintro e w2 ⟨rfl, hb⟩
    have B2 := hidB (Bt.out.trans (hb.mono Bt.out.size))
    clear hb
    go_wp2_with fail
    go_ret
    exact ⟨rfl, B2.out⟩
    
set_option maxHeartbeats 8000000 in
set_option maxRecDepth 100000 in
theorem pasked_12 (a : AI) (x : OI) (hm : a.m = 12) (hk : x.kd = 1) (h0 : 0 ≤ x.v.k) (w : World)  : Calls Try.prog 24 #[a.a, x.a] w fun e w' => e = .returned (.int .i64 (if x.v.may then 0 else 9)) ∧ Below w.heap.size w w' := by
  have CA := hidB (fun W => vmay_any x.v.k x.v.x x.v.s x.v.r h0 W)
  unfold VI.may
  clear h0
  generalize mayV x.v.k x.v.x x.v.s x.v.r = q at *
  have HM := hidB hm
  have HK := hidB hk
  clear hm hk
  have U := hidB (show Bk ((w.alloc (.cells a.cs 35)).alloc (.cells x.cs 38)) (w.heap.size) 35 a.cs from (Bk.new w _ _).alloc _)
  have N := hidB (show Bk ((w.alloc (.cells a.cs 35)).alloc (.cells x.cs 38)) (w.heap.size + 1) 38 x.cs from Bk.new2 w _ _ _)
  have Bt := hidB (show Below w.heap.size w ((w.alloc (.cells a.cs 35)).alloc (.cells x.cs 38)) from (box_one w _).alloc (by simp) _)
  cases q
  all_goals
    go_enter Try.func24, Try.ntmps24
    go_upto_region 1 with fail
    generalize ((w.alloc (.cells a.cs 35)).alloc (.cells x.cs 38)) = w1 at *
    have x0 : w1.cell? ⟨w.heap.size, 0, none⟩ = some (.int .u8 12) := by rw [← HM.out]; exact U.out.cell 0
    have z0 : w1.cell? ⟨w.heap.size + 1, 0, none⟩ = some (.int .u8 1) := by rw [← HK.out]; exact N.out.cell 0
    go_wp2_with (first | ((with_reducible refine ldId 30 (.tmp 42) ?_); refine wpList_load_mid (by rfl) 30 (.tmp 42) (by rfl) (w.heap.size + 1) 1 (by rfl) (x.v.cells) _ (by exact Bk.mid N.out 1 _ rfl) Try.underlying30 (by rfl) (by kernel_rfl) ?_))
    refine (CA.out _).mono ?_; rintro e w2 ⟨rfl, hb⟩
    have B2 := hidB (Bt.out.trans (hb.mono Bt.out.size))
    clear hb
    go_wp2_with fail
    go_ret
    exact ⟨rfl, B2.out⟩
    
set_option maxHeartbeats 8000000 in
set_option maxRecDepth 100000 in
theorem pasked_13 (a : AI) (x : OI) (hm : a.m = 13) (hk : x.kd = 1) (h0 : 0 ≤ x.v.k) (w : World)  : Calls Try.prog 24 #[a.a, x.a] w fun e w' => e = .returned (.int .i64 (if x.v.may then 0 else 9)) ∧ Below w.heap.size w w' := by
  have CA := hidB (fun W => vmay_any x.v.k x.v.x x.v.s x.v.r h0 W)
  unfold VI.may
  clear h0
  generalize mayV x.v.k x.v.x x.v.s x.v.r = q at *
  have HM := hidB hm
  have HK := hidB hk
  clear hm hk
  have U := hidB (show Bk ((w.alloc (.cells a.cs 35)).alloc (.cells x.cs 38)) (w.heap.size) 35 a.cs from (Bk.new w _ _).alloc _)
  have N := hidB (show Bk ((w.alloc (.cells a.cs 35)).alloc (.cells x.cs 38)) (w.heap.size + 1) 38 x.cs from Bk.new2 w _ _ _)
  have Bt := hidB (show Below w.heap.size w ((w.alloc (.cells a.cs 35)).alloc (.cells x.cs 38)) from (box_one w _).alloc (by simp) _)
  cases q
  all_goals
    go_enter Try.func24, Try.ntmps24
    go_upto_region 1 with fail
    generalize ((w.alloc (.cells a.cs 35)).alloc (.cells x.cs 38)) = w1 at *
    have x0 : w1.cell? ⟨w.heap.size, 0, none⟩ = some (.int .u8 13) := by rw [← HM.out]; exact U.out.cell 0
    have z0 : w1.cell? ⟨w.heap.size + 1, 0, none⟩ = some (.int .u8 1) := by rw [← HK.out]; exact N.out.cell 0
    go_wp2_with (first | ((with_reducible refine ldId 30 (.tmp 42) ?_); refine wpList_load_mid (by rfl) 30 (.tmp 42) (by rfl) (w.heap.size + 1) 1 (by rfl) (x.v.cells) _ (by exact Bk.mid N.out 1 _ rfl) Try.underlying30 (by rfl) (by kernel_rfl) ?_))
    refine (CA.out _).mono ?_; rintro e w2 ⟨rfl, hb⟩
    have B2 := hidB (Bt.out.trans (hb.mono Bt.out.size))
    clear hb
    go_wp2_with fail
    go_ret
    exact ⟨rfl, B2.out⟩
    
set_option maxHeartbeats 8000000 in
set_option maxRecDepth 100000 in
theorem pasked_5 (a : AI) (x : OI) (hm : a.m = 5) (hk : x.kd = 1) (hd : x.d.ok) (w : World)  : Calls Try.prog 24 #[a.a, x.a] w fun e w' => e = .returned (.int .i64 (if x.fo then x.d.err else 0)) ∧ Below w.heap.size w w' := by
  have CA := hidB (fun W => descCheck_any x.d hd W)
  clear hd
  generalize x.d.err = er at *
  generalize hf : x.fo = fo at *
  have HF := hidB hf
  clear hf
  have HM := hidB hm
  have HK := hidB hk
  clear hm hk
  have U := hidB (show Bk ((w.alloc (.cells a.cs 35)).alloc (.cells x.cs 38)) (w.heap.size) 35 a.cs from (Bk.new w _ _).alloc _)
  have N := hidB (show Bk ((w.alloc (.cells a.cs 35)).alloc (.cells x.cs 38)) (w.heap.size + 1) 38 x.cs from Bk.new2 w _ _ _)
  have Bt := hidB (show Below w.heap.size w ((w.alloc (.cells a.cs 35)).alloc (.cells x.cs 38)) from (box_one w _).alloc (by simp) _)
  cases fo
  · skip
    go_enter Try.func24, Try.ntmps24
    go_upto_region 1 with fail
    generalize ((w.alloc (.cells a.cs 35)).alloc (.cells x.cs 38)) = w1 at *
    have x0 : w1.cell? ⟨w.heap.size, 0, none⟩ = some (.int .u8 5) := by rw [← HM.out]; exact U.out.cell 0
    have z0 : w1.cell? ⟨w.heap.size + 1, 0, none⟩ = some (.int .u8 1) := by rw [← HK.out]; exact N.out.cell 0
    have z6 : w1.cell? ⟨w.heap.size + 1, 6, none⟩ = some (.bool false) := by rw [← HF.out]; exact N.out.cell 6
    go_wp2_with fail
    go_ret
    exact ⟨rfl, Bt.out⟩
  · skip
    go_enter Try.func24, Try.ntmps24
    go_upto_region 1 with fail
    generalize ((w.alloc (.cells a.cs 35)).alloc (.cells x.cs 38)) = w1 at *
    have x0 : w1.cell? ⟨w.heap.size, 0, none⟩ = some (.int .u8 5) := by rw [← HM.out]; exact U.out.cell 0
    have z0 : w1.cell? ⟨w.heap.size + 1, 0, none⟩ = some (.int .u8 1) := by rw [← HK.out]; exact N.out.cell 0
    have z6 : w1.cell? ⟨w.heap.size + 1, 6, none⟩ = some (.bool true) := by rw [← HF.out]; exact N.out.cell 6
    go_upto_region 20 with fail
    go_wp2_with (first | ((with_reducible refine ldId 32 (.tmp 50) ?_); refine wpList_load_mid (by rfl) 32 (.tmp 50) (by rfl) (w.heap.size + 1) 7 (by rfl) (x.d.cs.toList) _ (by exact Bk.mid N.out 7 _ rfl) Try.underlying32 (by rfl) (by kernel_rfl) ?_))
    refine (CA.out _).mono ?_; rintro e w2 ⟨rfl, hb⟩
    have B2 := hidB (Bt.out.trans (hb.mono Bt.out.size))
    clear hb
    go_wp2_with fail
    go_ret
    exact ⟨rfl, B2.out⟩
  
set_option maxHeartbeats 8000000 in
set_option maxRecDepth 100000 in
theorem pasked_11 (a : AI) (x : OI) (ks : List KI) (hm : a.m = 11) (hk : x.kd = 1) (w : World) (hr : RdK ks x.keys w) : Calls Try.prog 24 #[a.a, x.a] w fun e w' => e = .returned (.int .i64 (keysE ks)) ∧ Below w.heap.size w w' := by
  have U := hidB (show Bk ((w.alloc (.cells a.cs 35)).alloc (.cells x.cs 38)) (w.heap.size) 35 a.cs from (Bk.new w _ _).alloc _)
  have N := hidB (show Bk ((w.alloc (.cells a.cs 35)).alloc (.cells x.cs 38)) (w.heap.size + 1) 38 x.cs from Bk.new2 w _ _ _)
  have Bt := hidB (show Below w.heap.size w ((w.alloc (.cells a.cs 35)).alloc (.cells x.cs 38)) from (box_one w _).alloc (by simp) _)
  have CA := hidB (fun W (h : Below w.heap.size w W) => keys_any ks x.keys W (hr.on h))
  clear hr
  generalize keysE ks = er at *
  have HM := hidB hm
  have HK := hidB hk
  clear hm hk
  go_enter Try.func24, Try.ntmps24
  go_upto_region 1 with fail
  generalize ((w.alloc (.cells a.cs 35)).alloc (.cells x.cs 38)) = w1 at *
  have x0 : w1.cell? ⟨w.heap.size, 0, none⟩ = some (.int .u8 11) := by rw [← HM.out]; exact U.out.cell 0
  have z0 : w1.cell? ⟨w.heap.size + 1, 0, none⟩ = some (.int .u8 1) := by rw [← HK.out]; exact N.out.cell 0
  have z23 : w1.cell? ⟨w.heap.size + 1, 23, none⟩ = some x.keys := N.out.cell 23
  go_wp2_with fail
  refine (CA.out _ Bt.out).mono ?_; rintro e w2 ⟨rfl, hb⟩
  have B2 := hidB (Bt.out.trans (hb.mono Bt.out.size))
  clear hb
  go_wp2_with fail
  go_ret
  exact ⟨rfl, B2.out⟩
  
set_option maxHeartbeats 8000000 in
set_option maxRecDepth 100000 in
theorem pasked_bad (a : AI) (x : OI) (h : a.m < 1 ∨ 13 < a.m ∨ x.kd ≠ 1) (w : World)  : Calls Try.prog 24 #[a.a, x.a] w fun e w' => e = .returned (.int .i64 (2)) ∧ Below w.heap.size w w' := by
  have U := hidB (show Bk ((w.alloc (.cells a.cs 35)).alloc (.cells x.cs 38)) (w.heap.size) 35 a.cs from (Bk.new w _ _).alloc _)
  have N := hidB (show Bk ((w.alloc (.cells a.cs 35)).alloc (.cells x.cs 38)) (w.heap.size + 1) 38 x.cs from Bk.new2 w _ _ _)
  have Bt := hidB (show Below w.heap.size w ((w.alloc (.cells a.cs 35)).alloc (.cells x.cs 38)) from (box_one w _).alloc (by simp) _)
  by_cases h1 : a.m < 1
  · skip
    go_enter Try.func24, Try.ntmps24
    go_upto_region 1 with fail
    generalize ((w.alloc (.cells a.cs 35)).alloc (.cells x.cs 38)) = w1 at *
    have x0 : w1.cell? ⟨w.heap.size, 0, none⟩ = some (.int .u8 a.m) := by exact U.out.cell 0
    have z0 : w1.cell? ⟨w.heap.size + 1, 0, none⟩ = some (.int .u8 x.kd) := by exact N.out.cell 0
    go_wp2_with fail
    go_ret
    exact ⟨rfl, Bt.out⟩
  · by_cases h2 : 13 < a.m
    · skip
      go_enter Try.func24, Try.ntmps24
      go_upto_region 1 with fail
      generalize ((w.alloc (.cells a.cs 35)).alloc (.cells x.cs 38)) = w1 at *
      have x0 : w1.cell? ⟨w.heap.size, 0, none⟩ = some (.int .u8 a.m) := by exact U.out.cell 0
      have z0 : w1.cell? ⟨w.heap.size + 1, 0, none⟩ = some (.int .u8 x.kd) := by exact N.out.cell 0
      go_wp2_with fail
      go_ret
      exact ⟨rfl, Bt.out⟩
    · have h3 : (x.kd != 1) = true := by rw [bne_iff_ne]; omega
      go_enter Try.func24, Try.ntmps24
      go_upto_region 1 with fail
      generalize ((w.alloc (.cells a.cs 35)).alloc (.cells x.cs 38)) = w1 at *
      have x0 : w1.cell? ⟨w.heap.size, 0, none⟩ = some (.int .u8 a.m) := by exact U.out.cell 0
      have z0 : w1.cell? ⟨w.heap.size + 1, 0, none⟩ = some (.int .u8 x.kd) := by exact N.out.cell 0
      go_wp2_with fail
      go_ret
      exact ⟨rfl, Bt.out⟩
  
/-- What an ask and an answer must be to be read: kinds are bytes, the keys these. -/
structure AskOk (a : AI) (x : OI) (ks : List KI) (w : World) : Prop where
  ad : a.d.ok
  av : 0 ≤ a.v.k
  xv : 0 ≤ x.v.k
  xd : x.d.ok
  xk : RdK ks x.keys w
theorem pasked_any (a : AI) (x : OI) (ks : List KI) (w : World) (h : AskOk a x ks w) : Calls Try.prog 24 #[a.a, x.a] w fun e w' => e = .returned (.int .i64 (askedE a x ks)) ∧ Below w.heap.size w w' := by
  by_cases hb : a.m < 1 ∨ 13 < a.m ∨ x.kd ≠ 1
  · unfold askedE; rw [if_pos hb]; exact pasked_bad a x hb w
  · have hk : x.kd = 1 := by omega
    have hm : a.m = 1 ∨ a.m = 2 ∨ a.m = 3 ∨ a.m = 4 ∨ a.m = 5 ∨ a.m = 6 ∨ a.m = 7 ∨ a.m = 8 ∨ a.m = 9 ∨ a.m = 10 ∨ a.m = 11 ∨ a.m = 12 ∨ a.m = 13 := by omega
    unfold askedE
    rw [if_neg hb]
    rcases hm with hm | hm | hm | hm | hm | hm | hm | hm | hm | hm | hm | hm | hm
    · simpa [hm] using pasked_1 a x hm hk h.xv w
    · simpa [hm] using pasked_2 a x hm hk h.av w
    · simpa [hm] using pasked_3 a x hm hk  w
    · simpa [hm] using pasked_4 a x hm hk  w
    · simpa [hm] using pasked_5 a x hm hk h.xd w
    · simpa [hm] using pasked_6 a x hm hk h.ad w
    · simpa [hm] using pasked_7 a x hm hk  w
    · simpa [hm] using pasked_8 a x hm hk h.xv w
    · simpa [hm] using pasked_9 a x hm hk h.av w
    · simpa [hm] using pasked_10 a x hm hk  w
    · simpa [hm] using pasked_11 a x ks hm hk w h.xk
    · simpa [hm] using pasked_12 a x hm hk h.xv w
    · simpa [hm] using pasked_13 a x hm hk h.xv w
end Go.Proofs.Ytlpldhcoplbopaa
