/-
  The reference's words on descriptors.
-/
import Derived.Test.YtbkjbpefbdoenaaRefVal
import Derived.Test.YtbkjbpefbdoenaaDescChk
import Derived.Test.YtbkjbpefbdoenaaRefSame
import Derived.Deep.LoopGhost
namespace Go.Proofs.Ytbkjbpefbdoenaa
open Go.RowKit

/-- Undefined, all fields zero, and no minus. -/
def bareB (v : VI) : Bool := (v.k == 0) && (v.s.toList.isEmpty && ((v.r == 0) && Fl.same v.x 0))
/-- The bit of a byte, as the reference asks for it. -/
def bitR (n b : Int) : Bool := n / b % 2 == 1

set_option maxHeartbeats 8000000 in
set_option maxRecDepth 100000 in
theorem rhas_any (d : DI) (h0 : 0 ≤ d.has ∧ d.has ≤ 255) (b : Int) (hb : b = 1 ∨ b = 2 ∨ b = 4 ∨ b = 8 ∨ b = 16 ∨ b = 32) (w : World) : Calls Try.prog 99 #[.agg d.cs, .int .u8 b] w fun e w' => e = .returned (.bool (bitR d.has b)) ∧ Below w.heap.size w w' := by
  obtain ⟨h1, h2⟩ := h0
  obtain ⟨q, hq⟩ : ∃ q, bitR d.has b = q := ⟨_, rfl⟩
  rw [hq]
  have HQ := hidB hq
  clear hq
  have X := hidB (show Bk (w.alloc (.cells (d.cs) 33)) (w.heap.size) 33 (d.cs) from Bk.new w _ _)
  have B := hidB (show Below w.heap.size w (w.alloc (.cells (d.cs) 33)) from box_one w _)
  go_enter Try.func99, Try.ntmps99
  go_upto_region 1 with fail
  generalize hW : (w.alloc (.cells (d.cs) 33)) = w1 at *
  clear hW
  have x0 : w1.cell? ⟨w.heap.size, 0, none⟩ = some (.int .u8 d.has) := X.out.cell 0
  generalize d.has = n at *
  rcases hb with rfl | rfl | rfl | rfl | rfl | rfl
  all_goals
    go_wp2_with fail
  all_goals
    go_ret
    exact ⟨by rw [← HQ.out]; first | rfl | (unfold bitR; rw [Int.ediv_one]; rfl), B.out⟩
set_option maxHeartbeats 8000000 in
set_option maxRecDepth 100000 in
theorem rcal_any (v : VI) (w : World) : Calls Try.prog 76 #[v.a] w fun e w' => e = .returned (.bool (isCal v.k)) ∧ Below w.heap.size w w' := by
  unfold isCal
  cases h7 : (v.k == 7) <;> cases h8 : (v.k == 8)
  all_goals
    have X := hidB (show Bk (w.alloc (.cells (#[.int .u8 v.k, .float .f64 v.x, .string v.s, .int .i64 v.r]) 24)) (w.heap.size) 24 (#[.int .u8 v.k, .float .f64 v.x, .string v.s, .int .i64 v.r]) from Bk.new w _ _)
    have B := hidB (show Below w.heap.size w (w.alloc (.cells (#[.int .u8 v.k, .float .f64 v.x, .string v.s, .int .i64 v.r]) 24)) from box_one w _)
    go_enter Try.func76, Try.ntmps76
    go_upto_region 1 with fail
    generalize hW : (w.alloc (.cells (#[.int .u8 v.k, .float .f64 v.x, .string v.s, .int .i64 v.r]) 24)) = w1 at *
    clear hW
    have x0 : w1.cell? ⟨w.heap.size, 0, none⟩ = some (.int .u8 v.k) := X.out.cell 0
    go_wp2_with fail
    go_ret
    exact ⟨rfl, B.out⟩
set_option maxHeartbeats 8000000 in
set_option maxRecDepth 100000 in
theorem ralike0_any (v : VI) (w : World) : Calls Try.prog 102 #[v.a, .agg #[.int .u8 0, .float .f64 0, .string ⟨#[]⟩, .int .i64 0]] w fun e w' => e = .returned (.bool (bareB v)) ∧ Below w.heap.size w w' := by
  have SM := hidB (fun W => rsame_any v.x 0 W)
  obtain ⟨sm, hsm⟩ : ∃ q, Fl.same v.x 0 = q := ⟨_, rfl⟩
  obtain ⟨se, hse⟩ : ∃ q, v.s.toList.isEmpty = q := ⟨_, rfl⟩
  have hs2 : (v.s.toList == []) = se := by rw [← hse]; cases v.s.toList <;> rfl
  unfold bareB
  rw [hsm, hse]
  rw [hsm] at SM
  clear hsm hse
  cases hk : (v.k == 0) <;> cases hr : (v.r == 0) <;> cases se
  all_goals
    have X := hidB (show Bk ((w.alloc (.cells (#[.int .u8 v.k, .float .f64 v.x, .string v.s, .int .i64 v.r]) 24)).alloc (.cells (#[.int .u8 0, .float .f64 0, .string ⟨#[]⟩, .int .i64 0]) 24)) (w.heap.size) 24 (#[.int .u8 v.k, .float .f64 v.x, .string v.s, .int .i64 v.r]) from (Bk.new w _ _).alloc _)
    have Y := hidB (show Bk ((w.alloc (.cells (#[.int .u8 v.k, .float .f64 v.x, .string v.s, .int .i64 v.r]) 24)).alloc (.cells (#[.int .u8 0, .float .f64 0, .string ⟨#[]⟩, .int .i64 0]) 24)) (w.heap.size + 1) 24 (#[.int .u8 0, .float .f64 0, .string ⟨#[]⟩, .int .i64 0]) from Bk.new2 w _ _ _)
    have B := hidB (show Below w.heap.size w ((w.alloc (.cells (#[.int .u8 v.k, .float .f64 v.x, .string v.s, .int .i64 v.r]) 24)).alloc (.cells (#[.int .u8 0, .float .f64 0, .string ⟨#[]⟩, .int .i64 0]) 24)) from (box_one w _).alloc (by simp) _)
    go_enter Try.func102, Try.ntmps102
    go_upto_region 1 with fail
    generalize hW : ((w.alloc (.cells (#[.int .u8 v.k, .float .f64 v.x, .string v.s, .int .i64 v.r]) 24)).alloc (.cells (#[.int .u8 0, .float .f64 0, .string ⟨#[]⟩, .int .i64 0]) 24)) = w1 at *
    clear hW
    have x0 : w1.cell? ⟨w.heap.size, 0, none⟩ = some (.int .u8 v.k) := X.out.cell 0
    have x1 : w1.cell? ⟨w.heap.size, 1, none⟩ = some (.float .f64 v.x) := X.out.cell 1
    have x2 : w1.cell? ⟨w.heap.size, 2, none⟩ = some (.string v.s) := X.out.cell 2
    have x3 : w1.cell? ⟨w.heap.size, 3, none⟩ = some (.int .i64 v.r) := X.out.cell 3
    have y0 : w1.cell? ⟨w.heap.size + 1, 0, none⟩ = some (.int .u8 0) := Y.out.cell 0
    have y1 : w1.cell? ⟨w.heap.size + 1, 1, none⟩ = some (.float .f64 0) := Y.out.cell 1
    have y2 : w1.cell? ⟨w.heap.size + 1, 2, none⟩ = some (.string ⟨#[]⟩) := Y.out.cell 2
    have y3 : w1.cell? ⟨w.heap.size + 1, 3, none⟩ = some (.int .i64 0) := Y.out.cell 3
    go_wp2_with (go_at_call 103; refine (SM.out _).mono ?_; rintro e w2 ⟨rfl, rfl⟩)
    go_ret
    exact ⟨rfl, B.out⟩
set_option maxHeartbeats 8000000 in
set_option maxRecDepth 100000 in
theorem rbare_any (v : VI) (w : World) : Calls Try.prog 98 #[v.a] w fun e w' => e = .returned (.bool (bareB v)) ∧ Below w.heap.size w w' := by
  have X := hidB (show Bk (w.alloc (.cells (#[.int .u8 v.k, .float .f64 v.x, .string v.s, .int .i64 v.r]) 24)) (w.heap.size) 24 (#[.int .u8 v.k, .float .f64 v.x, .string v.s, .int .i64 v.r]) from Bk.new w _ _)
  have B := hidB (show Below w.heap.size w (w.alloc (.cells (#[.int .u8 v.k, .float .f64 v.x, .string v.s, .int .i64 v.r]) 24)) from box_one w _)
  go_enter Try.func98, Try.ntmps98
  go_upto_region 1 with fail
  generalize hW : (w.alloc (.cells (#[.int .u8 v.k, .float .f64 v.x, .string v.s, .int .i64 v.r]) 24)) = w1 at *
  clear hW
  go_wp2_with (first | ((with_reducible refine ldId 24 (.tmp 1) ?_); refine wpList_load_row (by rfl) 24 (.tmp 1) (by rfl) (w.heap.size) (by rfl) 24 (#[.int .u8 v.k, .float .f64 v.x, .string v.s, .int .i64 v.r]) (0, 0) _ (by exact X.out) Try.underlying24 (by rfl) (by kernel_rfl) ?_))
  refine (ralike0_any v _).mono ?_; rintro e w2 ⟨rfl, hb⟩
  replace B := hidB (B.out.trans (hb.mono B.out.size))
  clear hb
  go_wp2_with fail
  go_ret
  exact ⟨rfl, B.out⟩
set_option maxHeartbeats 8000000 in
set_option maxRecDepth 100000 in
theorem rcalled_any (v : VI) (h0 : 0 ≤ v.k) (w : World) : Calls Try.prog 100 #[v.a] w fun e w' => e = .returned (.bool v.called) ∧ Below w.heap.size w w' := by
  have MA := hidB (fun W => rmay_any v.k v.x v.s v.r h0 W)
  have CA := hidB (fun W => rcal_any v W)
  unfold VI.called VI.may
  generalize mayV v.k v.x v.s v.r = m at *
  generalize isCal v.k = cc at *
  cases m <;> cases hk : (v.k == 0)
  all_goals
    have X := hidB (show Bk (w.alloc (.cells (#[.int .u8 v.k, .float .f64 v.x, .string v.s, .int .i64 v.r]) 24)) (w.heap.size) 24 (#[.int .u8 v.k, .float .f64 v.x, .string v.s, .int .i64 v.r]) from Bk.new w _ _)
    have B := hidB (show Below w.heap.size w (w.alloc (.cells (#[.int .u8 v.k, .float .f64 v.x, .string v.s, .int .i64 v.r]) 24)) from box_one w _)
    go_enter Try.func100, Try.ntmps100
    go_upto_region 1 with fail
    generalize hW : (w.alloc (.cells (#[.int .u8 v.k, .float .f64 v.x, .string v.s, .int .i64 v.r]) 24)) = w1 at *
    clear hW
    go_wp2_with (first | ((with_reducible refine ldId 24 (.tmp 1) ?_); refine wpList_load_row (by rfl) 24 (.tmp 1) (by rfl) (w.heap.size) (by rfl) 24 (#[.int .u8 v.k, .float .f64 v.x, .string v.s, .int .i64 v.r]) (0, 0) _ (by exact X.out) Try.underlying24 (by rfl) (by kernel_rfl) ?_))
    refine (MA.out _).mono ?_; rintro e w2 ⟨rfl, hb⟩
    replace X := hidB (X.out.on hb)
    replace B := hidB (B.out.trans (hb.mono B.out.size))
    clear hb
    have x0 : w2.cell? ⟨w.heap.size, 0, none⟩ = some (.int .u8 v.k) := X.out.cell 0
    have x1 : w2.cell? ⟨w.heap.size, 1, none⟩ = some (.float .f64 v.x) := X.out.cell 1
    have x2 : w2.cell? ⟨w.heap.size, 2, none⟩ = some (.string v.s) := X.out.cell 2
    have x3 : w2.cell? ⟨w.heap.size, 3, none⟩ = some (.int .i64 v.r) := X.out.cell 3
    go_wp2_with (first | (go_at_call 76; refine (CA.out _).mono ?_; rintro e w3 ⟨rfl, hb⟩; replace B := hidB (B.out.trans (hb.mono B.out.size)); clear hb))
    go_ret
    exact ⟨rfl, B.out⟩

end Go.Proofs.Ytbkjbpefbdoenaa
