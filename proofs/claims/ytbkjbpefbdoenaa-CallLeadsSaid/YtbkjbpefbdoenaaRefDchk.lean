/-
  The reference's Check of a descriptor.
-/
import Derived.Test.YtbkjbpefbdoenaaRefDesc
namespace Go.Proofs.Ytbkjbpefbdoenaa
open Go.RowKit

def dataR (d : DI) : Bool := bitR d.has 1 || bitR d.has 2
def accR (d : DI) : Bool := bitR d.has 4 || bitR d.has 8
/-- May a descriptor be, as the reference says? -/
def okR (d : DI) : Bool := !(decide (63 < d.has) || (dataR d && accR d)) && ((if bitR d.has 1 then d.v.may else bareB d.v) && ((if bitR d.has 4 then d.g.called else bareB d.g) && ((if bitR d.has 8 then d.t.called else bareB d.t) && ((!d.wr || bitR d.has 2) && ((!d.en || bitR d.has 16) && (!d.cf || bitR d.has 32))))))

set_option maxHeartbeats 8000000 in
set_option maxRecDepth 100000 in
theorem rdata_any (d : DI) (h0 : 0 ≤ d.has ∧ d.has ≤ 255) (w : World) : Calls Try.prog 96 #[.agg d.cs] w fun e w' => e = .returned (.bool (dataR d)) ∧ Below w.heap.size w w' := by
  have HA := hidB (fun W => rhas_any d h0 1 (by decide) W)
  have HC := hidB (fun W => rhas_any d h0 2 (by decide) W)
  unfold dataR
  generalize bitR d.has 1 = x at *
  generalize bitR d.has 2 = y at *
  cases x
  all_goals
    have X := hidB (show Bk (w.alloc (.cells (d.cs) 33)) (w.heap.size) 33 (d.cs) from Bk.new w _ _)
    have B := hidB (show Below w.heap.size w (w.alloc (.cells (d.cs) 33)) from box_one w _)
    go_enter Try.func96, Try.ntmps96
    go_upto_region 1 with fail
    generalize hW : (w.alloc (.cells (d.cs) 33)) = w1 at *
    clear hW
    go_wp2_with (first | ((with_reducible refine ldId 33 (.tmp 1) ?_); refine wpList_load_row (by rfl) 33 (.tmp 1) (by rfl) (w.heap.size) (by rfl) 33 (d.cs) (0, 0) _ (by exact X.out) Try.underlying33 (by rfl) (by kernel_rfl) ?_) | ((with_reducible refine ldId 33 (.tmp 1) ?_); refine wpList_wload_mid 33 (.tmp 1) (by rfl) (by rfl) (w.heap.size) 0 (by rfl) (d.cs.toList) _ (by exact Bk.mid X.out 0 _ rfl) Try.underlying33 (by rfl) (by kernel_rfl) ?_))
    refine (HA.out _).mono ?_; rintro e w2 ⟨rfl, hb⟩
    replace X := hidB (X.out.on hb); replace B := hidB (B.out.trans (hb.mono B.out.size)); clear hb
    go_wp2_with (first | ((with_reducible refine ldId 33 (.tmp 1) ?_); refine wpList_load_row (by rfl) 33 (.tmp 1) (by rfl) (w.heap.size) (by rfl) 33 (d.cs) (0, 0) _ (by exact X.out) Try.underlying33 (by rfl) (by kernel_rfl) ?_) | ((with_reducible refine ldId 33 (.tmp 1) ?_); refine wpList_wload_mid 33 (.tmp 1) (by rfl) (by rfl) (w.heap.size) 0 (by rfl) (d.cs.toList) _ (by exact Bk.mid X.out 0 _ rfl) Try.underlying33 (by rfl) (by kernel_rfl) ?_) | (go_at_call 99; refine (HC.out _).mono ?_; rintro e w3 ⟨rfl, hb⟩; replace X := hidB (X.out.on hb); replace B := hidB (B.out.trans (hb.mono B.out.size)); clear hb))
    go_ret
    exact ⟨rfl, B.out⟩
set_option maxHeartbeats 8000000 in
set_option maxRecDepth 100000 in
theorem racc_any (d : DI) (h0 : 0 ≤ d.has ∧ d.has ≤ 255) (w : World) : Calls Try.prog 97 #[.agg d.cs] w fun e w' => e = .returned (.bool (accR d)) ∧ Below w.heap.size w w' := by
  have HA := hidB (fun W => rhas_any d h0 4 (by decide) W)
  have HC := hidB (fun W => rhas_any d h0 8 (by decide) W)
  unfold accR
  generalize bitR d.has 4 = x at *
  generalize bitR d.has 8 = y at *
  cases x
  all_goals
    have X := hidB (show Bk (w.alloc (.cells (d.cs) 33)) (w.heap.size) 33 (d.cs) from Bk.new w _ _)
    have B := hidB (show Below w.heap.size w (w.alloc (.cells (d.cs) 33)) from box_one w _)
    go_enter Try.func97, Try.ntmps97
    go_upto_region 1 with fail
    generalize hW : (w.alloc (.cells (d.cs) 33)) = w1 at *
    clear hW
    go_wp2_with (first | ((with_reducible refine ldId 33 (.tmp 1) ?_); refine wpList_load_row (by rfl) 33 (.tmp 1) (by rfl) (w.heap.size) (by rfl) 33 (d.cs) (0, 0) _ (by exact X.out) Try.underlying33 (by rfl) (by kernel_rfl) ?_) | ((with_reducible refine ldId 33 (.tmp 1) ?_); refine wpList_wload_mid 33 (.tmp 1) (by rfl) (by rfl) (w.heap.size) 0 (by rfl) (d.cs.toList) _ (by exact Bk.mid X.out 0 _ rfl) Try.underlying33 (by rfl) (by kernel_rfl) ?_))
    refine (HA.out _).mono ?_; rintro e w2 ⟨rfl, hb⟩
    replace X := hidB (X.out.on hb); replace B := hidB (B.out.trans (hb.mono B.out.size)); clear hb
    go_wp2_with (first | ((with_reducible refine ldId 33 (.tmp 1) ?_); refine wpList_load_row (by rfl) 33 (.tmp 1) (by rfl) (w.heap.size) (by rfl) 33 (d.cs) (0, 0) _ (by exact X.out) Try.underlying33 (by rfl) (by kernel_rfl) ?_) | ((with_reducible refine ldId 33 (.tmp 1) ?_); refine wpList_wload_mid 33 (.tmp 1) (by rfl) (by rfl) (w.heap.size) 0 (by rfl) (d.cs.toList) _ (by exact Bk.mid X.out 0 _ rfl) Try.underlying33 (by rfl) (by kernel_rfl) ?_) | (go_at_call 99; refine (HC.out _).mono ?_; rintro e w3 ⟨rfl, hb⟩; replace X := hidB (X.out.on hb); replace B := hidB (B.out.trans (hb.mono B.out.size)); clear hb))
    go_ret
    exact ⟨rfl, B.out⟩
set_option maxHeartbeats 8000000 in
set_option maxRecDepth 100000 in
theorem rdesc_any (d : DI) (h0 : 0 ≤ d.has ∧ d.has ≤ 255) (hd : d.ok) (w : World) : Calls Try.prog 85 #[.agg d.cs] w fun e w' => e = .returned (.int .i64 (if okR d then 0 else 90)) ∧ Below w.heap.size w w' := by
  have DA := hidB (fun W => rdata_any d h0 W)
  have AC := hidB (fun W => racc_any d h0 W)
  have H1 := hidB (fun W => rhas_any d h0 1 (by decide) W)
  have H2 := hidB (fun W => rhas_any d h0 2 (by decide) W)
  have H4 := hidB (fun W => rhas_any d h0 4 (by decide) W)
  have H8 := hidB (fun W => rhas_any d h0 8 (by decide) W)
  have H16 := hidB (fun W => rhas_any d h0 16 (by decide) W)
  have H32 := hidB (fun W => rhas_any d h0 32 (by decide) W)
  have MV := hidB (fun W => rmay_any d.v.k d.v.x d.v.s d.v.r hd.1 W)
  have CG := hidB (fun W => rcalled_any d.g hd.2.1 W)
  have CT := hidB (fun W => rcalled_any d.t hd.2.2 W)
  have BV := hidB (fun W => rbare_any d.v W)
  have BG := hidB (fun W => rbare_any d.g W)
  have BT := hidB (fun W => rbare_any d.t W)
  obtain ⟨er, hok⟩ : ∃ q : Int, (if okR d then 0 else 90) = q := ⟨_, rfl⟩
  rw [hok]
  unfold okR VI.may at hok
  generalize dataR d = da at *
  generalize accR d = ac at *
  generalize mayV d.v.k d.v.x d.v.s d.v.r = mv at *
  generalize d.g.called = cg at *
  generalize d.t.called = ct at *
  generalize bareB d.v = bv at *
  generalize bareB d.g = bg at *
  generalize bareB d.t = bt at *
  generalize bitR d.has 1 = b1 at *
  generalize bitR d.has 2 = b2 at *
  generalize bitR d.has 4 = b4 at *
  generalize bitR d.has 8 = b8 at *
  generalize bitR d.has 16 = b16 at *
  generalize bitR d.has 32 = b32 at *
  obtain ⟨gt, hgt⟩ : ∃ q, decide (63 < d.has) = q := ⟨_, rfl⟩
  rw [hgt] at hok
  have HOK := hidB hok
  clear hok h0 hd
  have X := hidB (show Bk (w.alloc (.cells (d.cs) 33)) (w.heap.size) 33 (d.cs) from Bk.new w _ _)
  have B := hidB (show Below w.heap.size w (w.alloc (.cells (d.cs) 33)) from box_one w _)
  go_enter Try.func85, Try.ntmps85
  go_upto_region 1 with fail
  generalize hW : (w.alloc (.cells (d.cs) 33)) = w1 at *
  clear hW
  have x0 : w1.cell? ⟨w.heap.size, 0, none⟩ = some (.int .u8 d.has) := X.out.cell 0
  go_cut [17] from 7 to 17 (fun s wx => s = .bool (gt || (da && ac)) ∧ Below w1.heap.size w1 wx)
  case first =>
    have B0 := hidB (Below.refl w1.heap.size w1)
    cases gt <;> cases da
    all_goals
      go_wp2_with (first | ((with_reducible refine ldId 33 (.tmp 1) ?_); refine wpList_load_row (by rfl) 33 (.tmp 1) (by rfl) (w.heap.size) (by rfl) 33 (d.cs) (0, 0) _ (by exact X.out) Try.underlying33 (by rfl) (by kernel_rfl) ?_) | ((with_reducible refine ldId 33 (.tmp 1) ?_); refine wpList_wload_mid 33 (.tmp 1) (by rfl) (by rfl) (w.heap.size) 0 (by rfl) (d.cs.toList) _ (by exact Bk.mid X.out 0 _ rfl) Try.underlying33 (by rfl) (by kernel_rfl) ?_) | (go_at_call 96; refine (DA.out _).mono ?_; rintro e v1 ⟨rfl, hb⟩; replace X := hidB (X.out.on hb); replace B0 := hidB (B0.out.trans (hb.mono B0.out.size)); clear hb) | (go_at_call 97; refine (AC.out _).mono ?_; rintro e v1 ⟨rfl, hb⟩; replace X := hidB (X.out.on hb); replace B0 := hidB (B0.out.trans (hb.mono B0.out.size)); clear hb))
      go_meet
      case rel => exact ⟨by first | rfl | (simp; done), B0.out⟩
  case rest =>
  obtain ⟨rfl, hb⟩ := hcut
  replace X := hidB (X.out.on hb)
  replace B := hidB (B.out.trans (hb.mono B.out.size))
  clear hb
  clear x0
  generalize (gt || (da && ac)) = g1 at *
  cases g1
  rotate_left
  · go_wp2_with fail
    go_ret
    exact ⟨by rw [← HOK.out]; rfl, B.out⟩
  go_wp2_with (first | ((with_reducible refine ldId 24 (.tmp 18) ?_); refine wpList_load_mid (by rfl) 24 (.tmp 18) (by rfl) (w.heap.size) 1 (by rfl) (d.v.cells) _ (by exact Bk.mid X.out 1 _ rfl) Try.underlying24 (by rfl) (by kernel_rfl) ?_))
  refine (BV.out _).mono ?_; rintro e v1 ⟨rfl, hb⟩
  replace X := hidB (X.out.on hb); replace B := hidB (B.out.trans (hb.mono B.out.size)); clear hb
  go_upto_if 22 with (first | ((with_reducible refine ldId 33 (.tmp 1) ?_); refine wpList_load_row (by rfl) 33 (.tmp 1) (by rfl) (w.heap.size) (by rfl) 33 (d.cs) (0, 0) _ (by exact X.out) Try.underlying33 (by rfl) (by kernel_rfl) ?_) | ((with_reducible refine ldId 33 (.tmp 1) ?_); refine wpList_wload_mid 33 (.tmp 1) (by rfl) (by rfl) (w.heap.size) 0 (by rfl) (d.cs.toList) _ (by exact Bk.mid X.out 0 _ rfl) Try.underlying33 (by rfl) (by kernel_rfl) ?_) | (go_at_call 99; refine (H1.out _).mono ?_; rintro e v2 ⟨rfl, hb⟩; replace X := hidB (X.out.on hb); replace B := hidB (B.out.trans (hb.mono B.out.size)); clear hb))
  go_cut [3] from 23 to 25 (fun s wx => s = .bool (if b1 = true then mv else bv) ∧ Below v2.heap.size v2 wx)
  case first =>
    have B0 := hidB (Below.refl v2.heap.size v2)
    cases b1
    all_goals
      go_wp2_with (first | ((with_reducible refine ldId 24 (.tmp 23) ?_); refine wpList_load_mid (by rfl) 24 (.tmp 23) (by rfl) (w.heap.size) 1 (by rfl) (d.v.cells) _ (by exact Bk.mid X.out 1 _ rfl) Try.underlying24 (by rfl) (by kernel_rfl) ?_) | (go_at_call 31; refine (MV.out _).mono ?_; rintro e v1 ⟨rfl, hb⟩; replace X := hidB (X.out.on hb); replace B0 := hidB (B0.out.trans (hb.mono B0.out.size)); clear hb))
      go_meet
      case rel => exact ⟨by first | rfl | (simp; done), B0.out⟩
  case rest =>
  obtain ⟨rfl, hb⟩ := hcut
  replace X := hidB (X.out.on hb)
  replace B := hidB (B.out.trans (hb.mono B.out.size))
  clear hb
  generalize (if b1 = true then mv else bv) = v3 at *
  go_wp2_with (first | ((with_reducible refine ldId 24 (.tmp 26) ?_); refine wpList_load_mid (by rfl) 24 (.tmp 26) (by rfl) (w.heap.size) 5 (by rfl) (d.g.cells) _ (by exact Bk.mid X.out 5 _ rfl) Try.underlying24 (by rfl) (by kernel_rfl) ?_))
  refine (BG.out _).mono ?_; rintro e v1 ⟨rfl, hb⟩
  replace X := hidB (X.out.on hb); replace B := hidB (B.out.trans (hb.mono B.out.size)); clear hb
  go_upto_if 30 with (first | ((with_reducible refine ldId 33 (.tmp 1) ?_); refine wpList_load_row (by rfl) 33 (.tmp 1) (by rfl) (w.heap.size) (by rfl) 33 (d.cs) (0, 0) _ (by exact X.out) Try.underlying33 (by rfl) (by kernel_rfl) ?_) | ((with_reducible refine ldId 33 (.tmp 1) ?_); refine wpList_wload_mid 33 (.tmp 1) (by rfl) (by rfl) (w.heap.size) 0 (by rfl) (d.cs.toList) _ (by exact Bk.mid X.out 0 _ rfl) Try.underlying33 (by rfl) (by kernel_rfl) ?_) | (go_at_call 99; refine (H4.out _).mono ?_; rintro e v2 ⟨rfl, hb⟩; replace X := hidB (X.out.on hb); replace B := hidB (B.out.trans (hb.mono B.out.size)); clear hb))
  go_cut [4] from 31 to 33 (fun s wx => s = .bool (if b4 = true then cg else bg) ∧ Below v2.heap.size v2 wx)
  case first =>
    have B0 := hidB (Below.refl v2.heap.size v2)
    cases b4
    all_goals
      go_wp2_with (first | ((with_reducible refine ldId 24 (.tmp 31) ?_); refine wpList_load_mid (by rfl) 24 (.tmp 31) (by rfl) (w.heap.size) 5 (by rfl) (d.g.cells) _ (by exact Bk.mid X.out 5 _ rfl) Try.underlying24 (by rfl) (by kernel_rfl) ?_) | (go_at_call 100; refine (CG.out _).mono ?_; rintro e v1 ⟨rfl, hb⟩; replace X := hidB (X.out.on hb); replace B0 := hidB (B0.out.trans (hb.mono B0.out.size)); clear hb))
      go_meet
      case rel => exact ⟨by first | rfl | (simp; done), B0.out⟩
  case rest =>
  obtain ⟨rfl, hb⟩ := hcut
  replace X := hidB (X.out.on hb)
  replace B := hidB (B.out.trans (hb.mono B.out.size))
  clear hb
  generalize (if b4 = true then cg else bg) = v4 at *
  go_wp2_with (first | ((with_reducible refine ldId 24 (.tmp 34) ?_); refine wpList_load_mid (by rfl) 24 (.tmp 34) (by rfl) (w.heap.size) 9 (by rfl) (d.t.cells) _ (by exact Bk.mid X.out 9 _ rfl) Try.underlying24 (by rfl) (by kernel_rfl) ?_))
  refine (BT.out _).mono ?_; rintro e v1 ⟨rfl, hb⟩
  replace X := hidB (X.out.on hb); replace B := hidB (B.out.trans (hb.mono B.out.size)); clear hb
  go_upto_if 38 with (first | ((with_reducible refine ldId 33 (.tmp 1) ?_); refine wpList_load_row (by rfl) 33 (.tmp 1) (by rfl) (w.heap.size) (by rfl) 33 (d.cs) (0, 0) _ (by exact X.out) Try.underlying33 (by rfl) (by kernel_rfl) ?_) | ((with_reducible refine ldId 33 (.tmp 1) ?_); refine wpList_wload_mid 33 (.tmp 1) (by rfl) (by rfl) (w.heap.size) 0 (by rfl) (d.cs.toList) _ (by exact Bk.mid X.out 0 _ rfl) Try.underlying33 (by rfl) (by kernel_rfl) ?_) | (go_at_call 99; refine (H8.out _).mono ?_; rintro e v2 ⟨rfl, hb⟩; replace X := hidB (X.out.on hb); replace B := hidB (B.out.trans (hb.mono B.out.size)); clear hb))
  go_cut [5] from 39 to 41 (fun s wx => s = .bool (if b8 = true then ct else bt) ∧ Below v2.heap.size v2 wx)
  case first =>
    have B0 := hidB (Below.refl v2.heap.size v2)
    cases b8
    all_goals
      go_wp2_with (first | ((with_reducible refine ldId 24 (.tmp 39) ?_); refine wpList_load_mid (by rfl) 24 (.tmp 39) (by rfl) (w.heap.size) 9 (by rfl) (d.t.cells) _ (by exact Bk.mid X.out 9 _ rfl) Try.underlying24 (by rfl) (by kernel_rfl) ?_) | (go_at_call 100; refine (CT.out _).mono ?_; rintro e v1 ⟨rfl, hb⟩; replace X := hidB (X.out.on hb); replace B0 := hidB (B0.out.trans (hb.mono B0.out.size)); clear hb))
      go_meet
      case rel => exact ⟨by first | rfl | (simp; done), B0.out⟩
  case rest =>
  obtain ⟨rfl, hb⟩ := hcut
  replace X := hidB (X.out.on hb)
  replace B := hidB (B.out.trans (hb.mono B.out.size))
  clear hb
  generalize (if b8 = true then ct else bt) = v5 at *
  obtain ⟨wr, hwr⟩ : ∃ q, d.wr = q := ⟨_, rfl⟩
  obtain ⟨en, hen⟩ : ∃ q, d.en = q := ⟨_, rfl⟩
  obtain ⟨cf, hcf⟩ : ∃ q, d.cf = q := ⟨_, rfl⟩
  rw [hwr, hen, hcf] at HOK
  have Xwr := hidB (fun W (h : Bk W w.heap.size 33 d.cs) => show W.cell? ⟨w.heap.size, 13, none⟩ = some (.bool wr) from by rw [← hwr]; exact h.cell 13)
  have Xen := hidB (fun W (h : Bk W w.heap.size 33 d.cs) => show W.cell? ⟨w.heap.size, 14, none⟩ = some (.bool en) from by rw [← hen]; exact h.cell 14)
  have Xcf := hidB (fun W (h : Bk W w.heap.size 33 d.cs) => show W.cell? ⟨w.heap.size, 15, none⟩ = some (.bool cf) from by rw [← hcf]; exact h.cell 15)
  clear hwr hen hcf
  go_upto_region 12 with fail
  go_cut [6] from 42 to 66 (fun s wx => s = .bool ((!wr || b2) && ((!en || b16) && (!cf || b32))) ∧ Below wc.heap.size wc wx)
  case first =>
    have B0 := hidB (Below.refl wc.heap.size wc)
    have x13 := Xwr.out _ X.out; have x14 := Xen.out _ X.out; have x15 := Xcf.out _ X.out
    clear HOK DA AC H1 H4 H8 MV CG CT BV BG BT B
    have hp : (wr = true ∧ b2 = false) ∨ (wr = false ∨ (wr = true ∧ b2 = true)) := by cases wr <;> cases b2 <;> simp
    have hq : (en = true ∧ b16 = false) ∨ (en = false ∨ (en = true ∧ b16 = true)) := by cases en <;> cases b16 <;> simp
    have hs : cf = false ∨ cf = true := by cases cf <;> simp
    rcases hp with ⟨rfl, rfl⟩ | rfl | ⟨rfl, rfl⟩
    rotate_left
    all_goals try (rcases hq with ⟨rfl, rfl⟩ | rfl | ⟨rfl, rfl⟩)
    all_goals try (rcases hs with rfl | rfl)
    all_goals
      go_wp2_with (first | ((with_reducible refine ldId 33 (.tmp 1) ?_); refine wpList_wload_mid 33 (.tmp 1) (by rfl) (by rfl) (w.heap.size) 0 (by rfl) (d.cs.toList) _ (by exact Bk.mid X.out 0 _ rfl) Try.underlying33 (by rfl) (by kernel_rfl) ?_) | (go_at_call 99; with_reducible refine (H2.out _).mono ?_; rintro e v1 ⟨rfl, hb⟩; replace X := hidB (X.out.on hb); replace B0 := hidB (B0.out.trans (hb.mono B0.out.size)); clear hb; have x13 := Xwr.out _ X.out; have x14 := Xen.out _ X.out; have x15 := Xcf.out _ X.out) | (go_at_call 99; with_reducible refine (H16.out _).mono ?_; rintro e v1 ⟨rfl, hb⟩; replace X := hidB (X.out.on hb); replace B0 := hidB (B0.out.trans (hb.mono B0.out.size)); clear hb; have x13 := Xwr.out _ X.out; have x14 := Xen.out _ X.out; have x15 := Xcf.out _ X.out) | (go_at_call 99; with_reducible refine (H32.out _).mono ?_; rintro e v1 ⟨rfl, hb⟩; replace X := hidB (X.out.on hb); replace B0 := hidB (B0.out.trans (hb.mono B0.out.size)); clear hb; have x13 := Xwr.out _ X.out; have x14 := Xen.out _ X.out; have x15 := Xcf.out _ X.out))
      go_meet
      case rel => exact ⟨by first | rfl | (simp; done), B0.out⟩
  case rest =>
  obtain ⟨rfl, hb⟩ := hcut
  replace X := hidB (X.out.on hb)
  replace B := hidB (B.out.trans (hb.mono B.out.size))
  clear hb Xwr Xen Xcf
  generalize ((!wr || b2) && ((!en || b16) && (!cf || b32))) = v6 at *
  cases v3 <;> cases v4 <;> cases v5 <;> cases v6
  all_goals
    go_wp2_with fail
    go_ret
    exact ⟨by rw [← HOK.out]; rfl, B.out⟩

end Go.Proofs.Ytbkjbpefbdoenaa
