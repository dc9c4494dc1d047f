/-
  Descriptors: the walk of desc.Check.
-/
import Derived.Test.YtbkjbpefbdoenaaDescWalk
import Derived.BigGuardPart
namespace Go.Proofs.Ytbkjbpefbdoenaa
open Go.RowKit

set_option maxHeartbeats 20000000 in
set_option maxRecDepth 100000 in
theorem descCheck_any (d : DI) (hd : d.ok) (w : World) : Calls Try.prog 73 #[d.a] w fun e w' => e = .returned (.int .i64 d.err) ∧ Below w.heap.size w w' := by
  have DA := hidB (fun W => isData_any d W)
  have AA := hidB (fun W => isAccess_any d W)
  have MA := hidB (fun W => vmay_any d.v.k d.v.x d.v.s d.v.r hd.1 W)
  have GA := hidB (fun W => called_any d.g hd.2.1 W)
  have TA := hidB (fun W => called_any d.t hd.2.2 W)
  have EV : Hid (∀ W : World, (Op.equalIn 10000 24 (.agg #[.int .u8 d.v.k, .float .f64 d.v.x, .string d.v.s, .int .i64 d.v.r]) (.agg #[.int .u8 0, .float .f64 0, .string ⟨#[]⟩, .int .i64 0])).run Try.prog W = .ok (VI.isZ d.v) W) := hidB (fun W => (equal_val 9998 d.v.k 0 d.v.x 0 d.v.s ⟨#[]⟩ d.v.r 0 W).trans (by rw [eqV_zero]))
  have EG : Hid (∀ W : World, (Op.equalIn 10000 24 (.agg #[.int .u8 d.g.k, .float .f64 d.g.x, .string d.g.s, .int .i64 d.g.r]) (.agg #[.int .u8 0, .float .f64 0, .string ⟨#[]⟩, .int .i64 0])).run Try.prog W = .ok (VI.isZ d.g) W) := hidB (fun W => (equal_val 9998 d.g.k 0 d.g.x 0 d.g.s ⟨#[]⟩ d.g.r 0 W).trans (by rw [eqV_zero]))
  have ET : Hid (∀ W : World, (Op.equalIn 10000 24 (.agg #[.int .u8 d.t.k, .float .f64 d.t.x, .string d.t.s, .int .i64 d.t.r]) (.agg #[.int .u8 0, .float .f64 0, .string ⟨#[]⟩, .int .i64 0])).run Try.prog W = .ok (VI.isZ d.t) W) := hidB (fun W => (equal_val 9998 d.t.k 0 d.t.x 0 d.t.s ⟨#[]⟩ d.t.r 0 W).trans (by rw [eqV_zero]))
  unfold DI.err DI.bad1 DI.bad2 DI.bad3 DI.data DI.acc hasB lackB VI.may
  obtain ⟨hs, v, g, t, wr, en, cf⟩ := d
  clear hd
  simp only at DA AA MA GA TA EV EG ET ⊢
  generalize h1 : (bits .andNot .u8 hs 63 != 0) = b0 at *
  generalize h2 : (bits .and .u8 hs 3 != 0) = bd at *
  generalize h3 : (bits .and .u8 hs 12 != 0) = ba at *
  generalize mayV v.k v.x v.s v.r = mv at *
  generalize g.called = cg at *
  generalize t.called = ct at *
  generalize hz1 : VI.isZ v = zv at *
  generalize hz2 : VI.isZ g = zg at *
  generalize hz3 : VI.isZ t = zt at *
  clear hz1 hz2 hz3 h2 h3
  generalize l1 : (bits .and .u8 (bits .xor .u8 IntKind.u8.max hs) 1 != 0) = k1 at *
  generalize l2 : (bits .and .u8 (bits .xor .u8 IntKind.u8.max hs) 2 != 0) = k2 at *
  generalize l4 : (bits .and .u8 (bits .xor .u8 IntKind.u8.max hs) 4 != 0) = k4 at *
  generalize l8 : (bits .and .u8 (bits .xor .u8 IntKind.u8.max hs) 8 != 0) = k8 at *
  generalize l16 : (bits .and .u8 (bits .xor .u8 IntKind.u8.max hs) 16 != 0) = k16 at *
  generalize l32 : (bits .and .u8 (bits .xor .u8 IntKind.u8.max hs) 32 != 0) = k32 at *
  obtain ⟨q1, e1⟩ : ∃ q, q = (b0 || (bd && ba) || !mv || !cg || !ct) := ⟨_, rfl⟩
  obtain ⟨q2, e2⟩ : ∃ q, q = ((k1 && !zv) || (k4 && !zg) || (k8 && !zt)) := ⟨_, rfl⟩
  obtain ⟨q3, e3⟩ : ∃ q, q = ((k2 && wr) || (k16 && en) || (k32 && cf)) := ⟨_, rfl⟩
  rw [← e1, ← e2, ← e3]
  have E1 := hidB e1
  have E2 := hidB e2
  have E3 := hidB e3
  clear e1 e2 e3
  have U := hidB (Bk.new w 33 #[.int .u8 (hs), .int .u8 v.k, .float .f64 v.x, .string v.s, .int .i64 v.r, .int .u8 g.k, .float .f64 g.x, .string g.s, .int .i64 g.r, .int .u8 t.k, .float .f64 t.x, .string t.s, .int .i64 t.r, .bool wr, .bool en, .bool cf])
  have Bt := hidB (box_one w (.cells #[.int .u8 (hs), .int .u8 v.k, .float .f64 v.x, .string v.s, .int .i64 v.r, .int .u8 g.k, .float .f64 g.x, .string g.s, .int .i64 g.r, .int .u8 t.k, .float .f64 t.x, .string t.s, .int .i64 t.r, .bool wr, .bool en, .bool cf] 33))
  go_enter Try.func73, Try.ntmps73
  go_upto_region 3 with fail
  go_cut [1, 36] from 0 to 95 (fun s1 s36 wx => s1 = .pointer (some ⟨w.heap.size, 0, none⟩) ∧ s36 = .bool q1 ∧ Bk wx w.heap.size 33 #[.int .u8 (hs), .int .u8 v.k, .float .f64 v.x, .string v.s, .int .i64 v.r, .int .u8 g.k, .float .f64 g.x, .string g.s, .int .i64 g.r, .int .u8 t.k, .float .f64 t.x, .string t.s, .int .i64 t.r, .bool wr, .bool en, .bool cf] ∧ Below w.heap.size w wx)
  case first =>
    clear E2 E3 EV EG ET l1 l2 l4 l8 l16 l32
    go_wp2_with (first | ((with_reducible refine ldId 33 (.tmp 1) ?_); refine wpList_load_row (by rfl) 33 (.tmp 1) (by rfl) w.heap.size (by rfl) 33 _ (0, 0) _ (by exact U.out) Try.underlying33 (by rfl) (by kernel_rfl) ?_) | ((with_reducible refine ldId 33 (.tmp 1) ?_); refine wpList_wload_row 33 (.tmp 1) (by rfl) (by rfl) w.heap.size (by rfl) 33 _ (0, 0) _ (by exact U.out) Try.underlying33 (by rfl) (by kernel_rfl) ?_) | (go_at_call 91; refine (DA.out _).mono ?_; rintro e wn ⟨rfl, hb⟩; replace U := hidB (U.out.on hb); replace Bt := hidB (Bt.out.trans (hb.mono Bt.out.size)); clear hb) | (go_at_call 92; refine (AA.out _).mono ?_; rintro e wn ⟨rfl, hb⟩; replace U := hidB (U.out.on hb); replace Bt := hidB (Bt.out.trans (hb.mono Bt.out.size)); clear hb) | ((with_reducible refine ldId 24 (.tmp 20) ?_); refine wpList_load_mid (by rfl) 24 (.tmp 20) (by rfl) w.heap.size 1 (by rfl) v.cells _ (by exact U.out.mid 1 _ rfl) Try.underlying24 (by rfl) (by kernel_rfl) ?_) | ((with_reducible refine ldId 24 (.tmp 20) ?_); refine wpList_wload_mid 24 (.tmp 20) (by rfl) (by rfl) w.heap.size 1 (by rfl) v.cells _ (by exact U.out.mid 1 _ rfl) Try.underlying24 (by rfl) (by kernel_rfl) ?_) | ((with_reducible refine ldId 24 (.tmp 26) ?_); refine wpList_load_mid (by rfl) 24 (.tmp 26) (by rfl) w.heap.size 5 (by rfl) g.cells _ (by exact U.out.mid 5 _ rfl) Try.underlying24 (by rfl) (by kernel_rfl) ?_) | ((with_reducible refine ldId 24 (.tmp 26) ?_); refine wpList_wload_mid 24 (.tmp 26) (by rfl) (by rfl) w.heap.size 5 (by rfl) g.cells _ (by exact U.out.mid 5 _ rfl) Try.underlying24 (by rfl) (by kernel_rfl) ?_) | ((with_reducible refine ldId 24 (.tmp 32) ?_); refine wpList_load_mid (by rfl) 24 (.tmp 32) (by rfl) w.heap.size 9 (by rfl) t.cells _ (by exact U.out.mid 9 _ rfl) Try.underlying24 (by rfl) (by kernel_rfl) ?_) | ((with_reducible refine ldId 24 (.tmp 32) ?_); refine wpList_wload_mid 24 (.tmp 32) (by rfl) (by rfl) w.heap.size 9 (by rfl) t.cells _ (by exact U.out.mid 9 _ rfl) Try.underlying24 (by rfl) (by kernel_rfl) ?_) | (go_at_call 22; refine (MA.out _).mono ?_; rintro e wn ⟨rfl, hb⟩; replace U := hidB (U.out.on hb); replace Bt := hidB (Bt.out.trans (hb.mono Bt.out.size)); clear hb) | (go_at_call 93; (first | ((with_reducible refine (GA.out _).mono ?_) ; rintro e wn ⟨rfl, hb⟩; replace U := hidB (U.out.on hb); replace Bt := hidB (Bt.out.trans (hb.mono Bt.out.size)); clear hb) | ((with_reducible refine (TA.out _).mono ?_) ; rintro e wn ⟨rfl, hb⟩; replace U := hidB (U.out.on hb); replace Bt := hidB (Bt.out.trans (hb.mono Bt.out.size)); clear hb))))
    all_goals
      go_meet
      case rel => exact ⟨rfl, congrArg Value.bool (by rw [E1.out]; simp [*]), U.out, Bt.out⟩
  case rest =>
  obtain ⟨rfl, rfl, hU, hb⟩ := hcut
  replace U := hidB hU
  replace Bt := hidB hb
  clear hU hb E1
  cases q1
  · skip
    obtain ⟨x0, _, _, _, _, _, _, _, _, _, _, _, _, y13, y14, y15, _⟩ := Bk.facts16 U.out
    have z1 : Try.prog.eqGuardType Try.prog.depth 24 = false := by kernel_rfl
    have sg : IntKind.u8.signed = false := rfl
    go_upto_region 6 with fail
    go_cut [4, 70] from 2 to 95 (fun s4 s70 wx => s4 = .int .u8 (bits .xor .u8 IntKind.u8.max hs) ∧ s70 = .bool q2 ∧ wc = wx)
    case first =>
      clear E3
      have V1 := EV.out
      have V2 := EG.out
      have V3 := ET.out
      go_wp2_with (first | ((with_reducible refine ldId 24 (.tmp 44) ?_); refine wpList_load_mid (by rfl) 24 (.tmp 44) (by rfl) w.heap.size 1 (by rfl) v.cells _ (by exact U.out.mid 1 _ rfl) Try.underlying24 (by rfl) (by kernel_rfl) ?_) | ((with_reducible refine ldId 24 (.tmp 44) ?_); refine wpList_wload_mid 24 (.tmp 44) (by rfl) (by rfl) w.heap.size 1 (by rfl) v.cells _ (by exact U.out.mid 1 _ rfl) Try.underlying24 (by rfl) (by kernel_rfl) ?_) | ((with_reducible refine ldId 24 (.tmp 54) ?_); refine wpList_load_mid (by rfl) 24 (.tmp 54) (by rfl) w.heap.size 5 (by rfl) g.cells _ (by exact U.out.mid 5 _ rfl) Try.underlying24 (by rfl) (by kernel_rfl) ?_) | ((with_reducible refine ldId 24 (.tmp 54) ?_); refine wpList_wload_mid 24 (.tmp 54) (by rfl) (by rfl) w.heap.size 5 (by rfl) g.cells _ (by exact U.out.mid 5 _ rfl) Try.underlying24 (by rfl) (by kernel_rfl) ?_) | ((with_reducible refine ldId 24 (.tmp 65) ?_); refine wpList_load_mid (by rfl) 24 (.tmp 65) (by rfl) w.heap.size 9 (by rfl) t.cells _ (by exact U.out.mid 9 _ rfl) Try.underlying24 (by rfl) (by kernel_rfl) ?_) | ((with_reducible refine ldId 24 (.tmp 65) ?_); refine wpList_wload_mid 24 (.tmp 65) (by rfl) (by rfl) w.heap.size 9 (by rfl) t.cells _ (by exact U.out.mid 9 _ rfl) Try.underlying24 (by rfl) (by kernel_rfl) ?_))
      all_goals
        go_meet
        case rel => exact ⟨rfl, congrArg Value.bool (by rw [E2.out]; simp [*]), rfl⟩
    case rest =>
    obtain ⟨rfl, rfl, rfl⟩ := hcut
    clear E2 EV EG ET
    cases q2
    · skip
      go_upto_region 8 with fail
      go_cut [95] from 2 to 95 (fun s95 wx => s95 = .bool q3 ∧ wc = wx)
      case first =>
        go_wp2_with fail
        all_goals
          go_meet
          case rel => exact ⟨congrArg Value.bool (by rw [E3.out]; simp [*]), rfl⟩
      case rest =>
      obtain ⟨rfl, rfl⟩ := hcut
      clear E3
      cases q3
      all_goals
        go_wp2_with fail
        go_ret
        exact ⟨rfl, Bt.out⟩
    · go_wp2_with fail
      go_ret
      exact ⟨rfl, Bt.out⟩
  · go_wp2_with fail
    go_ret
    exact ⟨rfl, Bt.out⟩

end Go.Proofs.Ytbkjbpefbdoenaa
