/-
  A task of a kind, begun.
-/
import Derived.Test.YtbkjbpefbdoenaaCPlain
namespace Go.Proofs.Ytbkjbpefbdoenaa
open Go.RowKit

set_option maxHeartbeats 8000000 in
set_option maxRecDepth 100000 in
theorem begun_any (kd : Int) (hkd : kd = 0 ∨ kd = 1 ∨ kd = 2) (f' v' pr : VI) (args : List VI) (h1 : 0 ≤ f'.k) (h2 : 0 ≤ v'.k) (h3 : 0 ≤ pr.k) (h0 : okV args) (av : Value) (w : World) (hr : RdL VI.cells 4 args av w) : Calls Try.prog 12 #[.int .u8 kd, f'.a, v'.a, pr.a, av] w (BegunR (taskS kd f' v' pr args) (taskE kd f' v' pr args) w) := by
  have RA := hidB (fun W (hb : Below w.heap.size w W) => hr.on hb)
  have H0 := hidB h0
  obtain ⟨pa, c, rfl, _⟩ := hr
  clear h0
  have XF := hidB (show Bk (((w.alloc (.cells (f'.cells.toArray) 24)).alloc (.cells (v'.cells.toArray) 24)).alloc (.cells (pr.cells.toArray) 24)) (w.heap.size) 24 (f'.cells.toArray) from ((Bk.new w _ _).alloc _).alloc _)
  have XV := hidB (show Bk (((w.alloc (.cells (f'.cells.toArray) 24)).alloc (.cells (v'.cells.toArray) 24)).alloc (.cells (pr.cells.toArray) 24)) (w.heap.size + 1) 24 (v'.cells.toArray) from (Bk.new2 w _ _ _).alloc _)
  have XP := hidB (show Bk (((w.alloc (.cells (f'.cells.toArray) 24)).alloc (.cells (v'.cells.toArray) 24)).alloc (.cells (pr.cells.toArray) 24)) (w.heap.size + 1 + 1) 24 (pr.cells.toArray) from Bk.new3 w _ _ _ _)
  have B := hidB (show Below w.heap.size w (((w.alloc (.cells (f'.cells.toArray) 24)).alloc (.cells (v'.cells.toArray) 24)).alloc (.cells (pr.cells.toArray) 24)) from ((box_one w _).alloc (by simp) _).alloc (by simp <;> omega) _)
  rcases hkd with rfl | rfl | rfl
  · show Calls _ _ _ w (BegunR (startS f' v' args) (wrongE args [f', v']) w)
    go_enter Try.func12, Try.ntmps12
    go_upto_region 1 with fail
    generalize hW : (((w.alloc (.cells (f'.cells.toArray) 24)).alloc (.cells (v'.cells.toArray) 24)).alloc (.cells (pr.cells.toArray) 24)) = w1 at *
    clear hW
    go_wp2_with (first | ((with_reducible refine ldId 24 (.tmp 6) ?_); refine wpList_load_row (by rfl) 24 (.tmp 6) (by rfl) (w.heap.size) (by rfl) 24 (f'.cells.toArray) (0, 0) _ (by exact XF.out) Try.underlying24 (by rfl) (by kernel_rfl) ?_) | ((with_reducible refine ldId 24 (.tmp 7) ?_); refine wpList_load_row (by rfl) 24 (.tmp 7) (by rfl) (w.heap.size + 1) (by rfl) 24 (v'.cells.toArray) (0, 0) _ (by exact XV.out) Try.underlying24 (by rfl) (by kernel_rfl) ?_))
    refine (start_any f' v' args h1 h2 H0.out _ _ (RA.out _ B.out)).mono ?_; rintro e w3 (⟨hne, rfl, hb⟩ | ⟨her, T, A, rfl, hT, hb, hA⟩)
    · replace B := hidB (B.out.trans (hb.mono B.out.size))
      have HN := hidB hne
      clear hb RA XF XV XP hne
      generalize wrongE args [f', v'] = er at *
      go_wp2_with fail
      go_ret2
      exact .inl ⟨HN.out, rfl, B.out⟩
    · have HA := hidB (fun j hj => Nat.le_trans B.out.size (hA j hj))
      replace B := hidB (B.out.trans (hb.mono B.out.size))
      have HT := hidB hT
      have HER := hidB her
      clear hb RA XF XV XP hT hA her
      go_wp2_with fail
      go_ret2
      exact .inr ⟨HER.out, T, A, rfl, HT.out, B.out, HA.out⟩
  · show Calls _ _ _ w (BegunR (makeS f' v' args) (makeE f' v' args) w)
    go_enter Try.func12, Try.ntmps12
    go_upto_region 1 with fail
    generalize hW : (((w.alloc (.cells (f'.cells.toArray) 24)).alloc (.cells (v'.cells.toArray) 24)).alloc (.cells (pr.cells.toArray) 24)) = w1 at *
    clear hW
    go_wp2_with (first | ((with_reducible refine ldId 24 (.tmp 6) ?_); refine wpList_load_row (by rfl) 24 (.tmp 6) (by rfl) (w.heap.size) (by rfl) 24 (f'.cells.toArray) (0, 0) _ (by exact XF.out) Try.underlying24 (by rfl) (by kernel_rfl) ?_) | ((with_reducible refine ldId 24 (.tmp 7) ?_); refine wpList_load_row (by rfl) 24 (.tmp 7) (by rfl) (w.heap.size + 1) (by rfl) 24 (v'.cells.toArray) (0, 0) _ (by exact XV.out) Try.underlying24 (by rfl) (by kernel_rfl) ?_))
    refine (make_any f' v' args h1 h2 H0.out _ _ (RA.out _ B.out)).mono ?_; rintro e w3 (⟨hne, rfl, hb⟩ | ⟨her, T, A, rfl, hT, hb, hA⟩)
    · replace B := hidB (B.out.trans (hb.mono B.out.size))
      have HN := hidB hne
      clear hb RA XF XV XP hne
      generalize makeE f' v' args = er at *
      go_wp2_with fail
      go_ret2
      exact .inl ⟨HN.out, rfl, B.out⟩
    · have HA := hidB (fun j hj => Nat.le_trans B.out.size (hA j hj))
      replace B := hidB (B.out.trans (hb.mono B.out.size))
      have HT := hidB hT
      have HER := hidB her
      clear hb RA XF XV XP hT hA her
      go_wp2_with fail
      go_ret2
      exact .inr ⟨HER.out, T, A, rfl, HT.out, B.out, HA.out⟩
  · show Calls _ _ _ w (BegunR (bodyS f' v' pr args) (bodyE f' v' pr args) w)
    go_enter Try.func12, Try.ntmps12
    go_upto_region 1 with fail
    generalize hW : (((w.alloc (.cells (f'.cells.toArray) 24)).alloc (.cells (v'.cells.toArray) 24)).alloc (.cells (pr.cells.toArray) 24)) = w1 at *
    clear hW
    go_wp2_with (first | ((with_reducible refine ldId 24 (.tmp 6) ?_); refine wpList_load_row (by rfl) 24 (.tmp 6) (by rfl) (w.heap.size) (by rfl) 24 (f'.cells.toArray) (0, 0) _ (by exact XF.out) Try.underlying24 (by rfl) (by kernel_rfl) ?_) | ((with_reducible refine ldId 24 (.tmp 7) ?_); refine wpList_load_row (by rfl) 24 (.tmp 7) (by rfl) (w.heap.size + 1) (by rfl) 24 (v'.cells.toArray) (0, 0) _ (by exact XV.out) Try.underlying24 (by rfl) (by kernel_rfl) ?_) | ((with_reducible refine ldId 24 (.tmp 8) ?_); refine wpList_load_row (by rfl) 24 (.tmp 8) (by rfl) (w.heap.size + 1 + 1) (by rfl) 24 (pr.cells.toArray) (0, 0) _ (by exact XP.out) Try.underlying24 (by rfl) (by kernel_rfl) ?_))
    refine (body_any f' v' pr args h1 h2 h3 H0.out _ _ (RA.out _ B.out)).mono ?_; rintro e w3 (⟨hne, rfl, hb⟩ | ⟨her, T, A, rfl, hT, hb, hA⟩)
    · replace B := hidB (B.out.trans (hb.mono B.out.size))
      have HN := hidB hne
      clear hb RA XF XV XP hne
      generalize bodyE f' v' pr args = er at *
      go_wp2_with fail
      go_ret2
      exact .inl ⟨HN.out, rfl, B.out⟩
    · have HA := hidB (fun j hj => Nat.le_trans B.out.size (hA j hj))
      replace B := hidB (B.out.trans (hb.mono B.out.size))
      have HT := hidB hT
      have HER := hidB her
      clear hb RA XF XV XP hT hA her
      go_wp2_with fail
      go_ret2
      exact .inr ⟨HER.out, T, A, rfl, HT.out, B.out, HA.out⟩

end Go.Proofs.Ytbkjbpefbdoenaa
