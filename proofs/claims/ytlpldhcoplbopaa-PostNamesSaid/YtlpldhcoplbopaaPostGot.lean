/-
  What may be got: the walk of post.got.
-/
import Derived.Test.YtlpldhcoplbopaaPostTold
namespace Go.Proofs.Ytlpldhcoplbopaa
open Go.RowKit

/-- May a value be told of what is there, put into it? -/
def gotB (v : VI) (x : FI) (b : Bool) : Bool :=
  if !x.fo || x.d.cf then true else if hasB x.d.has 3 then x.d.wr || v.same x.d.v else if b then x.d.t.k != 0 else (x.d.g.k != 0 || v.k == 0)
set_option maxHeartbeats 8000000 in
set_option maxRecDepth 100000 in
theorem got_any (v : VI) (x : FI) (b : Bool) (h0 : 0 ≤ v.k) (w : World) : Calls Try.prog 38 #[v.a, x.a, .bool b] w fun e w' => e = .returned (.bool (gotB v x b)) ∧ Below w.heap.size w w' := by
  have DA := hidB (fun W => isData_any x.d W)
  have SA : Hid (∀ W, Calls Try.prog 16 #[v.a, x.d.v.a] W fun e w' => e = .returned (.bool (v.same x.d.v)) ∧ Below W.heap.size W w') := hidB (fun W => same_any v.k v.x v.s v.r x.d.v.k x.d.v.x x.d.v.s x.d.v.r h0 W)
  clear h0
  have U := hidB (show Bk ((w.alloc (.cells v.cells.toArray 30)).alloc (.cells x.cs 48)) (w.heap.size) 30 v.cells.toArray from (Bk.new w _ _).alloc _)
  have N := hidB (show Bk ((w.alloc (.cells v.cells.toArray 30)).alloc (.cells x.cs 48)) (w.heap.size + 1) 48 x.cs from Bk.new2 w _ _ _)
  have Bt := hidB (show Below w.heap.size w ((w.alloc (.cells v.cells.toArray 30)).alloc (.cells x.cs 48)) from (box_one w _).alloc (by simp) _)
  unfold gotB hasB
  generalize hd : (bits .and .u8 x.d.has 3 != 0) = dd at *
  clear hd
  generalize v.same x.d.v = sm at *
  generalize hg : (x.d.g.k != 0) = gk at *
  generalize ht : (x.d.t.k != 0) = tk at *
  generalize hv : (v.k == 0) = vk at *
  generalize g3 : x.fo = fo at *
  generalize g4 : x.d.wr = nw at *
  generalize g5 : x.d.cf = nc at *
  have G3 := hidB g3
  have G4 := hidB g4
  have G5 := hidB g5
  clear g3 g4 g5
  go_enter Try.func38, Try.ntmps38
  go_upto_region 1 with fail
  generalize ((w.alloc (.cells v.cells.toArray 30)).alloc (.cells x.cs 48)) = w1 at *
  have x0 : w1.cell? ⟨w.heap.size, 0, none⟩ = some (.int .u8 v.k) := U.out.cell 0
  have z5 : w1.cell? ⟨w.heap.size + 1, 5, none⟩ = some (.bool fo) := by rw [← G3.out]; exact N.out.cell 5
  have z11 : w1.cell? ⟨w.heap.size + 1, 11, none⟩ = some (.int .u8 x.d.g.k) := N.out.cell 11
  have z15 : w1.cell? ⟨w.heap.size + 1, 15, none⟩ = some (.int .u8 x.d.t.k) := N.out.cell 15
  have z19 : w1.cell? ⟨w.heap.size + 1, 19, none⟩ = some (.bool nw) := by rw [← G4.out]; exact N.out.cell 19
  have z21 : w1.cell? ⟨w.heap.size + 1, 21, none⟩ = some (.bool nc) := by rw [← G5.out]; exact N.out.cell 21
  cases fo
  · go_wp2_with fail
    go_ret
    exact ⟨rfl, Bt.out⟩
  · cases nc
    · go_upto_region 3 with fail
      go_wp2_with (first | ((with_reducible refine ldId 32 (.tmp 17) ?_); refine wpList_load_mid (by rfl) 32 (.tmp 17) (by rfl) (w.heap.size + 1) 6 (by rfl) (x.d.cs.toList) _ (by exact Bk.mid N.out 6 _ rfl) Try.underlying32 (by rfl) (by kernel_rfl) ?_))
      refine (DA.out _).mono ?_; rintro e w2 ⟨rfl, hb⟩
      have U2 := hidB (U.out.on hb)
      have N2 := hidB (N.out.on hb)
      have B2 := hidB (Bt.out.trans (hb.mono Bt.out.size))
      clear hb U N Bt x0 z5 z11 z15 z19 z21
      have x0 : w2.cell? ⟨w.heap.size, 0, none⟩ = some (.int .u8 v.k) := U2.out.cell 0
      have z11 : w2.cell? ⟨w.heap.size + 1, 11, none⟩ = some (.int .u8 x.d.g.k) := N2.out.cell 11
      have z15 : w2.cell? ⟨w.heap.size + 1, 15, none⟩ = some (.int .u8 x.d.t.k) := N2.out.cell 15
      have z19 : w2.cell? ⟨w.heap.size + 1, 19, none⟩ = some (.bool nw) := by rw [← G4.out]; exact N2.out.cell 19
      cases dd
      · cases b
        · cases gk
          all_goals
            go_wp2_with fail
            all_goals
              go_ret
              exact ⟨ret_bool (by first | rfl | (simp [*]; done)), B2.out⟩
        · go_wp2_with fail
          go_ret
          exact ⟨ret_bool (by first | rfl | (simp [*]; done)), B2.out⟩
      · cases nw
        · go_upto_region 4 with fail
          go_wp2_with (first | ((with_reducible refine ldId 30 (.tmp 3) ?_); refine wpList_wload_mid 30 (.tmp 3) (by rfl) (by rfl) (w.heap.size) 0 (by rfl) (v.cells) _ (by exact Bk.mid U2.out 0 _ rfl) Try.underlying30 (by rfl) (by kernel_rfl) ?_) | ((with_reducible refine ldId 30 (.tmp 26) ?_); refine wpList_wload_mid 30 (.tmp 26) (by rfl) (by rfl) (w.heap.size + 1) 7 (by rfl) (x.d.v.cells) _ (by exact Bk.mid N2.out 7 _ rfl) Try.underlying30 (by rfl) (by kernel_rfl) ?_))
          refine (SA.out _).mono ?_; rintro e w3 ⟨rfl, hb⟩
          have B3 := hidB (B2.out.trans (hb.mono B2.out.size))
          clear hb
          go_wp2_with fail
          go_ret
          exact ⟨ret_bool (by first | rfl | (simp [*]; done)), B3.out⟩
        · go_wp2_with fail
          go_ret
          exact ⟨rfl, B2.out⟩
    · go_wp2_with fail
      go_ret
      exact ⟨rfl, Bt.out⟩

end Go.Proofs.Ytlpldhcoplbopaa
