/-
  The law's own small functions.
-/
import Derived.Test.YtbkjbpefbdoenaaTask
namespace Go.Proofs.Ytbkjbpefbdoenaa
open Go.RowKit

def mkI (n : Int) : VI := ⟨8, 0, ⟨#[]⟩, n⟩
def thI (n : Int) : VI := ⟨6, 0, ⟨#[]⟩, n⟩
def nuI (x : Nat) : VI := ⟨3, x, ⟨#[]⟩, 0⟩
def S20 : List (OI × List KI) → Res := bodyS (mkI 5) (mkI 6) (thI 0) [nuI 4607182418800017408]
def Lof (l : List OI) : List (OI × List KI) := l.map fun x => (x.put vNil, [])
theorem WantR.keep {r : Res} {mid : Nat} {wt : WI} {w w' : World} (h : WantR r mid wt w) (hb : ∀ k, k < w.heap.size → w'.heap[k]? = w.heap[k]?) : WantR r mid wt w' := by
  cases r with
  | out x ks => obtain ⟨h1, h2, kv, e, h⟩ := h; exact ⟨h1, h2, kv, e, own_eq h fun k hk => hb k (h.lt k hk).2⟩
  | want W l => obtain ⟨av, e, h⟩ := h; exact ⟨av, e, own_eq h fun k hk => hb k (h.lt k hk).2⟩
theorem WantR.lower {r : Res} {mid m2 : Nat} {wt : WI} {w : World} (h : WantR r mid wt w) (hm : m2 ≤ mid) : WantR r m2 wt w := by
  cases r with
  | out x ks => obtain ⟨h1, h2, kv, e, h⟩ := h; exact ⟨h1, h2, kv, e, own_base h fun k hk => Nat.le_trans hm (h.lt k hk).1⟩
  | want W l => obtain ⟨av, e, h⟩ := h; exact ⟨av, e, own_base h fun k hk => Nat.le_trans hm (h.lt k hk).1⟩

set_option maxHeartbeats 8000000 in
set_option maxRecDepth 100000 in
theorem maker_any (n : Int) (w : World) : Calls Try.prog 19 #[.int .i64 n] w fun e w' => e = .returned (mkI n).a ∧ Below w.heap.size w w' := by
  have R := hidB (show Bk (w.alloc (.cells (#[.int .u8 0, .float .f64 0, .string ⟨#[]⟩, .int .i64 0]) 24)) (w.heap.size) 24 (VI.zero.cells.toArray) from Bk.new w _ _)
  have B := hidB (show Below w.heap.size w (w.alloc (.cells (#[.int .u8 0, .float .f64 0, .string ⟨#[]⟩, .int .i64 0]) 24)) from box_one w _)
  go_enter Try.func19, Try.ntmps19
  go_upto_region 1 with fail
  generalize hW : (w.alloc (.cells (#[.int .u8 0, .float .f64 0, .string ⟨#[]⟩, .int .i64 0]) 24)) = w1 at *
  clear hW
  go_wp2_with (first | ((with_reducible refine wpId ?_); refine wpList_build_to (by rfl) 24 _ (by rfl) ((mkI n).cells.toArray) (by kernel_rfl) ?_) | ((with_reducible refine stId 24 (.tmp 2) (.tmp 4) ?_); refine wpList_store_row (by rfl) 24 (.tmp 2) (.tmp 4) (by rfl) (w.heap.size) ((mkI n).cells.toArray) (by rfl) (by rfl) 24 (VI.zero.cells.toArray) (by exact R.out) (by kernel_rfl) (by rfl) (by exact VI.one _) ?_))
  exact bodyPost_ret (v := .agg ((mkI n).cells.toArray)) (results_cell_row Try.results19 _ _ (w.heap.size) 24 ((mkI n).cells.toArray) (0, 0) _ rfl (R.out.setRow _) Try.underlying24 rfl (by kernel_rfl)) rfl (⟨rfl, below_setRow B.out (by first | exact Nat.le_refl _ | exact Nat.le_succ _) _⟩)
set_option maxHeartbeats 8000000 in
set_option maxRecDepth 100000 in
theorem thing_any (n : Int) (w : World) : Calls Try.prog 18 #[.int .i64 n] w fun e w' => e = .returned (thI n).a ∧ Below w.heap.size w w' := by
  have R := hidB (show Bk (w.alloc (.cells (#[.int .u8 0, .float .f64 0, .string ⟨#[]⟩, .int .i64 0]) 24)) (w.heap.size) 24 (VI.zero.cells.toArray) from Bk.new w _ _)
  have B := hidB (show Below w.heap.size w (w.alloc (.cells (#[.int .u8 0, .float .f64 0, .string ⟨#[]⟩, .int .i64 0]) 24)) from box_one w _)
  go_enter Try.func18, Try.ntmps18
  go_upto_region 1 with fail
  generalize hW : (w.alloc (.cells (#[.int .u8 0, .float .f64 0, .string ⟨#[]⟩, .int .i64 0]) 24)) = w1 at *
  clear hW
  go_wp2_with (first | ((with_reducible refine wpId ?_); refine wpList_build_to (by rfl) 24 _ (by rfl) ((thI n).cells.toArray) (by kernel_rfl) ?_) | ((with_reducible refine stId 24 (.tmp 2) (.tmp 4) ?_); refine wpList_store_row (by rfl) 24 (.tmp 2) (.tmp 4) (by rfl) (w.heap.size) ((thI n).cells.toArray) (by rfl) (by rfl) 24 (VI.zero.cells.toArray) (by exact R.out) (by kernel_rfl) (by rfl) (by exact VI.one _) ?_))
  exact bodyPost_ret (v := .agg ((thI n).cells.toArray)) (results_cell_row Try.results18 _ _ (w.heap.size) 24 ((thI n).cells.toArray) (0, 0) _ rfl (R.out.setRow _) Try.underlying24 rfl (by kernel_rfl)) rfl (⟨rfl, below_setRow B.out (by first | exact Nat.le_refl _ | exact Nat.le_succ _) _⟩)
set_option maxHeartbeats 8000000 in
set_option maxRecDepth 100000 in
theorem given_any (v : VI) (w : World) : Calls Try.prog 16 #[v.a] w fun e w' => e = .returned (doneI v).a ∧ Below w.heap.size w w' := by
  have X := hidB (show Bk ((w.alloc (.cells (v.cells.toArray) 24)).alloc (.cells (#[.int .u8 0, .int .u8 0, .float .f64 0, .string ⟨#[]⟩, .int .i64 0, .bool false, .bool false, .int .u8 0, .int .u8 0, .float .f64 0, .string ⟨#[]⟩, .int .i64 0, .int .u8 0, .float .f64 0, .string ⟨#[]⟩, .int .i64 0, .int .u8 0, .float .f64 0, .string ⟨#[]⟩, .int .i64 0, .bool false, .bool false, .bool false, .slice none 0 0, .int .u8 0, .string ⟨#[]⟩]) 36)) (w.heap.size) 24 (v.cells.toArray) from (Bk.new w _ _).alloc _)
  have R := hidB (show Bk ((w.alloc (.cells (v.cells.toArray) 24)).alloc (.cells (#[.int .u8 0, .int .u8 0, .float .f64 0, .string ⟨#[]⟩, .int .i64 0, .bool false, .bool false, .int .u8 0, .int .u8 0, .float .f64 0, .string ⟨#[]⟩, .int .i64 0, .int .u8 0, .float .f64 0, .string ⟨#[]⟩, .int .i64 0, .int .u8 0, .float .f64 0, .string ⟨#[]⟩, .int .i64 0, .bool false, .bool false, .bool false, .slice none 0 0, .int .u8 0, .string ⟨#[]⟩]) 36)) (w.heap.size + 1) 36 (OI.zero.cs) from Bk.new2 w _ _ _)
  have B := hidB (show Below w.heap.size w ((w.alloc (.cells (v.cells.toArray) 24)).alloc (.cells (#[.int .u8 0, .int .u8 0, .float .f64 0, .string ⟨#[]⟩, .int .i64 0, .bool false, .bool false, .int .u8 0, .int .u8 0, .float .f64 0, .string ⟨#[]⟩, .int .i64 0, .int .u8 0, .float .f64 0, .string ⟨#[]⟩, .int .i64 0, .int .u8 0, .float .f64 0, .string ⟨#[]⟩, .int .i64 0, .bool false, .bool false, .bool false, .slice none 0 0, .int .u8 0, .string ⟨#[]⟩]) 36)) from (box_one w _).alloc (by simp) _)
  go_enter Try.func16, Try.ntmps16
  go_upto_region 1 with fail
  generalize hW : ((w.alloc (.cells (v.cells.toArray) 24)).alloc (.cells (#[.int .u8 0, .int .u8 0, .float .f64 0, .string ⟨#[]⟩, .int .i64 0, .bool false, .bool false, .int .u8 0, .int .u8 0, .float .f64 0, .string ⟨#[]⟩, .int .i64 0, .int .u8 0, .float .f64 0, .string ⟨#[]⟩, .int .i64 0, .int .u8 0, .float .f64 0, .string ⟨#[]⟩, .int .i64 0, .bool false, .bool false, .bool false, .slice none 0 0, .int .u8 0, .string ⟨#[]⟩]) 36)) = w1 at *
  clear hW
  go_wp2_with (first | ((with_reducible refine ldId 24 (.tmp 1) ?_); refine wpList_load_row (by rfl) 24 (.tmp 1) (by rfl) (w.heap.size) (by rfl) 24 (v.cells.toArray) (0, 0) _ (by exact X.out) Try.underlying24 (by rfl) (by kernel_rfl) ?_) | ((with_reducible refine wpId ?_); refine wpList_build_to (by rfl) 36 _ (by rfl) ((doneI v).cs) (by kernel_rfl) ?_) | ((with_reducible refine stId 36 (.tmp 2) (.tmp 4) ?_); refine wpList_store_row (by rfl) 36 (.tmp 2) (.tmp 4) (by rfl) (w.heap.size + 1) ((doneI v).cs) (by rfl) (by rfl) 36 (OI.zero.cs) (by exact R.out) (by kernel_rfl) (by rfl) (by exact OI.one _ rfl) ?_))
  exact bodyPost_ret (v := .agg ((doneI v).cs)) (results_cell_row Try.results16 _ _ (w.heap.size + 1) 36 ((doneI v).cs) (0, 0) _ rfl (R.out.setRow _) Try.underlying36 rfl (by kernel_rfl)) rfl (⟨rfl, below_setRow B.out (by first | exact Nat.le_refl _ | exact Nat.le_succ _) _⟩)
/-- One after another these may be given. -/
def Goes (xs : List OI) : Prop := ∀ k (h : k < xs.length), nextQ S20 xs[k] [] ((S20 (Lof (xs.take k))).q (Lof (xs.take k))) = some (Lof (xs.take (k + 1)))
/-- The head of the loop. -/
def BLoop (xs : List OI) (T g5 k : Nat) (w wr : World) : Prop := ∃ wt A, WantR (S20 (Lof (xs.take k))) (w.heap.size + 1) wt wr ∧ Bk wr g5 45 wt.cs ∧ wt.cs.all (·.oneCell') = true ∧ Bk wr w.heap.size 45 WI.zero.cs ∧ TaskW S20 T ((S20 (Lof (xs.take k))).q (Lof (xs.take k))) A wr ∧ ¬ A g5 ∧ (∀ j, A j → w.heap.size + 1 ≤ j) ∧ Below w.heap.size w wr ∧ w.heap.size < g5
theorem lof_length (l : List OI) : (Lof l).length = l.length := by unfold Lof; simp
theorem q_few (r : Res) (L : List (OI × List KI)) (h : L.length < 899) : (r.q L).few := by cases r <;> trivial
/-- One round. -/
theorem bloop_step {xs : List OI} {T g5 k : Nat} {w wr w2 : World} {wt wt2 : WI} {n : Int} {A : Nat → Prop} (hlt : k < xs.length) (hg : Goes xs) (h1 : Bk wr g5 45 wt.cs) (h3 : Bk wr w.heap.size 45 WI.zero.cs) (h5 : ¬ A g5) (h6 : ∀ j, A j → w.heap.size + 1 ≤ j) (h7 : Below w.heap.size w wr) (h8 : w.heap.size < g5) (hone : wt2.cs.all (·.oneCell') = true) (h : TNextC S20 T ((S20 (Lof (xs.take k))).q (Lof (xs.take k))) A xs[k] [] wr wt2 n w2) : n = 0 ∧ Bk w2 g5 45 wt.cs ∧ BLoop xs T g5 (k + 1) w (w2.setRow g5 wt2.cs) := by
  unfold TNextC at h
  rw [hg k hlt] at h
  obtain ⟨hn, mid, hm, hw, hk, hT⟩ := h
  have hl := h1.lt
  have hr := h3.lt
  refine ⟨hn, h1.kept hk h5, wt2, _, (hw.setRow (by omega) _).lower (by omega), (h1.kept hk h5).setRow _, hone, (h3.kept hk (fun h => by have := h6 _ h; omega)).setRow_far (by omega) _, hT.keep (by simp [World.setRow]) (fun j hj => heap_setRow w2 (by rintro rfl; rcases hj with h | h; exact h5 h; omega) _), ?_, ?_, ?_, h8⟩
  · intro hh
    rcases hh with h | h
    · exact h5 h
    · omega
  · intro j hj
    rcases hj with h | h
    · exact h6 j h
    · omega
  · exact below_setRow (h7.trans (hk.toBelow h7.size fun j hj => by have := h6 j hj; omega)) (by omega) _

set_option maxHeartbeats 8000000 in
set_option maxRecDepth 100000 in
theorem body20_any (xs : List OI) (v : Value) (w : World) (hr : RdL (fun x : OI => x.cs.toList) 26 xs v w) (hx : ∀ x ∈ xs, x.keys = vNil ∧ x.d.ok ∧ 0 ≤ x.v.k) (hgo : Goes xs) (hn : xs.length < 800) : Calls Try.prog 15 #[v] w fun e w' => ∃ wt : WI, e = .returned wt.a ∧ WantR (S20 (Lof xs)) (w.heap.size + 1) wt w' ∧ Below w.heap.size w w' := by
  have RA := hidB (fun W (hb : Below w.heap.size w W) => hr.on hb)
  obtain ⟨pa, c, rfl, h1, h2, _⟩ := hr
  unfold maxLen at h2
  have hlm : xs.length ≤ 9223372036854775807 := by omega
  have HX := hidB hx
  have HGO := hidB hgo
  have HN := hidB hn
  clear hx hgo hn
  have R := hidB (show Bk (w.alloc (.cells (Try.zeroCells45) 45)) (w.heap.size) 45 (WI.zero.cs) from Bk.new w _ _)
  have B := hidB (show Below w.heap.size w (w.alloc (.cells (Try.zeroCells45) 45)) from box_one w _)
  go_enter Try.func15, Try.ntmps15
  go_upto_region 1 with fail
  generalize hW : (w.alloc (.cells (Try.zeroCells45) 45)) = w1 at *
  clear hW
  go_wp2_with fail
  refine (maker_any 5 _).mono ?_; rintro e w2 ⟨rfl, hb⟩
  replace R := hidB (R.out.on hb)
  replace B := hidB (B.out.trans (hb.mono B.out.size))
  clear hb
  go_wp2_with fail
  refine (num_any 4607182418800017408 _).mono ?_; rintro e w3 ⟨rfl, hb⟩
  replace R := hidB (R.out.on hb)
  replace B := hidB (B.out.trans (hb.mono B.out.size))
  clear hb
  have XA := hidB (Bk.new w3 24 #[.int .u8 3, .float .f64 4607182418800017408, .string ⟨#[]⟩, .int .i64 0])
  go_wp2_with (first | ((with_reducible refine wpId ?_); refine wpList_mkSlice (by rfl) 25 24 1 4 _ (by rfl) [(0, val 3 4607182418800017408 ⟨#[]⟩ 0)] (by kernel_rfl) (.agg #[.int .u8 0, .float .f64 0, .string ⟨#[]⟩, .int .i64 0]) #[.int .u8 3, .float .f64 4607182418800017408, .string ⟨#[]⟩, .int .i64 0] Try.underlying25 (by kernel_rfl) (by decide) (by decide) (by kernel_rfl) ?_))
  refine (maker_any 6 _).mono ?_; rintro e w4 ⟨rfl, hb⟩
  replace R := hidB ((R.out.alloc (.cells #[.int .u8 3, .float .f64 4607182418800017408, .string ⟨#[]⟩, .int .i64 0] 24)).on hb)
  replace XA := hidB (XA.out.on hb)
  replace B := hidB ((B.out.trans ((box_one w3 (.cells #[.int .u8 3, .float .f64 4607182418800017408, .string ⟨#[]⟩, .int .i64 0] 24)).mono B.out.size)).trans (hb.mono (Nat.le_trans B.out.size (by simp))))
  clear hb
  go_wp2_with fail
  refine (thing_any 0 _).mono ?_; rintro e w5 ⟨rfl, hb⟩
  replace R := hidB (R.out.on hb)
  replace B := hidB (B.out.trans (hb.mono B.out.size))
  replace XA := hidB (XA.out.on hb)
  clear hb
  generalize hG3 : w3.heap.size = g3 at *
  clear hG3
  go_wp2_with fail
  have HS5 := hidB (show w.heap.size + 1 ≤ w5.heap.size from R.out.lt)
  refine (body_any (mkI 5) (mkI 6) (thI 0) [nuI 4607182418800017408] (by decide) (by decide) (by decide) (by intro v hv; simp only [List.mem_cons, List.not_mem_nil, or_false] at hv; subst hv; decide) (.slice (some ⟨g3, 0, none⟩) 1 1) w5 (rd_bk VI.cells_len (l := [nuI 4607182418800017408]) XA.out (by unfold maxLen; decide))).mono ?_; rintro e w6 (⟨h1, _⟩ | ⟨_, T, A, rfl, hT, hb, hA⟩)
  · exact absurd (by kernel_rfl) h1
  replace R := hidB (R.out.on hb)
  have HR6 := hidB R.out.lt
  have HT := hidB hT
  have HA := hidB (fun j hj => (Nat.le_trans (show w.heap.size + 1 ≤ w5.heap.size by have := B.out.size; exact HS5.out) (hA j hj) : w.heap.size + 1 ≤ j))
  replace B := hidB (B.out.trans (hb.mono B.out.size))
  clear hb hT hA XA
  go_upto_region 4 with fail
  go_wp2_with (first | ((with_reducible refine wpId ?_); refine wpList_build_to (by rfl) 36 _ (by rfl) (OI.zero.cs) (by kernel_rfl) ?_))
  refine (task_next S20 T .fresh A OI.zero [] w6 HT.out trivial ⟨by decide, by decide, by decide⟩ (by decide) (RdL.nil _ _ _)).mono ?_; rintro e w7 ⟨wt, n, rfl, hone, hnx⟩
  obtain ⟨rfl, mid, hm, hw, hk, hT7⟩ : n = 0 ∧ ∃ mid, w6.heap.size ≤ mid ∧ WantR (S20 []) mid wt w7 ∧ Kept A w6 w7 ∧ TaskW S20 T ((S20 []).q []) (fun k => A k ∨ (w6.heap.size ≤ k ∧ k < mid)) w7 := hnx
  have HONE := hidB hone
  have HM := hidB hm
  have HW := hidB hw
  have HT7 := hidB hT7
  have HKS := hidB hk.size
  replace B := hidB (B.out.trans (hk.toBelow B.out.size (fun j hj => by have := HA.out j hj; omega)))
  replace R := hidB (R.out.kept hk (fun h => by have := HA.out _ h; omega))
  clear hone hm hw hk hT7 HT
  have R5 := hidB (show Bk (w7.alloc (.cells Try.zeroCells45 45)) w7.heap.size 45 WI.zero.cs from Bk.new w7 _ _)
  go_upto_region 5 with (first | ((with_reducible refine stId 45 (.tmp 5) (.tmp 24) ?_); refine wpList_store_row (by rfl) 45 (.tmp 5) (.tmp 24) (by rfl) (w7.heap.size) (wt.cs) (by rfl) (by rfl) 45 (WI.zero.cs) (by exact R5.out) (by kernel_rfl) (by rfl) (by exact HONE.out) ?_))
  have HLOOP := hidB (show BLoop xs T w7.heap.size 0 w ((w7.alloc (.cells Try.zeroCells45 45)).setRow w7.heap.size wt.cs) from ⟨wt, _, (HW.out.keep (fun k hk => (heap_setRow _ (Nat.ne_of_lt hk) _).trans (Below.heap_alloc w7 _ k hk))).lower (Nat.le_trans HR6.out HM.out), R5.out.setRow _, HONE.out, (R.out.alloc _).setRow_far (Nat.ne_of_gt R.out.lt) _, HT7.out.keep (by simp [World.setRow]) (fun k hk => (heap_setRow _ (Nat.ne_of_lt (HT7.out.lt k hk)) _).trans (Below.heap_alloc w7 _ k (HT7.out.lt k hk))), fun h => Nat.lt_irrefl _ (HT7.out.lt _ h), (fun j hj => by have h1 := HR6.out; rcases hj with h | h; exact HA.out j h; omega), below_setRow (B.out.alloc B.out.size _) B.out.size _, R.out.lt⟩)
  clear R5 HW HT7 HA HM HONE HKS HR6 R B
  generalize hW : ((w7.alloc (.cells Try.zeroCells45 45)).setRow w7.heap.size wt.cs) = w9 at *
  clear hW
  generalize hG : w7.heap.size = g5 at *
  clear hG
  go_wp2_with fail
  go_loopw [6, 7] (fun s6 s7 wr => ∃ k : Nat, k ≤ xs.length ∧ s6 = .int .i64 0 ∧ s7 = .int .i64 k ∧ BLoop xs T g5 k w wr) (fun _ i _ => xs.length - (intOf i).toNat)
  case atStart => exact ⟨0, by omega, rfl, rfl, HLOOP.out⟩
  case round =>
    obtain ⟨k, hk, rfl, rfl, wt, A, hw, hW5, hone, hR, hT, hg5, hA, hb, hlt5⟩ := hrel
    by_cases hlt : k < xs.length
    · have hx1 : (k : Int) < (xs.length : Int) := by omega
      have hx2 : (0 : Int) ≤ (k : Int) := by omega
      obtain ⟨hky, hd, hv0⟩ := HX.out xs[k] (List.getElem_mem hlt)
      have hRA := RA.out wr hb
      obtain ⟨_, _, e0, _, _, hcell⟩ := hRA
      obtain ⟨g, o, rfl, hg, hcell⟩ := hcell (by omega)
      skip
      injection e0 with e1 e2 e3
      subst e1
      have HR := hidB (hcell k hlt)
      have NX := hidB (task_next S20 T _ A xs[k] [] wr hT (q_few _ _ (by rw [lof_length, List.length_take]; have := HN.out; omega)) hd hv0 (by rw [hky]; exact RdL.nil _ _ _))
      have ST := hidB (fun w2 wt2 n hone2 h => bloop_step (T := T) (n := n) (wt2 := wt2) (w2 := w2) hlt HGO.out hW5 hR hg5 hA hb hlt5 hone2 h)
      clear hky hd hv0 hcell hg e2 e3 hw hW5 hone hR hT hg5 hA hb hlt5 RA HX HGO HLOOP
      generalize xs[k]'hlt = x0 at *
      go_wp2_with (first | ((with_reducible refine ldId 36 (.tmp 40) ?_); refine wpList_load_mid (by rfl) 36 (.tmp 40) (by rfl) g (o + k * 26) (by rfl) x0.cs.toList _ (by exact HR.out) Try.underlying36 (by rfl) (by kernel_rfl) ?_))
      refine NX.out.mono ?_; rintro e w2 ⟨wt2, n, rfl, hone2, hnx⟩
      obtain ⟨rfl, hW2, hLP⟩ := ST.out w2 wt2 n hone2 hnx
      have W2 := hidB hW2
      have HLP := hidB hLP
      have HO2 := hidB hone2
      clear hW2 hLP hone2 hnx NX ST HR
      go_wp2_with (first | ((with_reducible refine stId 45 (.tmp 5) (.tmp 43) ?_); refine wpList_store_row (by rfl) 45 (.tmp 5) (.tmp 43) (by rfl) (g5) (wt2.cs) (by rfl) (by rfl) 45 (wt.cs) (by exact W2.out) (by kernel_rfl) (by rfl) (by exact HO2.out) ?_))
      go_roundw
      case rel => exact ⟨k + 1, by omega, rfl, by go_num, HLP.out⟩
      case measure => simp [intOf]; omega
    · obtain rfl : k = xs.length := by omega
      have hx4 : ¬ ((xs.length : Int) < (xs.length : Int)) := by omega
      rw [List.take_length] at hw
      have W5 := hidB hW5
      have HO := hidB hone
      have R := hidB hR
      have HW := hidB hw
      have HB := hidB hb
      clear hw hW5 hone hR hT hg5 hA hb hlt5 RA HX HGO HLOOP hk
      go_wp2_with (first | ((with_reducible refine ldId 45 (.tmp 5) ?_); refine wpList_load_row (by rfl) 45 (.tmp 5) (by rfl) (g5) (by rfl) 45 (wt.cs) (0, 0) _ (by exact W5.out) Try.underlying45 (by rfl) (by kernel_rfl) ?_) | ((with_reducible refine stId 45 (.tmp 2) (.tmp 48) ?_); refine wpList_store_row (by rfl) 45 (.tmp 2) (.tmp 48) (by rfl) (w.heap.size) (wt.cs) (by rfl) (by rfl) 45 (WI.zero.cs) (by exact R.out) (by kernel_rfl) (by rfl) (by exact HO.out) ?_))
      exact bodyPost_ret (v := .agg (wt.cs)) (results_cell_row Try.results15 _ _ (w.heap.size) 45 (wt.cs) (0, 0) _ rfl (R.out.setRow _) Try.underlying45 rfl (by kernel_rfl)) rfl (⟨wt, rfl, HW.out.setRow (Nat.lt_succ_self _) _, below_setRow HB.out (Nat.le_refl _) _⟩)
def xsA : List OI := [doneI (nuI 4619567317775286272), doneI (thI 20), doneI .zero]
theorem goA0 : nextQ S20 (doneI (nuI 4619567317775286272)) [] ((S20 (Lof (xsA.take 0))).q (Lof (xsA.take 0))) = some (Lof (xsA.take 1)) := by kernel_rfl
theorem goA1 : nextQ S20 (doneI (thI 20)) [] ((S20 (Lof (xsA.take 1))).q (Lof (xsA.take 1))) = some (Lof (xsA.take 2)) := by kernel_rfl
theorem goA2 : nextQ S20 (doneI .zero) [] ((S20 (Lof (xsA.take 2))).q (Lof (xsA.take 2))) = some (Lof (xsA.take 3)) := by kernel_rfl
theorem goesA : Goes xsA := by
  intro k h
  have hk : k < 3 := h
  obtain rfl | rfl | rfl : k = 0 ∨ k = 1 ∨ k = 2 := by omega
  · exact goA0
  · exact goA1
  · exact goA2
theorem okA : ∀ x ∈ xsA, x.keys = vNil ∧ x.d.ok ∧ 0 ≤ x.v.k := by
  intro x hx
  simp only [xsA, List.mem_cons, List.not_mem_nil, or_false] at hx
  rcases hx with rfl | rfl | rfl <;> exact ⟨rfl, ⟨by decide, by decide, by decide⟩, by decide⟩
theorem s20A : S20 (Lof xsA) = .out (doneI (thI 20)) [] := rfl
def cellsA : Array Value := (xsA.flatMap fun x => x.cs.toList).toArray
/-- The want of which the law asks. -/
abbrev endA (kv : Value) : WI := endW ((doneI (thI 20)).put kv)

set_option maxHeartbeats 8000000 in
set_option maxRecDepth 100000 in
theorem alive_any (w : World) : Calls Try.prog 7 #[] w fun e w' => e = .returned (.bool true) ∧ Below w.heap.size w w' := by
  go_enter Try.func7, Try.ntmps7
  have B := hidB (Below.refl w.heap.size w)
  go_wp2_with fail
  refine (num_any 4619567317775286272 _).mono ?_; rintro e w1 ⟨rfl, hb⟩
  replace B := hidB (B.out.trans (hb.mono B.out.size))
  clear hb
  go_wp2_with fail
  refine (given_any (nuI 4619567317775286272) _).mono ?_; rintro e w2 ⟨rfl, hb⟩
  replace B := hidB (B.out.trans (hb.mono B.out.size))
  clear hb
  go_wp2_with fail
  refine (thing_any 20 _).mono ?_; rintro e w3 ⟨rfl, hb⟩
  replace B := hidB (B.out.trans (hb.mono B.out.size))
  clear hb
  go_wp2_with fail
  refine (given_any (thI 20) _).mono ?_; rintro e w4 ⟨rfl, hb⟩
  replace B := hidB (B.out.trans (hb.mono B.out.size))
  clear hb
  go_wp2_with (first | ((with_reducible refine wpId ?_); refine wpList_build_to (by rfl) 24 _ (by rfl) (VI.zero.cells.toArray) (by kernel_rfl) ?_))
  refine (given_any VI.zero _).mono ?_; rintro e w5 ⟨rfl, hb⟩
  replace B := hidB (B.out.trans (hb.mono B.out.size))
  clear hb
  have XA := hidB (Bk.new w5 36 cellsA)
  replace B := hidB (show Below w.heap.size w (w5.alloc (.cells cellsA 36)) from B.out.trans ((box_one w5 _).mono B.out.size))
  have BY := hidB (body20_any xsA (.slice (some ⟨w5.heap.size, 0, none⟩) 3 3) (w5.alloc (.cells cellsA 36)) (rd_bk OI.cells_len XA.out (by show 3 ≤ maxLen; unfold maxLen; decide)) okA goesA (by decide))
  go_wp2_with (first | ((with_reducible refine wpId ?_); refine wpList_mkSlice (by rfl) 26 36 3 26 _ (by rfl) [(0, (doneI (nuI 4619567317775286272)).a), (1, (doneI (thI 20)).a), (2, (doneI VI.zero).a)] (by kernel_rfl) (.agg OI.zero.cs) cellsA Try.underlying26 (by kernel_rfl) (by decide) (by decide) (by kernel_rfl) ?_))
  refine BY.out.mono ?_; rintro e w7 ⟨wt, rfl, hw, hb⟩
  rw [s20A] at hw
  obtain ⟨_, _, kv, rfl, hown⟩ := hw
  have HO := hidB (own_one hown)
  replace B := hidB (B.out.trans (hb.mono B.out.size))
  clear hown hb BY XA
  have R := hidB (show Bk (w7.alloc (.cells Try.zeroCells45 45)) w7.heap.size 45 WI.zero.cs from Bk.new w7 _ _)
  have B8 := hidB (show Below w.heap.size w (w7.alloc (.cells Try.zeroCells45 45)) from B.out.trans ((box_one w7 _).mono B.out.size))
  go_upto_region 2 with (first | ((with_reducible refine stId 45 (.tmp 1) (.tmp 9) ?_); refine wpList_store_row (by rfl) 45 (.tmp 1) (.tmp 9) (by rfl) (w7.heap.size) ((endA kv).cs) (by rfl) (by rfl) 45 (WI.zero.cs) (by exact R.out) (by kernel_rfl) (by rfl) (by exact WI.one _ rfl rfl rfl HO.out) ?_))
  have R9 := hidB (show Bk ((w7.alloc (.cells Try.zeroCells45 45)).setRow w7.heap.size (endA kv).cs) w7.heap.size 45 (endA kv).cs from R.out.setRow _)
  have B9 := hidB (show Below w.heap.size w ((w7.alloc (.cells Try.zeroCells45 45)).setRow w7.heap.size (endA kv).cs) from below_setRow B8.out B.out.size _)
  clear R B8 B
  generalize hW : ((w7.alloc (.cells Try.zeroCells45 45)).setRow w7.heap.size (endA kv).cs) = w9 at *
  clear hW
  generalize hG : w7.heap.size = g1 at *
  clear hG
  have z1 : Try.prog.eqGuardType Try.prog.depth 24 = false := by kernel_rfl
  have V1 : ∀ W : World, (Op.equalIn 10000 24 (thI 20).a (thI 20).a).run Try.prog W = .ok true W := fun W => (equal_val 9998 6 6 0 0 ⟨#[]⟩ ⟨#[]⟩ 20 20 W).trans (by kernel_rfl)
  refine wp_region_noPanic ?_
  refine wp_region_held_drew (S := fun W => Bk W g1 45 (endA kv).cs) (by kernel_rfl) ?_ (fun hHeld => ?_)
  · exact R9.out.drew
  replace B9 := hidB (show Below w.heap.size w w9.drew from B9.out.drew)
  generalize hWd : w9.drew = wd at *
  clear hWd
  first | (refine wpAnyH_take (i := 0) (v := undef) (by simp only [List.getElem?_toArray, List.getElem?_cons_zero]; exact rfl) (by kernel_rfl) (by kernel_rfl) (by kernel_rfl) (fun _ _ _ h => h) (Or.inr ⟨?_, rfl⟩) (by assumption) ?_; (rfl); try simp only [Act.put, List.setIfInBounds_toArray, List.set_cons_zero, List.set_cons_succ]) | (refine wpAnyH_take (i := 0) (v := ?_) (by simp only [List.getElem?_toArray, List.getElem?_cons_zero]; exact rfl) (by kernel_rfl) (by kernel_rfl) (by kernel_rfl) (fun _ _ _ h => h) (Or.inl ⟨?_, ?_⟩) (by assumption) ?_; rotate_left; (rfl); (focus (intro w hSw; (try dsimp only at hSw); go_simp; try with_reducible rfl)); try simp only [Act.put, List.setIfInBounds_toArray, List.set_cons_zero, List.set_cons_succ])
  first | (refine wpAnyH_take (i := 1) (v := undef) (by simp only [List.getElem?_toArray, List.getElem?_cons_succ, List.getElem?_cons_zero]; exact rfl) (by kernel_rfl) (by kernel_rfl) (by kernel_rfl) (fun _ _ _ h => h) (Or.inr ⟨?_, rfl⟩) (by assumption) ?_; (rfl); try simp only [Act.put, List.setIfInBounds_toArray, List.set_cons_zero, List.set_cons_succ]) | (refine wpAnyH_take (i := 1) (v := ?_) (by simp only [List.getElem?_toArray, List.getElem?_cons_succ, List.getElem?_cons_zero]; exact rfl) (by kernel_rfl) (by kernel_rfl) (by kernel_rfl) (fun _ _ _ h => h) (Or.inl ⟨?_, ?_⟩) (by assumption) ?_; rotate_left; (rfl); (focus (intro W hSw; have hc0 := (show W.cell? ⟨g1, 0, none⟩ = some (.int .u8 7) from hSw.cell 0); clear hSw; go_simp; try with_reducible rfl)); try simp only [Act.put, List.setIfInBounds_toArray, List.set_cons_zero, List.set_cons_succ])
  first | (refine wpAnyH_take (i := 2) (v := undef) (by simp only [List.getElem?_toArray, List.getElem?_cons_succ, List.getElem?_cons_zero]; exact rfl) (by kernel_rfl) (by kernel_rfl) (by kernel_rfl) (fun _ _ _ h => h) (Or.inr ⟨?_, rfl⟩) (by assumption) ?_; (rfl); try simp only [Act.put, List.setIfInBounds_toArray, List.set_cons_zero, List.set_cons_succ]) | (refine wpAnyH_take (i := 2) (v := ?_) (by simp only [List.getElem?_toArray, List.getElem?_cons_succ, List.getElem?_cons_zero]; exact rfl) (by kernel_rfl) (by kernel_rfl) (by kernel_rfl) (fun _ _ _ h => h) (Or.inl ⟨?_, ?_⟩) (by assumption) ?_; rotate_left; (rfl); (focus (intro w hSw; (try dsimp only at hSw); go_simp; try with_reducible rfl)); try simp only [Act.put, List.setIfInBounds_toArray, List.set_cons_zero, List.set_cons_succ])
  first | (refine wpAnyH_take (i := 3) (v := undef) (by simp only [List.getElem?_toArray, List.getElem?_cons_succ, List.getElem?_cons_zero]; exact rfl) (by kernel_rfl) (by kernel_rfl) (by kernel_rfl) (fun _ _ _ h => h) (Or.inr ⟨?_, rfl⟩) (by assumption) ?_; (rfl); try simp only [Act.put, List.setIfInBounds_toArray, List.set_cons_zero, List.set_cons_succ]) | (refine wpAnyH_take (i := 3) (v := ?_) (by simp only [List.getElem?_toArray, List.getElem?_cons_succ, List.getElem?_cons_zero]; exact rfl) (by kernel_rfl) (by kernel_rfl) (by kernel_rfl) (fun _ _ _ h => h) (Or.inl ⟨?_, ?_⟩) (by assumption) ?_; rotate_left; (rfl); (focus (intro w hSw; (try dsimp only at hSw); go_simp; try with_reducible rfl)); try simp only [Act.put, List.setIfInBounds_toArray, List.set_cons_zero, List.set_cons_succ])
  first | (refine wpAnyH_take (i := 4) (v := undef) (by simp only [List.getElem?_toArray, List.getElem?_cons_succ, List.getElem?_cons_zero]; exact rfl) (by kernel_rfl) (by kernel_rfl) (by kernel_rfl) (fun _ _ _ h => h) (Or.inr ⟨?_, rfl⟩) (by assumption) ?_; (rfl); try simp only [Act.put, List.setIfInBounds_toArray, List.set_cons_zero, List.set_cons_succ]) | (refine wpAnyH_take (i := 4) (v := ?_) (by simp only [List.getElem?_toArray, List.getElem?_cons_succ, List.getElem?_cons_zero]; exact rfl) (by kernel_rfl) (by kernel_rfl) (by kernel_rfl) (fun _ _ _ h => h) (Or.inl ⟨?_, ?_⟩) (by assumption) ?_; rotate_left; (rfl); (focus (intro w hSw; (try dsimp only at hSw); go_simp; try with_reducible rfl)); try simp only [Act.put, List.setIfInBounds_toArray, List.set_cons_zero, List.set_cons_succ])
  first | (refine wpAnyH_take (i := 5) (v := undef) (by simp only [List.getElem?_toArray, List.getElem?_cons_succ, List.getElem?_cons_zero]; exact rfl) (by kernel_rfl) (by kernel_rfl) (by kernel_rfl) (fun _ _ _ h => h) (Or.inr ⟨?_, rfl⟩) (by assumption) ?_; (rfl); try simp only [Act.put, List.setIfInBounds_toArray, List.set_cons_zero, List.set_cons_succ]) | (refine wpAnyH_take (i := 5) (v := ?_) (by simp only [List.getElem?_toArray, List.getElem?_cons_succ, List.getElem?_cons_zero]; exact rfl) (by kernel_rfl) (by kernel_rfl) (by kernel_rfl) (fun _ _ _ h => h) (Or.inl ⟨?_, ?_⟩) (by assumption) ?_; rotate_left; (rfl); (focus (intro w hSw; (try dsimp only at hSw); go_simp; try with_reducible rfl)); try simp only [Act.put, List.setIfInBounds_toArray, List.set_cons_zero, List.set_cons_succ])
  first | (refine wpAnyH_take (i := 6) (v := undef) (by simp only [List.getElem?_toArray, List.getElem?_cons_succ, List.getElem?_cons_zero]; exact rfl) (by kernel_rfl) (by kernel_rfl) (by kernel_rfl) (fun _ _ _ h => h) (Or.inr ⟨?_, rfl⟩) (by assumption) ?_; (rfl); try simp only [Act.put, List.setIfInBounds_toArray, List.set_cons_zero, List.set_cons_succ]) | (refine wpAnyH_take (i := 6) (v := ?_) (by simp only [List.getElem?_toArray, List.getElem?_cons_succ, List.getElem?_cons_zero]; exact rfl) (by kernel_rfl) (by kernel_rfl) (by kernel_rfl) (fun _ _ _ h => h) (Or.inl ⟨?_, ?_⟩) (by assumption) ?_; rotate_left; (rfl); (focus (intro W hSw; have hc0 := (show W.cell? ⟨g1, 61, none⟩ = some (.int .u8 1) from hSw.cell 61); clear hSw; go_simp; try with_reducible rfl)); try simp only [Act.put, List.setIfInBounds_toArray, List.set_cons_zero, List.set_cons_succ])
  first | (refine wpAnyH_take (i := 7) (v := undef) (by simp only [List.getElem?_toArray, List.getElem?_cons_succ, List.getElem?_cons_zero]; exact rfl) (by kernel_rfl) (by kernel_rfl) (by kernel_rfl) (fun _ _ _ h => h) (Or.inr ⟨?_, rfl⟩) (by assumption) ?_; (rfl); try simp only [Act.put, List.setIfInBounds_toArray, List.set_cons_zero, List.set_cons_succ]) | (refine wpAnyH_take (i := 7) (v := ?_) (by simp only [List.getElem?_toArray, List.getElem?_cons_succ, List.getElem?_cons_zero]; exact rfl) (by kernel_rfl) (by kernel_rfl) (by kernel_rfl) (fun _ _ _ h => h) (Or.inl ⟨?_, ?_⟩) (by assumption) ?_; rotate_left; (rfl); (focus (intro w hSw; (try dsimp only at hSw); go_simp; try with_reducible rfl)); try simp only [Act.put, List.setIfInBounds_toArray, List.set_cons_zero, List.set_cons_succ])
  first | (refine wpAnyH_take (i := 8) (v := undef) (by simp only [List.getElem?_toArray, List.getElem?_cons_succ, List.getElem?_cons_zero]; exact rfl) (by kernel_rfl) (by kernel_rfl) (by kernel_rfl) (fun _ _ _ h => h) (Or.inr ⟨?_, rfl⟩) (by assumption) ?_; (rfl); try simp only [Act.put, List.setIfInBounds_toArray, List.set_cons_zero, List.set_cons_succ]) | (refine wpAnyH_take (i := 8) (v := ?_) (by simp only [List.getElem?_toArray, List.getElem?_cons_succ, List.getElem?_cons_zero]; exact rfl) (by kernel_rfl) (by kernel_rfl) (by kernel_rfl) (fun _ _ _ h => h) (Or.inl ⟨?_, ?_⟩) (by assumption) ?_; rotate_left; (rfl); (focus (intro w hSw; (try dsimp only at hSw); go_simp; try with_reducible rfl)); try simp only [Act.put, List.setIfInBounds_toArray, List.set_cons_zero, List.set_cons_succ])
  first | (refine wpAnyH_take (i := 9) (v := undef) (by simp only [List.getElem?_toArray, List.getElem?_cons_succ, List.getElem?_cons_zero]; exact rfl) (by kernel_rfl) (by kernel_rfl) (by kernel_rfl) (fun _ _ _ h => h) (Or.inr ⟨?_, rfl⟩) (by assumption) ?_; (rfl); try simp only [Act.put, List.setIfInBounds_toArray, List.set_cons_zero, List.set_cons_succ]) | (refine wpAnyH_take (i := 9) (v := ?_) (by simp only [List.getElem?_toArray, List.getElem?_cons_succ, List.getElem?_cons_zero]; exact rfl) (by kernel_rfl) (by kernel_rfl) (by kernel_rfl) (fun _ _ _ h => h) (Or.inl ⟨?_, ?_⟩) (by assumption) ?_; rotate_left; (rfl); (focus (intro w hSw; (try dsimp only at hSw); go_simp; try with_reducible rfl)); try simp only [Act.put, List.setIfInBounds_toArray, List.set_cons_zero, List.set_cons_succ])
  first | (refine wpAnyH_take (i := 10) (v := undef) (by simp only [List.getElem?_toArray, List.getElem?_cons_succ, List.getElem?_cons_zero]; exact rfl) (by kernel_rfl) (by kernel_rfl) (by kernel_rfl) (fun _ _ _ h => h) (Or.inr ⟨?_, rfl⟩) (by assumption) ?_; (rfl); try simp only [Act.put, List.setIfInBounds_toArray, List.set_cons_zero, List.set_cons_succ]) | (refine wpAnyH_take (i := 10) (v := ?_) (by simp only [List.getElem?_toArray, List.getElem?_cons_succ, List.getElem?_cons_zero]; exact rfl) (by kernel_rfl) (by kernel_rfl) (by kernel_rfl) (fun _ _ _ h => h) (Or.inl ⟨?_, ?_⟩) (by assumption) ?_; rotate_left; (rfl); (focus (intro w hSw; (try dsimp only at hSw); go_simp; try with_reducible rfl)); try simp only [Act.put, List.setIfInBounds_toArray, List.set_cons_zero, List.set_cons_succ])
  first | (refine wpAnyH_take (i := 11) (v := undef) (by simp only [List.getElem?_toArray, List.getElem?_cons_succ, List.getElem?_cons_zero]; exact rfl) (by kernel_rfl) (by kernel_rfl) (by kernel_rfl) (fun _ _ _ h => h) (Or.inr ⟨?_, rfl⟩) (by assumption) ?_; (rfl); try simp only [Act.put, List.setIfInBounds_toArray, List.set_cons_zero, List.set_cons_succ]) | (refine wpAnyH_take (i := 11) (v := ?_) (by simp only [List.getElem?_toArray, List.getElem?_cons_succ, List.getElem?_cons_zero]; exact rfl) (by kernel_rfl) (by kernel_rfl) (by kernel_rfl) (fun _ _ _ h => h) (Or.inl ⟨?_, ?_⟩) (by assumption) ?_; rotate_left; (rfl); (focus (intro w hSw; (try dsimp only at hSw); go_simp; try with_reducible rfl)); try simp only [Act.put, List.setIfInBounds_toArray, List.set_cons_zero, List.set_cons_succ])
  (refine wpAnyH_take (i := 12) (v := (thI 20).a) (by simp only [List.getElem?_toArray, List.getElem?_cons_succ, List.getElem?_cons_zero]; exact rfl) (by kernel_rfl) (by kernel_rfl) (by kernel_rfl) (fun _ _ _ h => h) (yieldsIf_load_mid (by rfl) 24 (.tmp 21) (by rfl) (g1) (62) (by rfl) ((thI 20).cells) _ (fun W hS => Bk.mid hS 62 _ rfl) Try.underlying24 (by rfl) (by kernel_rfl)) (by assumption) ?_; try simp only [Act.put, List.setIfInBounds_toArray, List.set_cons_zero, List.set_cons_succ])
  refine wpAnyH_ready (rs := [13]) (by kernel_rfl) (by simp) ?_
  refine AllReadyH.cons rfl (fun K hK => ?_) AllReadyH.nil
  go_simp
  refine (thing_any 20 _).mono ?_; rintro e w10 ⟨rfl, hb⟩
  replace B9 := hidB (B9.out.trans (hb.mono B9.out.size))
  replace hHeld := hHeld.on hb
  clear hb
  refine hK.out _ _ hHeld (fun _ => ?_)
  clear hK K
  try simp only [Act.put, List.setIfInBounds_toArray, List.set_cons_zero, List.set_cons_succ]
  first | (refine wpAnyH_take (i := 14) (v := undef) (by simp only [List.getElem?_toArray, List.getElem?_cons_succ, List.getElem?_cons_zero]; exact rfl) (by kernel_rfl) (by kernel_rfl) (by kernel_rfl) (fun _ _ _ h => h) (Or.inr ⟨?_, rfl⟩) (by assumption) ?_; (rfl); try simp only [Act.put, List.setIfInBounds_toArray, List.set_cons_zero, List.set_cons_succ]) | (refine wpAnyH_take (i := 14) (v := ?_) (by simp only [List.getElem?_toArray, List.getElem?_cons_succ, List.getElem?_cons_zero]; exact rfl) (by kernel_rfl) (by kernel_rfl) (by kernel_rfl) (fun _ _ _ h => h) (Or.inl ⟨?_, ?_⟩) (by assumption) ?_; rotate_left; (rfl); (focus (intro w hSw; (try dsimp only at hSw); go_simp; try with_reducible rfl)); try simp only [Act.put, List.setIfInBounds_toArray, List.set_cons_zero, List.set_cons_succ])
  first | (refine wpAnyH_take (i := 15) (v := undef) (by simp only [List.getElem?_toArray, List.getElem?_cons_succ, List.getElem?_cons_zero]; exact rfl) (by kernel_rfl) (by kernel_rfl) (by kernel_rfl) (fun _ _ _ h => h) (Or.inr ⟨?_, rfl⟩) (by assumption) ?_; (rfl); try simp only [Act.put, List.setIfInBounds_toArray, List.set_cons_zero, List.set_cons_succ]) | (refine wpAnyH_take (i := 15) (v := ?_) (by simp only [List.getElem?_toArray, List.getElem?_cons_succ, List.getElem?_cons_zero]; exact rfl) (by kernel_rfl) (by kernel_rfl) (by kernel_rfl) (fun _ _ _ h => h) (Or.inl ⟨?_, ?_⟩) (by assumption) ?_; rotate_left; (rfl); (focus (intro w hSw; (try dsimp only at hSw); go_simp; try with_reducible rfl)); try simp only [Act.put, List.setIfInBounds_toArray, List.set_cons_zero, List.set_cons_succ])
  first | (refine wpAnyH_take (i := 16) (v := undef) (by simp only [List.getElem?_toArray, List.getElem?_cons_succ, List.getElem?_cons_zero]; exact rfl) (by kernel_rfl) (by kernel_rfl) (by kernel_rfl) (fun _ _ _ h => h) (Or.inr ⟨?_, rfl⟩) (by assumption) ?_; (rfl); try simp only [Act.put, List.setIfInBounds_toArray, List.set_cons_zero, List.set_cons_succ]) | (refine wpAnyH_take (i := 16) (v := ?_) (by simp only [List.getElem?_toArray, List.getElem?_cons_succ, List.getElem?_cons_zero]; exact rfl) (by kernel_rfl) (by kernel_rfl) (by kernel_rfl) (fun _ _ _ h => h) (Or.inl ⟨?_, ?_⟩) (by assumption) ?_; rotate_left; (rfl); (focus (intro w hSw; (try dsimp only at hSw); go_simp; try with_reducible rfl)); try simp only [Act.put, List.setIfInBounds_toArray, List.set_cons_zero, List.set_cons_succ])
  refine wpAnyH_done (by kernel_rfl) ?_ _
  refine NoPanic.normal ?_
  go_wp2_with fail
  go_ret
  exact ⟨rfl, B9.out⟩

end Go.Proofs.Ytbkjbpefbdoenaa
