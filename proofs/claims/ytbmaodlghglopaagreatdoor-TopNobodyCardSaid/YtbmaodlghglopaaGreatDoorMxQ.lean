/-
  Does an object stand behind itself: the walk of heap.loops.
  May a heap be: heap.Check, whole.
-/
import Derived.Test.YtbmaodlghglopaaGreatDoorMxO
import Derived.Test.YtbmaodlghglopaaGreatDoorLoopP
import Derived.Deep.LoopGhost
namespace Go.Proofs.YtbmaodlghglopaaGreatDoor
open Go.RowKit

/-- Booleans in a block. -/
def cellsB (l : List Bool) : Array Value := (l.map Value.bool).toArray
theorem madeB (n : Nat) : madeCells (Value.cells (.bool false)) (n * 1) = cellsB (List.replicate n false) := by
  unfold cellsB
  rw [Nat.mul_one]
  apply Array.ext'
  simp [madeCells, Value.cells]
  apply List.ext_getElem
  · simp
  · intro i h1 h2
    simp [Nat.mod_one]
theorem infoB : (Tryz.prog.info? 4).map (fun i => (i.zero, i.size, i.bytes)) = some (some (.bool false), 1, 1) := by kernel_rfl
theorem under_bools : Tryz.prog.underlying 129 = some (.slice 4) := by kernel_rfl
theorem run_makeB (n : Nat) (hn : n ≤ 4096) (w : World) : (Instr.makeSlice 129 (.int .i64 (n : Int)) (.int .i64 (n : Int))).run Tryz.prog w = .ok (.slice (some ⟨w.heap.size, 0, none⟩) n n) (w.alloc (.cells (cellsB (List.replicate n false)) 4)) := by
  obtain ⟨i, hi, hz0, hz1, hz2⟩ := info_parts infoB
  have := run_make (P := Tryz.prog) (w := w) 129 4 i (.bool false) under_bools hi hz0 .i64 .i64 (n : Int) (n : Int) (by omega) (by omega) (by rw [hz2]; omega) (by omega)
  rw [this, Int.toNat_natCast, hz1, madeB]
theorem cellsB_set (l : List Bool) (k : Nat) : (cellsB l).setIfInBounds k (.bool true) = cellsB (l.set k true) := by
  unfold cellsB
  simp [List.map_set]
theorem cellsB_at {l : List Bool} {k : Nat} {b : Bool} (h : l[k]? = some b) : (cellsB l)[k]? = some (.bool b) := by
  unfold cellsB
  simp [h]
/-- What is known of a list of marks. -/
def DoneB (h : HI) (dl : List Bool) : Prop := dl.length = h.length ∧ ∀ j : Nat, dl[j]? = some true → ∃ d, EndN h j d
theorem DoneB.new (h : HI) : DoneB h (List.replicate h.length false) := by
  refine ⟨by simp, fun j hj => ?_⟩
  rw [List.getElem?_replicate] at hj
  split at hj <;> cases hj
theorem DoneB.set {h : HI} {dl : List Bool} {k : Nat} (hd : DoneB h dl) (hk : ∃ d, EndN h k d) : DoneB h (dl.set k true) := by
  refine ⟨by simp [hd.1], fun j hj => ?_⟩
  rw [List.getElem?_set] at hj
  split at hj
  · rename_i e; subst e; exact hk
  · exact hd.2 j hj
def WayB (h : HI) (i : Nat) (l : List Nat) : Prop := (∃ d, EndN h i d) ∧ ∀ x ∈ l, x < h.length ∧ ∃ d, EndN h x d
theorem wayB_of {h : HI} (hg : GoodN h) {i k x : Nat} (hi : i < h.length) (hx : itN h i k = some x) {K : Nat} (he : ∃ d, EndN h x d) : WayB h i (wayN h i K) := by
  obtain ⟨d, a⟩ := he
  have a0 := EndN.back hx a
  refine ⟨⟨_, a0⟩, fun y hy => ?_⟩
  obtain ⟨j, _, e⟩ := mem_wayN.1 hy
  obtain ⟨e1, a1, _⟩ := a0.step e
  exact ⟨itN_lt hg hi j y e, e1, a1⟩
theorem wayN_more {h : HI} {i k x : Nat} (hx : itN h i k = some x) : wayN h i (k + 1) = wayN h i k ++ [x] := by
  rw [show wayN h i (k + 1) = wayN h i k ++ (itN h i k).toList from rfl, hx]; rfl
theorem wayN_sz {h : HI} {i k x : Nat} (hx : itN h i k = some x) : ∀ j, j < k → (itN h i j).isSome := fun j hj => by
  obtain ⟨e, rfl⟩ : ∃ e, k = j + e := ⟨k - j, by omega⟩
  rw [itN_add] at hx
  cases hk : itN h i j with
  | none => rw [hk] at hx; cases hx
  | some y => rfl
theorem way_room {h : HI} (hg : GoodN h) {i k x : Nat} (hi : i < h.length) (hx : itN h i k = some x) (hn : (wayN h i k).Nodup) (hf : (wayN h i k).contains x = false) : k < h.length ∧ (wayN h i (k + 1)).Nodup := by
  have hf2 : x ∉ wayN h i k := by simpa using hf
  have h2 : (wayN h i (k + 1)).Nodup := by
    rw [wayN_more hx, List.nodup_append]
    refine ⟨hn, by simp, ?_⟩
    intro y hy z hz
    simp at hz
    subst hz
    rintro rfl
    exact hf2 hy
  refine ⟨?_, h2⟩
  have hl := nodup_le h.length _ h2 (fun y hy => by
    obtain ⟨j, _, e⟩ := mem_wayN.1 hy
    exact itN_lt hg hi j y e)
  rw [wayN_more hx, List.length_append, wayN_length (wayN_sz hx)] at hl
  simp at hl
  omega
theorem way_twice {h : HI} {i k x : Nat} (hx : itN h i k = some x) (hf : (wayN h i k).contains x = true) : ¬ ∃ d, EndN h i d := by
  obtain ⟨j, hj, e⟩ := mem_wayN.1 (by simpa using hf)
  exact noEnd hj e hx
theorem nx_null {h : HI} {x : Nat} (hx : x < h.length) (hk : ((h[x]'hx).1.pr.k == 1) = true) : ∃ d, EndN h x d := ⟨0, x, rfl, by rw [nx_at hx, hk]; rfl⟩
theorem nx_more {h : HI} {i k x : Nat} (hx : x < h.length) (e : itN h i k = some x) (hk : ((h[x]'hx).1.pr.k == 1) = false) : itN h i (k + 1) = some (h[x]'hx).1.pr.r.toNat := by
  rw [itN_succ, e]
  show nx h x = _
  rw [nx_at hx, hk]; rfl
theorem range_field {w : World} {g o : Nat} {cs : List Value} (h : w.rangeAt g o cs) (a b : Nat) : w.rangeAt g (o + a) ((cs.drop a).take b) := by
  intro j u hj
  rw [List.getElem?_take] at hj
  split at hj
  · rw [List.getElem?_drop] at hj
    have := h (a + j) u hj
    rwa [← Nat.add_assoc] at this
  · cases hj
/-- Where the outer loop stands; the way; the way back. -/
def LpO (h : HI) (w : World) (hv : Value) (n : Nat) (s : Value) (wr : World) : Prop := ∃ (i : Nat) (dl : List Bool), n = h.length - i ∧ i ≤ h.length ∧ s = .int .i64 i ∧ DoneB h dl ∧ (∀ j, j < i → ∃ d, EndN h j d) ∧ Bk wr w.heap.size 24 #[hv] ∧ Bk wr (w.heap.size + 1) 4 (cellsB dl) ∧ Below w.heap.size w wr
def LpW (h : HI) (w : World) (hv : Value) (dl : List Bool) (i b n : Nat) (s : Value) (wr : World) : Prop := ∃ (k x : Nat), n = h.length + 1 - k ∧ itN h i k = some x ∧ s = .int .i64 x ∧ (wayN h i k).Nodup ∧ MapS wr b (wayN h i k) ∧ Bk wr w.heap.size 24 #[hv] ∧ Bk wr (w.heap.size + 1) 4 (cellsB dl) ∧ Below w.heap.size w wr
def LpC (h : HI) (w : World) (hv : Value) (dl : List Bool) (i b : Nat) (s : Value) (wx : World) : Prop := ∃ l, s = .int .i64 i ∧ WayB h i l ∧ MapS wx b l ∧ Bk wx w.heap.size 24 #[hv] ∧ Bk wx (w.heap.size + 1) 4 (cellsB dl) ∧ Below w.heap.size w wx
def LpD (h : HI) (w : World) (hv : Value) (l : List Nat) (b r n : Nat) (wr : World) : Prop := ∃ (left : List Nat) (dl : List Bool), n = left.length ∧ (∀ x ∈ left, x ∈ l) ∧ RangeS wr b r l left ∧ DoneB h dl ∧ Bk wr w.heap.size 24 #[hv] ∧ Bk wr (w.heap.size + 1) 4 (cellsB dl) ∧ Below w.heap.size w wr
/-- Only one old block has turned, and it is the call's own. -/
theorem below_one {B : Nat} {w w1 w2 : World} (h : Below B w w1) {b : Nat} (hb : B ≤ b) (ho : w2.os = w1.os) (hp : w2.output = w1.output) (ht : w2.tape = w1.tape) (hs : w2.heap.size = w1.heap.size) (hx : ∀ g, g ≠ b → w2.heap[g]? = w1.heap[g]?) : Below B w w2 :=
  ⟨ho.trans h.os, ht.trans h.tape, hp.trans h.output, by rw [hs]; exact h.size, fun g hg => (hx g (by omega)).trans (h.block g hg)⟩
theorem Bk.sameB {w w1 : World} {g : Nat} {t : TypeId} {cs : Array Value} (h : Bk w g t cs) (e : w1.heap[g]? = w.heap[g]?) : Bk w1 g t cs := e.trans h

set_option maxHeartbeats 8000000 in
set_option maxRecDepth 100000 in
theorem loops_any (h : HI) (hg : GoodN h) (hr0 : ∀ i (hi : i < h.length), ((h[i]'hi).1.pr.k == 1) = false → 0 ≤ (h[i]'hi).1.pr.r) (hv : Value) (w : World) (hr : RdH h hv w) (hm : h.length ≤ 4096) : Calls Tryz.prog 49 #[.agg #[hv]] w fun e w' => e = .returned (.bool (lpB h)) ∧ Below w.heap.size w w' := by
  have HG := hidB hg
  have HR := hidB hr0
  obtain ⟨⟨pa, c, rfl, h1, h2, h3⟩, _⟩ := hr
  unfold maxLen at h2
  have hlm : h.length ≤ 9223372036854775807 := by omega
  have HC := hidB h3
  clear h3 hg hr0
  have Y := hidB (show Bk (w.alloc (.cells (#[(.slice pa h.length c)]) 24)) (w.heap.size) 24 (#[(.slice pa h.length c)]) from Bk.new w _ _)
  have B := hidB (show Below w.heap.size w (w.alloc (.cells (#[(.slice pa h.length c)]) 24)) from box_one w _)
  go_enter Tryz.func49, Tryz.ntmps49
  go_upto_region 1 with fail
  generalize hW : (w.alloc (.cells (#[(.slice pa h.length c)]) 24)) = w1 at *
  have hs1 : w1.heap.size = w.heap.size + 1 := by rw [← hW]; simp
  clear hW
  have y0 : w1.cell? ⟨w.heap.size, 0, none⟩ = some (.slice pa h.length c) := Y.out.cell 0
  have hmk := run_makeB h.length hm w1
  rw [hs1] at hmk
  have D := hidB (show Bk (w1.alloc (.cells (cellsB (List.replicate h.length false)) 4)) (w.heap.size + 1) 4 (cellsB (List.replicate h.length false)) from hs1 ▸ Bk.new w1 _ _)
  replace Y := hidB (show Bk (w1.alloc (.cells (cellsB (List.replicate h.length false)) 4)) w.heap.size 24 #[(.slice pa h.length c)] from Y.out.alloc _)
  replace B := hidB (show Below w.heap.size w (w1.alloc (.cells (cellsB (List.replicate h.length false)) 4)) from B.out.alloc B.out.size _)
  have y1 : (w1.alloc (.cells (cellsB (List.replicate h.length false)) 4)).cell? ⟨w.heap.size, 0, none⟩ = some (.slice pa h.length c) := Y.out.cell 0
  have DL := hidB (DoneB.new h)
  generalize List.replicate h.length false = dl0 at *
  clear hs1
  go_wp2_with fail
  clear hmk y0 y1
  generalize (w1.alloc (.cells (cellsB dl0) 4)) = w2 at *
  go_loopg [16] h.length (fun n s16 wr => LpO h w (.slice pa h.length c) n s16 wr)
  case atStart => exact ⟨0, dl0, rfl, Nat.zero_le _, rfl, DL.out, fun j hj => absurd hj (by omega), Y.out, D.out, B.out⟩
  case round =>
    obtain ⟨i, dl, rfl, hi, rfl, hdl, hen, hY, hD, hb⟩ := hrel
    skip
    replace Y := hidB hY
    replace D := hidB hD
    replace B := hidB hb
    have DL := hidB hdl
    have HE := hidB hen
    clear hY hD hb hdl hen
    have hx2 : (0 : Int) ≤ (i : Int) := by omega
    by_cases hlt : i < h.length
    rotate_left
    · obtain rfl : i = h.length := by omega
      have hx4 : ¬ ((h.length : Int) < (h.length : Int)) := by omega
      have HQ := hidB (show lpB h = false from (lpB_no HG.out).2 HE.out)
      go_wp2_with fail
      go_ret
      exact ⟨by rw [HQ.out]; rfl, B.out⟩
    have hx1 : (i : Int) < (h.length : Int) := by omega
    obtain ⟨g, o, rfl, hgl, hrow⟩ := HC.out (by omega)
    have HGL := hidB hgl
    have HROW := hidB hrow
    clear hgl hrow
    have hmm := @run_makeMap Tryz.prog
    have hbm := D.out.lt
    have M := hidB (MapS.new wr)
    replace Y := hidB (Y.out.alloc (.map #[] 0))
    replace D := hidB (D.out.alloc (.map #[] 0))
    replace B := hidB (show Below w.heap.size w (wr.alloc (.map #[] 0)) from B.out.alloc B.out.size _)
    go_upto_block 2 with fail
    clear hmm
    generalize wr.alloc (.map #[] 0) = wm at *
    generalize wr.heap.size = bm at *
    go_cut [6, 7, 16] from 16 to 51 (fun s6 s7 s16 wx => LpC h w (.slice (some ⟨g, o, none⟩) h.length c) dl i bm s16 wx)
    case first => as_aux_lemma =>
      go_wp2_with fail
      go_loopg [6] (h.length + 1) (fun n s6 wr => LpW h w (.slice (some ⟨g, o, none⟩) h.length c) dl i bm n s6 wr)
      case atStart => exact ⟨0, i, rfl, rfl, rfl, List.nodup_nil, M.out, Y.out, D.out, B.out⟩
      case round =>
        clear Y D B M
        obtain ⟨k, x, rfl, hk, rfl, hnd, hM, hY, hD, hb⟩ := hrel
        have Y := hidB hY
        have D := hidB hD
        have B := hidB hb
        have M := hidB hM
        have HN := hidB hnd
        have HK := hidB hk
        clear hY hD hb hM hnd hk
        have hx := itN_lt HG.out hlt k x HK.out
        have hxi : (x : Int) < (h.length : Int) := by omega
        have hx0 : (0 : Int) ≤ (x : Int) := by omega
        obtain ⟨bx, hbx⟩ : ∃ b, dl[x]? = some b := ⟨dl[x]'(by rw [DL.out.1]; exact hx), List.getElem?_eq_getElem _⟩
        have HBX := hidB hbx
        have d0 : wr.cell? ⟨w.heap.size + 1, x, none⟩ = some (.bool bx) := (D.out.cell x).trans (cellsB_at HBX.out)
        clear hbx
        cases bx
        rotate_left
        · go_wp2_with fail
          go_meet
          case rel => exact ⟨_, rfl, wayB_of HG.out hlt HK.out (DL.out.2 x HBX.out), M.out, Y.out, D.out, B.out⟩
        have hlk := run_lookupS x M.out
        cases hcx : (wayN h i k).contains x
        rotate_left
        · have HCX := hidB hcx
          rw [hcx] at hlk
          clear hcx
          have HQ := hidB (show lpB h = true from lpB_yes HG.out hlt (way_twice HK.out HCX.out))
          go_wp2_with fail
          go_ret
          exact ⟨by rw [HQ.out]; rfl, B.out⟩
        rw [hcx] at hlk
        have HCX := hidB hcx
        clear hcx
        obtain ⟨w5, hup, hM5, ho5, ht5, hp5, hs5, hx5⟩ := run_updateS x M.out HCX.out
        have M5 := hidB (wayN_more HK.out ▸ hM5)
        have Y5 := hidB (Y.out.sameB (hx5 _ (by omega)))
        have D5 := hidB (D.out.sameB (hx5 _ (by omega)))
        have B5 := hidB (below_one B.out (by omega : w.heap.size ≤ bm) ho5 hp5 ht5 hs5 hx5)
        have HRM := hidB (way_room HG.out hlt HK.out HN.out HCX.out)
        clear hM5 ho5 ht5 hp5 hs5 hx5 Y M B
        have HV0 := hidB (HR.out x hx)
        have HPR := hidB (range_field (rangeOn B5.out HGL.out (HROW.out x hx)) 1 4)
        have HNN := hidB (nx_null hx)
        have HNM := hidB (nx_more hx HK.out)
        generalize (h[x]'hx) = e0 at *
        have HP4 := hidB (show w5.rangeAt g (o + x * 18 + 1) e0.1.pr.cells from HPR.out)
        clear HPR
        have y0 : w5.cell? ⟨w.heap.size, 0, none⟩ = some (.slice (some ⟨g, o, none⟩) h.length c) := Y5.out.cell 0
        have PX := hidB (show Bk (w5.alloc (.cells e0.1.pr.cells.toArray 29)) w5.heap.size 29 e0.1.pr.cells.toArray from Bk.new w5 _ _)
        have M6 := hidB (show MapS (w5.alloc (.cells e0.1.pr.cells.toArray 29)) bm (wayN h i (k + 1)) from M5.out.on (box_one w5 _))
        have Y6 := hidB (show Bk (w5.alloc (.cells e0.1.pr.cells.toArray 29)) w.heap.size 24 #[(.slice (some ⟨g, o, none⟩) h.length c)] from Y5.out.alloc _)
        have D6 := hidB (show Bk (w5.alloc (.cells e0.1.pr.cells.toArray 29)) (w.heap.size + 1) 4 (cellsB dl) from D5.out.alloc _)
        have B6 := hidB (show Below w.heap.size w (w5.alloc (.cells e0.1.pr.cells.toArray 29)) from B5.out.alloc B5.out.size _)
        clear M5 Y5 D5 B5 D
        go_upto_region 12 with (first | ((with_reducible refine ldId 29 (.tmp 35) ?_); refine wpList_load_mid (by rfl) 29 (.tmp 35) (by rfl) g (o + x * 18 + 1) (by rfl) e0.1.pr.cells _ (by exact HP4.out) Tryz.underlying29 (by rfl) (by kernel_rfl) ?_) | ((with_reducible refine wpId ?_); refine wpList_store_new (by rfl) 29 (.tmp 7) (.tmp 36) (by rfl) e0.1.pr.cells.toArray 29 _ (by rfl) (by rfl) (by kernel_rfl) (by rfl) (by rfl) ?_))
        clear hlk hup d0 y0 HP4
        generalize (w5.alloc (.cells e0.1.pr.cells.toArray 29)) = w6 at *
        generalize w5.heap.size = gp at *
        have p0 : w6.cell? ⟨gp, 0, none⟩ = some (.int .u8 e0.1.pr.k) := PX.out.cell 0
        have p3 : w6.cell? ⟨gp, 3, none⟩ = some (.int .i64 e0.1.pr.r) := PX.out.cell 3
        cases hk1 : (e0.1.pr.k == 1)
        rotate_left
        · have HE1 := hidB (HNN.out hk1)
          go_wp2_with fail
          go_meet
          case rel => exact ⟨_, rfl, wayB_of HG.out hlt HK.out HE1.out, M6.out, Y6.out, D6.out, B6.out⟩
        have hrr := HV0.out hk1
        have HIT := hidB (HNM.out hk1)
        obtain ⟨y, hy⟩ : ∃ y : Nat, e0.1.pr.r = (y : Int) := ⟨e0.1.pr.r.toNat, by omega⟩
        rw [hy] at p3
        rw [hy, Int.toNat_natCast] at HIT
        clear hrr hy
        go_wp2_with fail
        go_roundg (h.length + 1 - (k + 1))
        case measure => have := HRM.out.1; omega
        case rel => exact ⟨k + 1, y, rfl, HIT.out, rfl, HRM.out.2, M6.out, Y6.out, D6.out, B6.out⟩
    case rest =>
      clear Y D B M
      obtain ⟨l, rfl, hW, hM, hY, hD, hb⟩ := hcut
      have WB := hidB hW
      have hbl := hM.lt
      obtain ⟨w5, hrun, hRG, hb5, hs5⟩ := run_rangeS hM
      have RG := hidB hRG
      have Y := hidB (hY.on hb5)
      have D := hidB (hD.on hb5)
      have B := hidB (hb.trans (hb5.mono hb.size))
      clear hW hY hD hb hb5 hs5 hRG hM
      have hrn : w.heap.size + 1 < wc.heap.size := by omega
      clear hbl
      go_wp2_with fail
      clear hrun
      generalize wc.heap.size = rn at *
      go_loopg [8] l.length (fun n s8 wr => LpD h w (.slice (some ⟨g, o, none⟩) h.length c) l bm rn n wr)
      case atStart => exact ⟨l, dl, rfl, fun _ hx => hx, RG.out, DL.out, Y.out, D.out, B.out⟩
      case round =>
        clear RG Y D B DL
        obtain ⟨left, dl', rfl, hin, hRG, hdl, hY, hD, hb⟩ := hrel
        have Y := hidB hY
        have D := hidB hD
        have B := hidB hb
        have DL := hidB hdl
        have HIN := hidB hin
        clear hY hD hb hdl hin
        skip
        go_wp2_with (refine wpList_nextS wr (by rfl) _ (by rfl) bm rn l left (by rfl) hRG ?_ ?_)
        · intro _
          clear hRG
          go_wp2_with fail
          go_roundg (h.length - (i + 1))
          case measure => omega
          case rel => exact ⟨i + 1, dl', rfl, by omega, by go_num, DL.out, fun j hj => (Nat.lt_succ_iff_lt_or_eq.1 hj).elim (fun a => HE.out j a) (fun a => a ▸ WB.out.1), Y.out, D.out, B.out⟩
        · intro k left' w6 hk1 hk2 hlen hcov hsub hRG6 ho6 ht6 hp6 hs6 hx6 hen
          have hnr := hRG6.lt
          have hkl := (WB.out.2 k hk2).1
          have HKE := hidB (WB.out.2 k hk2).2
          have HSUB := hidB (fun x hx => HIN.out x (hsub x hx))
          have HLEN := hidB hlen
          have Y6 := hidB (Y.out.sameB (hx6 _ (by omega)))
          have D6 := hidB (D.out.sameB (hx6 _ (by omega)))
          obtain ⟨bk, hbk⟩ : ∃ b, dl'[k]? = some b := ⟨dl'[k]'(by rw [DL.out.1]; exact hkl), List.getElem?_eq_getElem _⟩
          have d0 : w6.cell? ⟨w.heap.size + 1, k, none⟩ = some (.bool bk) := (D6.out.cell k).trans (cellsB_at hbk)
          have f0 := D6.out.free k
          have hki : (k : Int) < (h.length : Int) := by omega
          have hk0 : (0 : Int) ≤ (k : Int) := by omega
          have B6 := hidB (below_one B.out (by omega : w.heap.size ≤ rn) ho6 hp6 ht6 hs6 hx6)
          have D7 := hidB (show Bk (w6.setCell ⟨w.heap.size + 1, k, none⟩ (.bool true)) (w.heap.size + 1) 4 (cellsB (dl'.set k true)) from cellsB_set dl' k ▸ D6.out.set k (.bool true))
          have Y7 := hidB (show Bk (w6.setCell ⟨w.heap.size + 1, k, none⟩ (.bool true)) w.heap.size 24 #[(.slice (some ⟨g, o, none⟩) h.length c)] from Y6.out.far (by simp) _)
          have B7 := hidB (show Below w.heap.size w (w6.setCell ⟨w.heap.size + 1, k, none⟩ (.bool true)) from B6.out.setCell (by simp) _)
          have hfar : ∀ q, q ≠ w.heap.size + 1 → (w6.setCell ⟨w.heap.size + 1, k, none⟩ (.bool true)).heap[q]? = w6.heap[q]? := fun q hq => Below.heap_setCell w6 _ _ q hq
          have RG7 := hidB (hRG6.same (hfar _ (by omega)) (hfar _ (by omega)))
          clear hfar hnr hRG6 hcov hsub ho6 ht6 hp6 hs6 hx6 hRG Y D B D6 Y6 B6 hbk
          go_wp2_with fail
          go_roundg left'.length
          case measure => exact HLEN.out
          case rel => exact ⟨left', _, rfl, HSUB.out, RG7.out, DL.out.set HKE.out, Y7.out, D7.out, B7.out⟩

end Go.Proofs.YtbmaodlghglopaaGreatDoor

namespace Go.Proofs.YtbmaodlghglopaaGreatDoor
open Go.RowKit

theorem allO_at {h : HI} {k : Nat} (ha : allO h k = true) {i : Nat} (hi : i < h.length) (hk : i < k) : objB h i (h[i]'hi) = true := by
  have := List.all_eq_true.1 ha i (List.mem_range.2 hk)
  rw [List.getElem?_eq_getElem hi] at this
  exact this
theorem inB_ref {h : HI} {v : VI} (hi : inB h v = true) (ho : isObj v.k = true) : 0 ≤ v.r ∧ v.r < (h.length : Int) := by
  unfold inB at hi
  rw [Bool.and_eq_true, ho] at hi
  refine ⟨may_ref hi.1 ho, ?_⟩
  have := hi.2
  simp only [Bool.not_true, Bool.false_or, Bool.and_eq_true, decide_eq_true_eq] at this
  exact this.1
theorem pr_of {h : HI} {n : Nat} {e : OJ × List PI} (ho : objB h n e = true) : (e.1.pr.k == 1) = true ∨ (isObj e.1.pr.k = true ∧ inB h e.1.pr = true) := by
  unfold objB at ho
  split at ho
  · left
    unfold prxB badX isV at ho
    cases hk : e.1.pr.k == 1
    · rw [hk] at ho; simp at ho
    · rfl
  · unfold plainB bad7 at ho
    cases hk : e.1.pr.k == 1
    · right
      rw [hk] at ho
      cases hi : isObj e.1.pr.k
      · rw [hi] at ho; simp at ho
      · cases hb : inB h e.1.pr
        · rw [hb] at ho; simp at ho
        · exact ⟨rfl, rfl⟩
    · exact Or.inl rfl
theorem good_of {h : HI} (ha : allO h h.length = true) : GoodN h ∧ ∀ i (hi : i < h.length), ((h[i]'hi).1.pr.k == 1) = false → 0 ≤ (h[i]'hi).1.pr.r := by
  have key : ∀ i (hi : i < h.length), ((h[i]'hi).1.pr.k == 1) = false → 0 ≤ (h[i]'hi).1.pr.r ∧ (h[i]'hi).1.pr.r < (h.length : Int) := by
    intro i hi hk
    rcases pr_of (allO_at ha hi hi) with h1 | ⟨h1, h2⟩
    · rw [h1] at hk; cases hk
    · exact inB_ref h2 h1
  refine ⟨fun i j hi hj => ?_, fun i hi hk => (key i hi hk).1⟩
  rw [nx_at hi] at hj
  split at hj
  · cases hj
  · rename_i hk
    have := key i hi (by simpa using hk)
    cases hj
    omega
/-- What is said of a heap. -/
def chkH (h : HI) : Int := heapE h (lpB h)
theorem chk_any (h : HI) (hok : HOk h) (hk : HKeys h) (hv : Value) (w : World) (hr : RdH h hv w) : Calls Tryz.prog 29 #[.agg #[hv]] w fun e w' => e = .returned (.int .i64 (chkH h)) ∧ Below w.heap.size w w' :=
  heapCheck_any h hok hk (lpB h) hv w hr fun hm ha W hb =>
    have hg := good_of ha
    loops_any h hg.1 hg.2 hv W (hr.on hb) hm
theorem chkH_ok {h : HI} (hc : chkH h = 0) : h.length ≤ 4096 ∧ allO h h.length = true ∧ lpB h = false := by
  unfold chkH heapE at hc
  split at hc
  · cases hc
  · rename_i hn
    split at hc
    · rename_i h1
      rw [Bool.and_eq_true, Bool.not_eq_true'] at h1
      exact ⟨by omega, h1⟩
    · cases hc
end Go.Proofs.YtbmaodlghglopaaGreatDoor
