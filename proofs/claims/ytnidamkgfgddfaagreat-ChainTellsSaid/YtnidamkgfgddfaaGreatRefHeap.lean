/-
  The reference's word on heaps: May.
-/
import Derived.Test.YtnidamkgfgddfaaGreatRefObj4
import Derived.Test.YtnidamkgfgddfaaGreatHWhole
namespace Go.Proofs.YtnidamkgfgddfaaGreat
open Go.RowKit

/-- Numbers in a block. -/
def cellsI (l : List Int) : Array Value := (l.map (Value.int .i64)).toArray
theorem madeI (n : Nat) : madeCells (Value.cells (.int .i64 0)) (n * 1) = cellsI (List.replicate n 0) := by
  unfold cellsI
  rw [Nat.mul_one]
  apply Array.ext'
  simp [madeCells, Value.cells]
  apply List.ext_getElem
  · simp
  · intro i h1 h2
    simp [Nat.mod_one]
theorem infoI : (Tryz.prog.info? 3).map (fun i => (i.zero, i.size, i.bytes)) = some (some (.int .i64 0), 1, 8) := by kernel_rfl
theorem under_intsI : Tryz.prog.underlying 32 = some (.slice 3) := by kernel_rfl
theorem run_makeI (n : Nat) (hn : n ≤ 4096) (w : World) : (Instr.makeSlice 32 (.int .i64 (n : Int)) (.int .i64 (n : Int))).run Tryz.prog w = .ok (.slice (some ⟨w.heap.size, 0, none⟩) n n) (w.alloc (.cells (cellsI (List.replicate n 0)) 3)) := by
  obtain ⟨i, hi, hz0, hz1, hz2⟩ := info_parts infoI
  have := run_make (P := Tryz.prog) (w := w) 32 3 i (.int .i64 0) under_intsI hi hz0 .i64 .i64 (n : Int) (n : Int) (by omega) (by omega) (by rw [hz2]; omega) (by omega)
  rw [this, Int.toNat_natCast, hz1, madeI]
theorem cellsI_set (l : List Int) (k : Nat) (v : Int) : (cellsI l).setIfInBounds k (.int .i64 v) = cellsI (l.set k v) := by
  unfold cellsI
  simp [List.map_set]
theorem cellsI_at {l : List Int} {k : Nat} {v : Int} (h : l[k]? = some v) : (cellsI l)[k]? = some (.int .i64 v) := by
  unfold cellsI
  simp [h]
/-- Marks: not yet, or: it leads to an end. -/
def SeenO (h : HI) (sl : List Int) : Prop := sl.length = h.length ∧ ∀ (j : Nat) (v : Int), sl[j]? = some v → v = 0 ∨ (v = -1 ∧ ∃ d, EndN h j d)
/-- On the way from an object. -/
def SeenW (h : HI) (i k : Nat) (sl : List Int) : Prop := sl.length = h.length ∧ ∀ (j : Nat) (v : Int), sl[j]? = some v → (j ∈ wayN h i k ∧ v = i + 1) ∨ (j ∉ wayN h i k ∧ (v = 0 ∨ (v = -1 ∧ ∃ d, EndN h j d)))
/-- On the way a second time: so many of them are done. -/
def SeenB (h : HI) (i m k : Nat) (sl : List Int) : Prop := sl.length = h.length ∧ ∀ (j : Nat) (v : Int), sl[j]? = some v → (j ∈ wayN h i m ∧ j ∉ wayN h i k ∧ v = i + 1) ∨ ((j ∉ wayN h i m ∨ j ∈ wayN h i k) ∧ (v = 0 ∨ (v = -1 ∧ ∃ d, EndN h j d)))
theorem SeenO.new (h : HI) : SeenO h (List.replicate h.length 0) := by
  refine ⟨by simp, fun j v hj => ?_⟩
  rw [List.getElem?_replicate] at hj
  split at hj
  · cases hj; exact Or.inl rfl
  · cases hj
theorem SeenO.way {h : HI} {sl : List Int} (s : SeenO h sl) (i : Nat) : SeenW h i 0 sl := ⟨s.1, fun j v hj => Or.inr ⟨by simp [wayN], s.2 j v hj⟩⟩
theorem SeenW.mark {h : HI} {i k x : Nat} {sl : List Int} (s : SeenW h i k sl) (hx : itN h i k = some x) : SeenW h i (k + 1) (sl.set x (i + 1)) := by
  refine ⟨by simp [s.1], fun j v hj => ?_⟩
  rw [wayN_more hx]
  rw [List.getElem?_set] at hj
  split at hj
  · rename_i e
    subst e
    split at hj
    · cases hj; exact Or.inl ⟨by simp, rfl⟩
    · cases hj
  · rename_i e
    rcases s.2 j v hj with ⟨h1, h2⟩ | ⟨h1, h2⟩
    · exact Or.inl ⟨List.mem_append_left _ h1, h2⟩
    · exact Or.inr ⟨fun hh => (List.mem_append.1 hh).elim h1 (fun h3 => e (List.mem_singleton.1 h3).symm), h2⟩
theorem SeenW.back {h : HI} {i m : Nat} {sl : List Int} (s : SeenW h i m sl) : SeenB h i m 0 sl := ⟨s.1, fun j v hj => by
  rcases s.2 j v hj with ⟨h1, h2⟩ | ⟨h1, h2⟩
  · exact Or.inl ⟨h1, by simp [wayN], h2⟩
  · exact Or.inr ⟨Or.inl h1, h2⟩⟩
theorem SeenB.mark {h : HI} {i m k x : Nat} {sl : List Int} (s : SeenB h i m k sl) (hx : itN h i k = some x) (he : ∃ d, EndN h x d) : SeenB h i m (k + 1) (sl.set x (-1)) := by
  refine ⟨by simp [s.1], fun j v hj => ?_⟩
  rw [wayN_more hx]
  rw [List.getElem?_set] at hj
  split at hj
  · rename_i e
    subst e
    split at hj
    · cases hj; exact Or.inr ⟨Or.inr (by simp), Or.inr ⟨rfl, he⟩⟩
    · cases hj
  · rename_i e
    rcases s.2 j v hj with ⟨h1, h2, h3⟩ | ⟨h1, h2⟩
    · exact Or.inl ⟨h1, fun hh => (List.mem_append.1 hh).elim h2 (fun h4 => e (List.mem_singleton.1 h4).symm), h3⟩
    · exact Or.inr ⟨h1.imp id (fun h4 => List.mem_append_left _ h4), h2⟩
theorem way_sub {h : HI} {i m k : Nat} (hmk : m ≤ k) {j : Nat} (hj : j ∈ wayN h i m) : j ∈ wayN h i k := by
  obtain ⟨a, ha, e⟩ := mem_wayN.1 hj
  exact mem_wayN.2 ⟨a, by omega, e⟩
theorem SeenB.done {h : HI} {i m k : Nat} {sl : List Int} (s : SeenB h i m k sl) (hs : ∀ j ∈ wayN h i m, j ∈ wayN h i k) : SeenO h sl := ⟨s.1, fun j v hj => by
  rcases s.2 j v hj with ⟨h1, h2, _⟩ | ⟨_, h2⟩
  · exact absurd (hs j h1) h2
  · exact h2⟩
theorem way_null {h : HI} {i k x m : Nat} (hx : itN h i k = some x) (hn : nx h x = none) : ∀ j ∈ wayN h i m, j ∈ wayN h i (k + 1) := fun j hj => by
  obtain ⟨a, _, e⟩ := mem_wayN.1 hj
  refine mem_wayN.2 ⟨a, ?_, e⟩
  rcases Nat.lt_or_ge a (k + 1) with h1 | h1
  · exact h1
  · exfalso
    obtain ⟨b, rfl⟩ : ∃ b, a = k + 1 + b := ⟨a - (k + 1), by omega⟩
    rw [itN_add, itN_succ, hx] at e
    simp only [Option.bind_some, hn, Option.bind_none] at e
    cases e
/-- Where the way back stops, all of the way is done. -/
theorem SeenB.stop {h : HI} {i m k x : Nat} {sl : List Int} (s : SeenB h i m k sl) (hx : itN h i k = some x) (he : ∃ d, EndN h i d) {v : Int} (hv : sl[x]? = some v) (hn : v ≠ i + 1) : SeenO h sl := by
  refine s.done fun j hj => ?_
  rcases Nat.lt_or_ge k m with hl | hl
  · exfalso
    have h1 : x ∈ wayN h i m := mem_wayN.2 ⟨k, hl, hx⟩
    have h2 : x ∉ wayN h i k := fun hh => by
      obtain ⟨a, ha, e⟩ := mem_wayN.1 hh
      exact noEnd ha e hx he
    rcases s.2 x v hv with ⟨_, _, h3⟩ | ⟨h3, _⟩
    · exact hn h3
    · exact h3.elim (fun h4 => h4 h1) h2
  · exact way_sub hl hj
theorem SeenB.room {h : HI} {i m k x : Nat} {sl : List Int} (s : SeenB h i m k sl) {v : Int} (hv : sl[x]? = some v) (hn : v = i + 1) : k < m := by
  rcases s.2 x v hv with ⟨h1, h2, _⟩ | ⟨_, h2⟩
  · rcases Nat.lt_or_ge k m with h3 | h3
    · exact h3
    · exact absurd (way_sub h3 h1) h2
  · omega
theorem EndN.on {h : HI} {i k x : Nat} (he : ∃ d, EndN h i d) (hx : itN h i k = some x) : ∃ d, EndN h x d := by
  obtain ⟨d, a⟩ := he
  obtain ⟨e, b, _⟩ := a.step hx
  exact ⟨e, b⟩
/-- Where the loops stand. -/
def MyL (w : World) (hv : Value) (gi : Nat) (sl : List Int) (wr : World) : Prop := Bk wr w.heap.size 24 #[hv] ∧ Bk wr gi 3 (cellsI sl) ∧ Below w.heap.size w wr
def MyO (h : HI) (w : World) (hv : Value) (gi n : Nat) (s : Value) (wr : World) : Prop := ∃ (i : Nat) (sl : List Int), n = h.length - i ∧ i ≤ h.length ∧ s = .int .i64 i ∧ SeenO h sl ∧ (∀ j, j < i → ∃ d, EndN h j d) ∧ MyL w hv gi sl wr
def MyW (h : HI) (w : World) (hv : Value) (gi i n : Nat) (s : Value) (wr : World) : Prop := ∃ (k x : Nat) (sl : List Int), n = h.length + 1 - k ∧ itN h i k = some x ∧ s = .int .i64 x ∧ (wayN h i k).Nodup ∧ (wayN h i k).contains x = false ∧ SeenW h i k sl ∧ MyL w hv gi sl wr
def MyC (h : HI) (w : World) (hv : Value) (gi i : Nat) (s : Value) (wr : World) : Prop := ∃ (m : Nat) (sl : List Int), (∃ d, EndN h i d) ∧ SeenW h i m sl ∧ MyL w hv gi sl wr
def MyB (h : HI) (w : World) (hv : Value) (gi i m n : Nat) (s : Value) (wr : World) : Prop := ∃ (k x : Nat) (sl : List Int), n = m + 1 - k ∧ itN h i k = some x ∧ s = .int .i64 x ∧ SeenB h i m k sl ∧ MyL w hv gi sl wr

set_option maxHeartbeats 8000000 in
set_option maxRecDepth 100000 in
theorem rmayH_any (h : HI) (hok : HOk h) (hk : HKeys h) (hby : HBytes h) (hv : Value) (w : World) (hr : RdH h hv w) : Calls Tryz.prog 37 #[.agg #[hv]] w fun e w' => e = .returned (.bool (chkH h == 0)) ∧ Below w.heap.size w w' := by
  have OBJ := hidB (fun n (hn : n < h.length) W (hb : Below w.heap.size w W) => robject_any h hok hk hby hv n hn W (hr.on hb))
  obtain ⟨⟨pa, c, rfl, h1, h2, h3⟩, _⟩ := hr
  unfold maxLen at h2
  have hlm : h.length ≤ 9223372036854775807 := by omega
  have HC := hidB h3
  clear hok hk hby h3
  have Y := hidB (show Bk (w.alloc (.cells (#[(.slice pa h.length c)]) 24)) (w.heap.size) 24 (#[(.slice pa h.length c)]) from Bk.new w _ _)
  have B := hidB (show Below w.heap.size w (w.alloc (.cells (#[(.slice pa h.length c)]) 24)) from box_one w _)
  go_enter Tryz.func37, Tryz.ntmps37
  go_upto_region 1 with fail
  generalize hW : (w.alloc (.cells (#[(.slice pa h.length c)]) 24)) = w1 at *
  clear hW
  have y0 : w1.cell? ⟨w.heap.size, 0, none⟩ = some (.slice pa h.length c) := Y.out.cell 0
  by_cases h4 : 4096 < h.length
  · have h4i : (4096 : Int) < (h.length : Int) := by omega
    have HQ := hidB (show chkH h = 9 from if_pos h4)
    go_wp2_with fail
    go_ret
    exact ⟨ret_bool (by rw [HQ.out]; rfl), B.out⟩
  have h4i : ¬ (4096 : Int) < (h.length : Int) := by omega
  go_wp2_with fail
  clear y0
  go_loopw [4] (fun s4 wr => ∃ i : Nat, i ≤ h.length ∧ s4 = .int .i64 i ∧ allO h i = true ∧ Bk wr w.heap.size 24 #[(.slice pa h.length c)] ∧ Below w.heap.size w wr) (fun i _ => h.length - (intOf i).toNat)
  case atStart => exact ⟨0, by omega, rfl, rfl, Y.out, B.out⟩
  case round =>
    obtain ⟨i, hi, rfl, ha, hy, hb⟩ := hrel
    have HA := hidB ha
    replace Y := hidB hy
    replace B := hidB hb
    clear ha hb hy
    have hx2 : (0 : Int) ≤ (i : Int) := by omega
    by_cases hlt : i < h.length
    · have hx1 : (i : Int) < (h.length : Int) := by omega
      go_wp2_with (first | ((with_reducible refine ldId 24 (.tmp 1) ?_); refine wpList_load_row (by rfl) 24 (.tmp 1) (by rfl) (w.heap.size) (by rfl) 24 (#[(.slice pa h.length c)]) (0, 0) _ (by exact Y.out) Tryz.underlying24 (by rfl) (by kernel_rfl) ?_))
      refine (OBJ.out i hlt _ B.out).mono ?_; rintro e w3 ⟨rfl, hb⟩
      replace Y := hidB (Y.out.on hb); replace B := hidB (B.out.trans (hb.mono B.out.size)); clear hb
      have HST := hidB (allO_step h i hlt)
      have HBD := hidB (allO_bad h i hlt)
      generalize objB h i (h[i]'hlt) = ob at *
      cases ob
      · have HQ := hidB (show chkH h = 9 by unfold chkH heapE; rw [if_neg (by omega), HBD.out rfl]; rfl)
        go_wp2_with fail
        go_ret
        exact ⟨ret_bool (by rw [HQ.out]; rfl), B.out⟩
      have HAT : Hid (allO h (i + 1) = true) := hidB (by rw [HST.out, HA.out]; rfl)
      clear HST HBD HA
      go_wp2_with fail
      go_roundw
      case rel => exact ⟨i + 1, by omega, by go_num, HAT.out, Y.out, B.out⟩
      case measure => simp [intOf]; omega
    obtain rfl : i = h.length := by omega
    have hx4 : ¬ ((h.length : Int) < (h.length : Int)) := by omega
    have HGO := hidB (good_of HA.out)
    have HALL := hidB HA.out
    clear HA OBJ hlt hi
    have hmk := run_makeI h.length (by omega) wr
    have HLT := hidB Y.out.lt
    have D := hidB (show Bk (wr.alloc (.cells (cellsI (List.replicate h.length 0)) 3)) wr.heap.size 3 (cellsI (List.replicate h.length 0)) from Bk.new wr _ _)
    replace Y := hidB (show Bk (wr.alloc (.cells (cellsI (List.replicate h.length 0)) 3)) w.heap.size 24 #[(.slice pa h.length c)] from Y.out.alloc _)
    replace B := hidB (show Below w.heap.size w (wr.alloc (.cells (cellsI (List.replicate h.length 0)) 3)) from B.out.alloc B.out.size _)
    have SO := hidB (SeenO.new h)
    generalize List.replicate h.length (0 : Int) = sl0 at *
    go_wp2_with fail
    clear hmk
    generalize (wr.alloc (.cells (cellsI sl0) 3)) = w2 at *
    generalize wr.heap.size = gi at *
    go_loopg [6] h.length (fun n s6 wr => MyO h w (.slice pa h.length c) gi n s6 wr)
    case atStart => exact ⟨0, sl0, rfl, Nat.zero_le _, rfl, SO.out, fun j hj => absurd hj (by omega), Y.out, D.out, B.out⟩
    case round =>
      clear Y D B SO
      obtain ⟨i, sl, rfl, hi, rfl, hso, hen, hY, hD, hb⟩ := hrel
      have Y := hidB hY
      have D := hidB hD
      have B := hidB hb
      have SO := hidB hso
      have HE := hidB hen
      clear hY hD hb hso hen
      have hx2 : (0 : Int) ≤ (i : Int) := by omega
      by_cases hlt : i < h.length
      rotate_left
      · obtain rfl : i = h.length := by omega
        have hx5 : ¬ ((h.length : Int) < (h.length : Int)) := by omega
        have HQ := hidB (show chkH h = 0 from chkH_of (by omega) HALL.out ((lpB_no HGO.out.1).2 HE.out))
        go_wp2_with fail
        go_ret
        exact ⟨ret_bool (by rw [HQ.out]; rfl), B.out⟩
      have hx1 : (i : Int) < (h.length : Int) := by omega
      obtain ⟨g, o, rfl, hgl, hrow⟩ := HC.out (by omega)
      have HGL := hidB hgl
      have HROW := hidB hrow
      clear hgl hrow
      go_upto_block 4 with fail
      go_cut [7] from 30 to 61 (fun s7 wx => MyC h w (.slice (some ⟨g, o, none⟩) h.length c) gi i s7 wx)
      case first => as_aux_lemma =>
        go_wp2_with fail
        go_loopg [7] (h.length + 1) (fun n s7 wr => MyW h w (.slice (some ⟨g, o, none⟩) h.length c) gi i n s7 wr)
        case atStart => exact ⟨0, i, sl, rfl, rfl, rfl, List.nodup_nil, rfl, SO.out.way i, Y.out, D.out, B.out⟩
        case round =>
          clear Y D B SO
          obtain ⟨k, x, sl, rfl, hk, rfl, hnd, hcx, hsw, hY, hD, hb⟩ := hrel
          have HN := hidB hnd
          have HCX := hidB hcx
          clear hnd hcx
          have Y := hidB hY
          have D := hidB hD
          have B := hidB hb
          have SW := hidB hsw
          have HK := hidB hk
          clear hY hD hb hsw hk
          have hx := itN_lt HGO.out.1 hlt k x HK.out
          have hxi : (x : Int) < (h.length : Int) := by omega
          have hx0 : (0 : Int) ≤ (x : Int) := by omega
          obtain ⟨v, hv⟩ : ∃ v, sl[x]? = some v := ⟨sl[x]'(by rw [SW.out.1]; exact hx), List.getElem?_eq_getElem _⟩
          have HV := hidB hv
          have d0 : wr.cell? ⟨gi, x, none⟩ = some (.int .i64 v) := (D.out.cell x).trans (cellsI_at HV.out)
          clear hv
          by_cases hv0 : v = 0
          rotate_left
          · have HEX : Hid (∃ d, EndN h x d) := hidB ((SW.out.2 x v HV.out).elim (fun a => absurd a.1 (by simpa using HCX.out)) (fun a => a.2.elim (fun z => absurd z hv0) (fun z => z.2)))
            have HEI := hidB (HEX.out.elim fun d a => (⟨_, EndN.back HK.out a⟩ : ∃ d, EndN h i d))
            have hvb : (v == 0) = false := by rw [beq_eq_false_iff_ne]; exact hv0
            go_wp2_with fail
            go_meet
            case rel => exact ⟨k, sl, HEI.out, SW.out, Y.out, D.out, B.out⟩
          subst hv0
          have HRM := hidB (way_room HGO.out.1 hlt HK.out HN.out HCX.out)
          have SW1 := hidB (SW.out.mark HK.out)
          have f0 := D.out.free x
          have D1 := hidB (show Bk (wr.setCell ⟨gi, x, none⟩ (.int .i64 ((i : Int) + 1))) gi 3 (cellsI (sl.set x (i + 1))) from cellsI_set sl x _ ▸ D.out.set x _)
          have Y1 := hidB (show Bk (wr.setCell ⟨gi, x, none⟩ (.int .i64 ((i : Int) + 1))) w.heap.size 24 #[(.slice (some ⟨g, o, none⟩) h.length c)] from Y.out.far (show w.heap.size ≠ gi from by have := HLT.out; omega) _)
          have B1 := hidB (show Below w.heap.size w (wr.setCell ⟨gi, x, none⟩ (.int .i64 ((i : Int) + 1))) from B.out.setCell (show w.heap.size ≤ gi from by have := HLT.out; omega) _)
          go_upto_region 16 with fail
          clear d0 f0 Y D B SW
          generalize hSW : (wr.setCell ⟨gi, x, none⟩ (.int .i64 ((i : Int) + 1))) = w5 at *
          clear hSW
          have HP4 := hidB (range_field (rangeOn B1.out HGL.out (HROW.out x hx)) 1 4)
          have HNN := hidB (nx_null hx)
          have HNX := hidB (nx_at hx)
          have HNM := hidB (nx_more hx HK.out)
          have HV0 := hidB (HGO.out.2 x hx)
          generalize (h[x]'hx) = e0 at *
          have p0 : w5.cell? ⟨g, o + x * 18 + 1, none⟩ = some (.int .u8 e0.1.pr.k) := HP4.out 0 _ rfl
          have p3 : w5.cell? ⟨g, o + x * 18 + 1 + 3, none⟩ = some (.int .i64 e0.1.pr.r) := HP4.out 3 _ rfl
          have p4 : w5.cell? ⟨g, o + x * 18 + 4, none⟩ = some (.int .i64 e0.1.pr.r) := HP4.out 3 _ rfl
          have y0 : w5.cell? ⟨w.heap.size, 0, none⟩ = some (.slice (some ⟨g, o, none⟩) h.length c) := Y1.out.cell 0
          cases hk1 : (e0.1.pr.k == 1)
          rotate_left
          · have HE1 := hidB (HNN.out hk1)
            have HEI := hidB (HE1.out.elim fun d a => (⟨_, EndN.back HK.out a⟩ : ∃ d, EndN h i d))
            go_wp2_with fail
            go_meet
            case rel => exact ⟨k + 1, _, HEI.out, SW1.out, Y1.out, D1.out, B1.out⟩
          have hrr := HV0.out hk1
          have HIT := hidB (HNM.out hk1)
          obtain ⟨y, hy⟩ : ∃ y : Nat, e0.1.pr.r = (y : Int) := ⟨e0.1.pr.r.toNat, by omega⟩
          rw [hy] at p3 p4
          rw [hy, Int.toNat_natCast] at HIT
          clear hrr hy
          have hyl := itN_lt HGO.out.1 hlt (k + 1) y HIT.out
          have hyi : (y : Int) < (h.length : Int) := by omega
          have hy0 : (0 : Int) ≤ (y : Int) := by omega
          obtain ⟨u, hu⟩ : ∃ u, (sl.set x ((i : Int) + 1))[y]? = some u := ⟨(sl.set x ((i : Int) + 1))[y]'(by rw [SW1.out.1]; exact hyl), List.getElem?_eq_getElem _⟩
          have HU := hidB hu
          have d1 : w5.cell? ⟨gi, y, none⟩ = some (.int .i64 u) := (D1.out.cell y).trans (cellsI_at HU.out)
          clear hu
          cases hc2 : (wayN h i (k + 1)).contains y
          · have HC2 := hidB hc2
            have hun : u ≠ (i : Int) + 1 := (SW1.out.2 y u HU.out).elim (fun a => absurd a.1 (by simpa using hc2)) (fun a => a.2.elim (fun z => by omega) (fun z => by omega))
            have hub : (u == (i : Int) + 1) = false := by rw [beq_eq_false_iff_ne]; exact hun
            clear hc2
            go_wp2_with fail
            go_roundg (h.length + 1 - (k + 1))
            case measure => have := HRM.out.1; omega
            case rel => exact ⟨k + 1, y, _, rfl, HIT.out, rfl, HRM.out.2, HC2.out, SW1.out, Y1.out, D1.out, B1.out⟩
          have HQ := hidB (show chkH h = 9 by unfold chkH heapE; rw [if_neg (by omega), lpB_yes HGO.out.1 hlt (way_twice HIT.out hc2)]; simp)
          obtain rfl : u = (i : Int) + 1 := (SW1.out.2 y u HU.out).elim (fun a => a.2) (fun a => absurd (by simpa using hc2) a.1)
          skip
          go_wp2_with fail
          go_ret
          exact ⟨ret_bool (by rw [HQ.out]; rfl), B1.out⟩
      case rest =>
      clear Y D B SO
      obtain ⟨m, sl2, hei, hsw, hY, hD, hb⟩ := hcut
      have Y := hidB hY
      have D := hidB hD
      have B := hidB hb
      have SB := hidB hsw.back
      have HEI := hidB hei
      clear hY hD hb hsw hei
      go_wp2_with fail
      go_loopg [7] (m + 1) (fun n s7 wr => MyB h w (.slice (some ⟨g, o, none⟩) h.length c) gi i m n s7 wr)
      case atStart => exact ⟨0, i, sl2, rfl, rfl, rfl, SB.out, Y.out, D.out, B.out⟩
      case round =>
        clear Y D B SB
        obtain ⟨k, x, sl, rfl, hk, rfl, hsw, hY, hD, hb⟩ := hrel
        have Y := hidB hY
        have D := hidB hD
        have B := hidB hb
        have SW := hidB hsw
        have HK := hidB hk
        clear hY hD hb hsw hk
        have hx := itN_lt HGO.out.1 hlt k x HK.out
        have hxi : (x : Int) < (h.length : Int) := by omega
        have hx0 : (0 : Int) ≤ (x : Int) := by omega
        obtain ⟨v, hv⟩ : ∃ v, sl[x]? = some v := ⟨sl[x]'(by rw [SW.out.1]; exact hx), List.getElem?_eq_getElem _⟩
        have HV := hidB hv
        have d0 : wr.cell? ⟨gi, x, none⟩ = some (.int .i64 v) := (D.out.cell x).trans (cellsI_at HV.out)
        clear hv
        by_cases hv0 : v = (i : Int) + 1
        rotate_left
        · have SO2 := hidB (SW.out.stop HK.out HEI.out HV.out hv0)
          have hvb : (v == (i : Int) + 1) = false := by rw [beq_eq_false_iff_ne]; exact hv0
          go_wp2_with fail
          go_roundg (h.length - (i + 1))
          case measure => omega
          case rel => exact ⟨i + 1, _, rfl, by omega, by go_num, SO2.out, fun j hj => (Nat.lt_succ_iff_lt_or_eq.1 hj).elim (fun a => HE.out j a) (fun a => a ▸ HEI.out), Y.out, D.out, B.out⟩
        have HRM := hidB (SW.out.room HV.out hv0)
        subst hv0
        have SW1 := hidB (SW.out.mark HK.out (EndN.on HEI.out HK.out))
        have f0 := D.out.free x
        have D1 := hidB (show Bk (wr.setCell ⟨gi, x, none⟩ (.int .i64 (-1))) gi 3 (cellsI (sl.set x (-1))) from cellsI_set sl x _ ▸ D.out.set x _)
        have Y1 := hidB (show Bk (wr.setCell ⟨gi, x, none⟩ (.int .i64 (-1))) w.heap.size 24 #[(.slice (some ⟨g, o, none⟩) h.length c)] from Y.out.far (show w.heap.size ≠ gi from by have := HLT.out; omega) _)
        have B1 := hidB (show Below w.heap.size w (wr.setCell ⟨gi, x, none⟩ (.int .i64 (-1))) from B.out.setCell (show w.heap.size ≤ gi from by have := HLT.out; omega) _)
        go_upto_region 23 with fail
        clear d0 f0 Y D B SW
        generalize hSW : (wr.setCell ⟨gi, x, none⟩ (.int .i64 (-1))) = w5 at *
        clear hSW
        have HP4 := hidB (range_field (rangeOn B1.out HGL.out (HROW.out x hx)) 1 4)
        have HNN := hidB (nx_null hx)
        have HNX := hidB (nx_at hx)
        have HNM := hidB (nx_more hx HK.out)
        have HV0 := hidB (HGO.out.2 x hx)
        generalize (h[x]'hx) = e0 at *
        have p0 : w5.cell? ⟨g, o + x * 18 + 1, none⟩ = some (.int .u8 e0.1.pr.k) := HP4.out 0 _ rfl
        have p3 : w5.cell? ⟨g, o + x * 18 + 1 + 3, none⟩ = some (.int .i64 e0.1.pr.r) := HP4.out 3 _ rfl
        have p4 : w5.cell? ⟨g, o + x * 18 + 4, none⟩ = some (.int .i64 e0.1.pr.r) := HP4.out 3 _ rfl
        have y0 : w5.cell? ⟨w.heap.size, 0, none⟩ = some (.slice (some ⟨g, o, none⟩) h.length c) := Y1.out.cell 0
        cases hk1 : (e0.1.pr.k == 1)
        rotate_left
        · have SO2 := hidB (SW1.out.done (way_null HK.out (HNX.out.trans (by rw [hk1]; rfl))))
          go_wp2_with fail
          go_roundg (h.length - (i + 1))
          case measure => omega
          case rel => exact ⟨i + 1, _, rfl, by omega, by go_num, SO2.out, fun j hj => (Nat.lt_succ_iff_lt_or_eq.1 hj).elim (fun a => HE.out j a) (fun a => a ▸ HEI.out), Y1.out, D1.out, B1.out⟩
        have hrr := HV0.out hk1
        have HIT := hidB (HNM.out hk1)
        obtain ⟨y, hy⟩ : ∃ y : Nat, e0.1.pr.r = (y : Int) := ⟨e0.1.pr.r.toNat, by omega⟩
        rw [hy] at p3 p4
        rw [hy, Int.toNat_natCast] at HIT
        clear hrr hy
        go_wp2_with fail
        go_roundg (m + 1 - (k + 1))
        case measure => have := HRM.out; omega
        case rel => exact ⟨k + 1, y, _, rfl, HIT.out, rfl, SW1.out, Y1.out, D1.out, B1.out⟩

end Go.Proofs.YtnidamkgfgddfaaGreat
