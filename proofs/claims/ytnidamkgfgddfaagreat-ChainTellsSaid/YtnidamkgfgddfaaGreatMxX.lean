/-
  May the object with a number be in a heap: heap.object, whole.
  May a heap be: the walk of heap.Check (what heap.loops answers is a premise).
-/
import Derived.Test.YtnidamkgfgddfaaGreatHObject
import Derived.Test.YtnidamkgfgddfaaGreatHArray
import Derived.Test.YtnidamkgfgddfaaGreatHProxy
namespace Go.Proofs.YtnidamkgfgddfaaGreat
open Go.RowKit

/-- The keys of a heap's properties can be read. -/
def HKeys (h : HI) : Prop := ∀ e ∈ h, ∀ q ∈ e.2, q.k.s.size ≤ maxLen
/-- May an object be in a heap? -/
def objB (h : HI) (n : Nat) (e : OJ × List PI) : Bool := if e.1.kd = 6 then prxB h n e.1 e.2 else plainB arrB boxB h n e.1 e.2
theorem obj_any (h : HI) (hok : HOk h) (hk : HKeys h) (hv : Value) (n : Nat) (hn : n < h.length) (w : World) (hr : RdH h hv w) : Calls Tryz.prog 41 #[.agg #[hv], .int .i64 n] w fun e w' => e = .returned (.bool (objB h n (h[n]'hn))) ∧ Below w.heap.size w w' :=
  have hm := List.getElem_mem hn
  object_any arrB boxB (prxB h n (h[n]'hn).1 (h[n]'hn).2) h hok hv n hn w hr
    (fun _ W hb => array_any _ (hk _ hm) _ W ((hr.props _ hm).on hb))
    (fun _ W hb => boxed_any _ (hk _ hm) _ _ W ((hr.props _ hm).on hb))
    (fun _ W hb => proxy_any h hok hv n _ _ (hok _ hm).1 W (hr.on hb) ((hr.props _ hm).on hb) (Nat.le_of_lt hn))

end Go.Proofs.YtnidamkgfgddfaaGreat

namespace Go.Proofs.YtnidamkgfgddfaaGreat
open Go.RowKit

def allO (h : HI) (k : Nat) : Bool := (List.range k).all (fun i => (h[i]?).elim false (objB h i))
def heapE (h : HI) (lp : Bool) : Int := if 4096 < h.length then 9 else if allO h h.length && !lp then 0 else 9
theorem allO_step (h : HI) (k : Nat) (hk : k < h.length) : allO h (k + 1) = (allO h k && objB h k (h[k]'hk)) := by
  unfold allO
  rw [List.range_succ, List.all_append]
  simp [List.getElem?_eq_getElem hk]
theorem allO_bad (h : HI) (k : Nat) (hk : k < h.length) (hb : objB h k (h[k]'hk) = false) : allO h h.length = false := by
  rw [Bool.eq_false_iff]
  intro hh
  have := List.all_eq_true.1 hh k (List.mem_range.2 hk)
  rw [List.getElem?_eq_getElem hk] at this
  rw [show (some (h[k]'hk)).elim false (objB h k) = objB h k (h[k]'hk) from rfl, hb] at this
  cases this

set_option maxHeartbeats 8000000 in
set_option maxRecDepth 100000 in
theorem heapCheck_any (h : HI) (hok : HOk h) (hk : HKeys h) (lp : Bool) (hv : Value) (w : World) (hr : RdH h hv w) (hL : h.length ≤ 4096 → allO h h.length = true → ∀ W, Below w.heap.size w W → Calls Tryz.prog 42 #[.agg #[hv]] W fun e w' => e = .returned (.bool lp) ∧ Below W.heap.size W w') : Calls Tryz.prog 35 #[.agg #[hv]] w fun e w' => e = .returned (.int .i64 (heapE h lp)) ∧ Below w.heap.size w w' := by
  have OBJ := hidB (fun n (hn : n < h.length) W (hb : Below w.heap.size w W) => obj_any h hok hk hv n hn W (hr.on hb))
  have HLP := hidB hL
  obtain ⟨⟨pa, c, rfl, h1, h2, h3⟩, _⟩ := hr
  unfold maxLen at h2
  have hlm : h.length ≤ 9223372036854775807 := by omega
  clear hok hk hL h3
  have Y := hidB (show Bk (w.alloc (.cells (#[(.slice pa h.length c)]) 24)) (w.heap.size) 24 (#[(.slice pa h.length c)]) from Bk.new w _ _)
  have B := hidB (show Below w.heap.size w (w.alloc (.cells (#[(.slice pa h.length c)]) 24)) from box_one w _)
  go_enter Tryz.func35, Tryz.ntmps35
  go_upto_region 1 with fail
  generalize hW : (w.alloc (.cells (#[(.slice pa h.length c)]) 24)) = w1 at *
  clear hW
  have y0 : w1.cell? ⟨w.heap.size, 0, none⟩ = some (.slice pa h.length c) := Y.out.cell 0
  by_cases h4 : 4096 < h.length
  · have h4i : (4096 : Int) < (h.length : Int) := by omega
    have HQ := hidB (show heapE h lp = 9 from if_pos h4)
    go_wp2_with fail
    go_ret
    exact ⟨by rw [HQ.out]; rfl, B.out⟩
  have h4i : ¬ (4096 : Int) < (h.length : Int) := by omega
  have H4 := hidB (show h.length ≤ 4096 by omega)
  go_wp2_with fail
  clear h4i y0
  go_loopw [11] (fun s11 wr => ∃ i : Nat, i ≤ h.length ∧ s11 = .int .i64 i ∧ allO h i = true ∧ Bk wr w.heap.size 24 #[(.slice pa h.length c)] ∧ Below w.heap.size w wr) (fun i _ => h.length - (intOf i).toNat)
  case atStart => exact ⟨0, by omega, rfl, rfl, Y.out, B.out⟩
  case round =>
    obtain ⟨i, hi, rfl, ha, hY, hb⟩ := hrel
    replace Y := hidB hY
    replace B := hidB hb
    have HA := hidB ha
    clear hY hb ha
    have hx2 : (0 : Int) ≤ (i : Int) := by omega
    by_cases hlt : i < h.length
    · have hx1 : (i : Int) < (h.length : Int) := by omega
      have CO := hidB (OBJ.out i hlt)
      have HST := hidB (allO_step h i hlt)
      have HBD := hidB (allO_bad h i hlt)
      generalize objB h i (h[i]'hlt) = bo at *
      go_wp2_with (first | ((with_reducible refine ldId 24 (.tmp 1) ?_); refine wpList_load_row (by rfl) 24 (.tmp 1) (by rfl) (w.heap.size) (by rfl) 24 (#[(.slice pa h.length c)]) (0, 0) _ (by exact Y.out) Tryz.underlying24 (by rfl) (by kernel_rfl) ?_))
      refine (CO.out _ B.out).mono ?_; rintro e w3 ⟨rfl, hb⟩
      replace Y := hidB (Y.out.on hb)
      replace B := hidB (B.out.trans (hb.mono B.out.size))
      clear hb
      clear CO
      cases bo
      · have HQ := hidB (show heapE h lp = 9 by unfold heapE; rw [if_neg (by have := H4.out; omega), HBD.out rfl]; rfl)
        go_wp2_with fail
        go_ret
        exact ⟨by rw [HQ.out]; rfl, B.out⟩
      · have HS2 := hidB (show allO h (i + 1) = true by rw [HST.out, HA.out]; rfl)
        go_wp2_with fail
        go_roundw
        case rel => exact ⟨i + 1, by omega, by go_num, HS2.out, Y.out, B.out⟩
        case measure => simp [intOf]; omega
    · obtain rfl : i = h.length := by omega
      have hx4 : ¬ ((h.length : Int) < (h.length : Int)) := by omega
      have CL := hidB (HLP.out H4.out HA.out)
      go_wp2_with (first | ((with_reducible refine ldId 24 (.tmp 1) ?_); refine wpList_load_row (by rfl) 24 (.tmp 1) (by rfl) (w.heap.size) (by rfl) 24 (#[(.slice pa h.length c)]) (0, 0) _ (by exact Y.out) Tryz.underlying24 (by rfl) (by kernel_rfl) ?_))
      refine (CL.out _ B.out).mono ?_; rintro e w3 ⟨rfl, hb⟩
      replace Y := hidB (Y.out.on hb)
      replace B := hidB (B.out.trans (hb.mono B.out.size))
      clear hb
      have HQ := hidB (show heapE h lp = if lp then 9 else 0 by unfold heapE; rw [if_neg (by have := H4.out; omega), HA.out]; cases lp <;> rfl)
      cases lp
      · go_wp2_with fail
        go_ret
        exact ⟨by rw [HQ.out]; rfl, B.out⟩
      · go_wp2_with fail
        go_ret
        exact ⟨by rw [HQ.out]; rfl, B.out⟩

end Go.Proofs.YtnidamkgfgddfaaGreat
