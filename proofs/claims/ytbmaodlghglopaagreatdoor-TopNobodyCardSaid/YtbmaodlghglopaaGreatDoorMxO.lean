/-
  May the object with a number be in a heap: heap.object, whole.
  May a heap be: the walk of heap.Check (what heap.loops answers is a premise).
  Sets of numbers as maps to true: looked up, put in, gone through.
-/
import Derived.Test.YtbmaodlghglopaaGreatDoorHObject
import Derived.Test.YtbmaodlghglopaaGreatDoorHArray
import Derived.Test.YtbmaodlghglopaaGreatDoorHProxy
import Derived.Maps.RangeRun
import Derived.Maps.Range
namespace Go.Proofs.YtbmaodlghglopaaGreatDoor
open Go.RowKit

/-- The keys of a heap's properties can be read. -/
def HKeys (h : HI) : Prop := ∀ e ∈ h, ∀ q ∈ e.2, q.k.s.size ≤ maxLen
/-- May an object be in a heap? -/
def objB (h : HI) (n : Nat) (e : OJ × List PI) : Bool := if e.1.kd = 6 then prxB h n e.1 e.2 else plainB arrB boxB h n e.1 e.2
theorem obj_any (h : HI) (hok : HOk h) (hk : HKeys h) (hv : Value) (n : Nat) (hn : n < h.length) (w : World) (hr : RdH h hv w) : Calls Tryz.prog 48 #[.agg #[hv], .int .i64 n] w fun e w' => e = .returned (.bool (objB h n (h[n]'hn))) ∧ Below w.heap.size w w' :=
  have hm := List.getElem_mem hn
  object_any arrB boxB (prxB h n (h[n]'hn).1 (h[n]'hn).2) h hok hv n hn w hr
    (fun _ W hb => array_any _ (hk _ hm) _ W ((hr.props _ hm).on hb))
    (fun _ W hb => boxed_any _ (hk _ hm) _ _ W ((hr.props _ hm).on hb))
    (fun _ W hb => proxy_any h hok hv n _ _ (hok _ hm).1 W (hr.on hb) ((hr.props _ hm).on hb) (Nat.le_of_lt hn))

end Go.Proofs.YtbmaodlghglopaaGreatDoor

namespace Go.Proofs.YtbmaodlghglopaaGreatDoor
open Go.RowKit

def allO (h : HI) (k : Nat) : Bool := (List.range k).all (fun i => (h[i]?).elim false (objB h i))
def heapE (h : HI) (lp : Bool) : Int := if 4096 < h.length then 9 else if allO h h.length && !lp then 0 else 9
theorem allO_step (h : HI) (k : Nat) (hk : k < h.length) : allO h (k + 1) = (allO h k && objB h k (h[k]'hk)) := by
  unfold allO
  rw [List.range_succ, List.all_append]
  simp [List.getElem?_eq_getElem hk]
theorem allO_bad (h : HI) (k : Nat) (hk : k < h.length) (hb : objB h k (h[k]'hk) = false) : allO h h.length = false := by
  rw [Bool.eq_false_iff]
  intro hh
  have := List.all_eq_true.1 hh k (List.mem_range.2 hk)
  rw [List.getElem?_eq_getElem hk] at this
  rw [show (some (h[k]'hk)).elim false (objB h k) = objB h k (h[k]'hk) from rfl, hb] at this
  cases this

set_option maxHeartbeats 8000000 in
set_option maxRecDepth 100000 in
theorem heapCheck_any (h : HI) (hok : HOk h) (hk : HKeys h) (lp : Bool) (hv : Value) (w : World) (hr : RdH h hv w) (hL : h.length ≤ 4096 → allO h h.length = true → ∀ W, Below w.heap.size w W → Calls Tryz.prog 49 #[.agg #[hv]] W fun e w' => e = .returned (.bool lp) ∧ Below W.heap.size W w') : Calls Tryz.prog 29 #[.agg #[hv]] w fun e w' => e = .returned (.int .i64 (heapE h lp)) ∧ Below w.heap.size w w' := by
  have OBJ := hidB (fun n (hn : n < h.length) W (hb : Below w.heap.size w W) => obj_any h hok hk hv n hn W (hr.on hb))
  have HLP := hidB hL
  obtain ⟨⟨pa, c, rfl, h1, h2, h3⟩, _⟩ := hr
  unfold maxLen at h2
  have hlm : h.length ≤ 9223372036854775807 := by omega
  clear hok hk hL h3
  have Y := hidB (show Bk (w.alloc (.cells (#[(.slice pa h.length c)]) 24)) (w.heap.size) 24 (#[(.slice pa h.length c)]) from Bk.new w _ _)
  have B := hidB (show Below w.heap.size w (w.alloc (.cells (#[(.slice pa h.length c)]) 24)) from box_one w _)
  go_enter Tryz.func29, Tryz.ntmps29
  go_upto_region 1 with fail
  generalize hW : (w.alloc (.cells (#[(.slice pa h.length c)]) 24)) = w1 at *
  clear hW
  have y0 : w1.cell? ⟨w.heap.size, 0, none⟩ = some (.slice pa h.length c) := Y.out.cell 0
  by_cases h4 : 4096 < h.length
  · have h4i : (4096 : Int) < (h.length : Int) := by omega
    have HQ := hidB (show heapE h lp = 9 from if_pos h4)
    go_wp2_with fail
    go_ret
    exact ⟨by rw [HQ.out]; rfl, B.out⟩
  have h4i : ¬ (4096 : Int) < (h.length : Int) := by omega
  have H4 := hidB (show h.length ≤ 4096 by omega)
  go_wp2_with fail
  clear h4i y0
  go_loopw [11] (fun s11 wr => ∃ i : Nat, i ≤ h.length ∧ s11 = .int .i64 i ∧ allO h i = true ∧ Bk wr w.heap.size 24 #[(.slice pa h.length c)] ∧ Below w.heap.size w wr) (fun i _ => h.length - (intOf i).toNat)
  case atStart => exact ⟨0, by omega, rfl, rfl, Y.out, B.out⟩
  case round =>
    obtain ⟨i, hi, rfl, ha, hY, hb⟩ := hrel
    replace Y := hidB hY
    replace B := hidB hb
    have HA := hidB ha
    clear hY hb ha
    have hx2 : (0 : Int) ≤ (i : Int) := by omega
    by_cases hlt : i < h.length
    · have hx1 : (i : Int) < (h.length : Int) := by omega
      have CO := hidB (OBJ.out i hlt)
      have HST := hidB (allO_step h i hlt)
      have HBD := hidB (allO_bad h i hlt)
      generalize objB h i (h[i]'hlt) = bo at *
      go_wp2_with (first | ((with_reducible refine ldId 24 (.tmp 1) ?_); refine wpList_load_row (by rfl) 24 (.tmp 1) (by rfl) (w.heap.size) (by rfl) 24 (#[(.slice pa h.length c)]) (0, 0) _ (by exact Y.out) Tryz.underlying24 (by rfl) (by kernel_rfl) ?_))
      refine (CO.out _ B.out).mono ?_; rintro e w3 ⟨rfl, hb⟩
      replace Y := hidB (Y.out.on hb)
      replace B := hidB (B.out.trans (hb.mono B.out.size))
      clear hb
      clear CO
      cases bo
      · have HQ := hidB (show heapE h lp = 9 by unfold heapE; rw [if_neg (by have := H4.out; omega), HBD.out rfl]; rfl)
        go_wp2_with fail
        go_ret
        exact ⟨by rw [HQ.out]; rfl, B.out⟩
      · have HS2 := hidB (show allO h (i + 1) = true by rw [HST.out, HA.out]; rfl)
        go_wp2_with fail
        go_roundw
        case rel => exact ⟨i + 1, by omega, by go_num, HS2.out, Y.out, B.out⟩
        case measure => simp [intOf]; omega
    · obtain rfl : i = h.length := by omega
      have hx4 : ¬ ((h.length : Int) < (h.length : Int)) := by omega
      have CL := hidB (HLP.out H4.out HA.out)
      go_wp2_with (first | ((with_reducible refine ldId 24 (.tmp 1) ?_); refine wpList_load_row (by rfl) 24 (.tmp 1) (by rfl) (w.heap.size) (by rfl) 24 (#[(.slice pa h.length c)]) (0, 0) _ (by exact Y.out) Tryz.underlying24 (by rfl) (by kernel_rfl) ?_))
      refine (CL.out _ B.out).mono ?_; rintro e w3 ⟨rfl, hb⟩
      replace Y := hidB (Y.out.on hb)
      replace B := hidB (B.out.trans (hb.mono B.out.size))
      clear hb
      have HQ := hidB (show heapE h lp = if lp then 9 else 0 by unfold heapE; rw [if_neg (by have := H4.out; omega), HA.out]; cases lp <;> rfl)
      cases lp
      · go_wp2_with fail
        go_ret
        exact ⟨by rw [HQ.out]; rfl, B.out⟩
      · go_wp2_with fail
        go_ret
        exact ⟨by rw [HQ.out]; rfl, B.out⟩

end Go.Proofs.YtbmaodlghglopaaGreatDoor

namespace Go.Proofs.YtbmaodlghglopaaGreatDoor
open Go.RowKit Go.ChangeMaps

/-- Block 'b' is a map from these numbers to true, in this order. -/
def MapS (w : World) (b : Nat) (l : List Nat) : Prop := ∃ es clock, w.heap[b]? = some (.map es clock) ∧ es.toList.map (fun e => (e.key, e.val)) = l.map (fun (i : Nat) => (Value.int .i64 (i : Int), Value.bool true)) ∧ (es.toList.map (·.born)).Nodup ∧ ∀ x ∈ es.toList, x.born < clock
theorem MapS.lt {w : World} {b : Nat} {l : List Nat} (h : MapS w b l) : b < w.heap.size := by
  obtain ⟨es, c, h, _⟩ := h
  rcases Nat.lt_or_ge b w.heap.size with hl | hg
  · exact hl
  · rw [Array.getElem?_eq_none hg] at h; cases h
theorem MapS.same {w w1 : World} {b : Nat} {l : List Nat} (h : MapS w b l) (hb : w1.heap[b]? = w.heap[b]?) : MapS w1 b l := by
  obtain ⟨es, c, h1, h2⟩ := h
  exact ⟨es, c, hb.trans h1, h2⟩
theorem MapS.on {w w1 : World} {b : Nat} {l : List Nat} (h : MapS w b l) (hb : Below w.heap.size w w1) : MapS w1 b l := h.same (hb.block b h.lt)
theorem MapS.new (w : World) : MapS (w.alloc (.map #[] 0)) w.heap.size [] := ⟨#[], 0, (MapKept.heap_alloc w _).1, rfl, by simp, by simp⟩
/-- How many entries a block's map has. -/
def mapLen (w : World) (b : Nat) : Nat := match w.heap[b]? with | some (.map es _) => es.size | _ => 0
theorem MapS.len {w : World} {b : Nat} {l : List Nat} (h : MapS w b l) : mapLen w b = l.length := by
  obtain ⟨es, c, h1, h2, _⟩ := h
  unfold mapLen
  rw [h1]
  have := congrArg List.length h2
  simpa using this
theorem under_mapS : Tryz.prog.underlying 130 = some (.map 3 4) := by kernel_rfl
theorem under_intS : Tryz.prog.underlying 3 = some (.int .i64) := by kernel_rfl
theorem run_zero_boolS (w : World) : (zeroValue 4).run Tryz.prog w = .ok (.bool false) w := by kernel_rfl
theorem run_checkS (b : Bool) (i : Int) (w : World) : (Instr.checkKey b 10000 3 (.int .i64 i)).run Tryz.prog w = .ok () w := by kernel_rfl
theorem findNowS (i : Nat) : ∀ (es : List MapEntry) (l : List Nat) (j : Nat), es.map (fun e => (e.key, e.val)) = l.map (fun (i : Nat) => (Value.int .i64 (i : Int), Value.bool true)) →
    ∃ r, Instr.findNow (.int .i64) (.int .i64 (i : Int)) es j = some r ∧ r.map (·.2) = (if l.contains i then some (Value.bool true) else none)
  | [], [], j, _ => ⟨none, rfl, rfl⟩
  | [], _ :: _, _, h => by cases h
  | _ :: _, [], _, h => by cases h
  | e :: es, p :: l, j, h => by
    simp only [List.map_cons, List.cons.injEq, Prod.mk.injEq] at h
    obtain ⟨⟨h1, h2⟩, h3⟩ := h
    unfold Instr.findNow
    rw [h1]
    by_cases he : i = p
    · subst he
      refine ⟨some (j, e.val), by simp [Instr.sameNow], ?_⟩
      rw [h2]
      simp
    · have hne : ((i : Int) == (p : Int)) = false := by rw [beq_eq_false_iff_ne]; omega
      obtain ⟨r, hr, hv⟩ := findNowS i es l (j + 1) h3
      refine ⟨r, by simp [Instr.sameNow, hne]; exact hr, ?_⟩
      rw [hv]
      simp [he]
theorem run_findKeyS (i : Nat) (w : World) (es : List MapEntry) (l : List Nat) (h : es.map (fun e => (e.key, e.val)) = l.map (fun (i : Nat) => (Value.int .i64 (i : Int), Value.bool true))) :
    ∃ r, (Instr.findKey 3 (.int .i64 (i : Int)) es).run Tryz.prog w = .ok r w ∧ r.map (·.2) = (if l.contains i then some (Value.bool true) else none) := by
  obtain ⟨r, hr, hv⟩ := findNowS i es l 0 h
  refine ⟨r, ?_, hv⟩
  unfold Instr.findKey
  rw [Sem.run_bind, run_underlying under_intS]
  simp only [Result.andThen_ok]
  rw [hr]
  rfl
/-- A number looked up. -/
theorem run_lookupS (i : Nat) {w : World} {b : Nat} {l : List Nat} (h : MapS w b l) : (Instr.lookup 130 (.map (some b)) (.int .i64 (i : Int)) false).run Tryz.prog w = .ok (.bool (l.contains i)) w := by
  obtain ⟨es, c, h1, h2, _⟩ := h
  obtain ⟨r, hr, hv⟩ := run_findKeyS i w es.toList l h2
  unfold Instr.lookup
  simp only [Sem.run_bind, run_underlying under_mapS, Result.andThen_ok, MapKept.run_getObj_map h1, Sem.run_pure, run_checkS, hr]
  cases r with
  | none =>
    have hv : l.contains i = false := by
      cases hf : l.contains i with
      | false => rfl
      | true => rw [hf] at hv; cases hv
    simp only [Sem.run_bind, run_zero_boolS, Result.andThen_ok, Sem.run_pure, hv]
    rfl
  | some p =>
    have hc : l.contains i = true := by
      cases hf : l.contains i with
      | true => rfl
      | false => rw [hf] at hv; cases hv
    rw [hc] at hv
    simp only [if_true, Option.map_some, Option.some.injEq] at hv
    simp only [Result.andThen_ok, Sem.run_pure, hc, hv]
    rfl
/-- A new number put in. -/
theorem run_updateS (i : Nat) {w : World} {b : Nat} {l : List Nat} (h : MapS w b l) (hn : l.contains i = false) : ∃ w1, (Instr.mapUpdate 130 (.map (some b)) (.int .i64 (i : Int)) (.bool true)).run Tryz.prog w = .ok () w1 ∧ MapS w1 b (l ++ [i]) ∧ w1.os = w.os ∧ w1.tape = w.tape ∧ w1.output = w.output ∧ w1.heap.size = w.heap.size ∧ (∀ g, g ≠ b → w1.heap[g]? = w.heap[g]?) := by
  obtain ⟨es, c, h1, h2, h3, h4⟩ := h
  obtain ⟨r, hr, hv⟩ := run_findKeyS i w es.toList l h2
  have hr0 : r = none := by
    cases r with
    | none => rfl
    | some p => rw [hn] at hv; cases hv
  subst hr0
  have hb : b < w.heap.size := MapS.lt ⟨es, c, h1, h2, h3, h4⟩
  refine ⟨{ w with heap := w.heap.setIfInBounds b (.map (es.push { key := .int .i64 (i : Int), val := .bool true, born := c }) (c + 1)) }, ?_, ⟨es.push { key := .int .i64 (i : Int), val := .bool true, born := c }, c + 1, by simp [hb], ?_, ?_, ?_⟩, rfl, rfl, rfl, by simp, fun g hg => by simp [Array.getElem?_setIfInBounds, Ne.symm hg]⟩
  · unfold Instr.mapUpdate
    simp only [Sem.run_bind, run_underlying under_mapS, Result.andThen_ok, MapKept.run_getObj_map h1, run_checkS, hr]
    exact MapKept.run_setObj_map _ h1
  · simp [h2]
  · rw [Array.toList_push, List.map_append, List.nodup_append]
    refine ⟨h3, by simp, ?_⟩
    intro x hx y hy
    obtain ⟨e, he, rfl⟩ := List.mem_map.1 hx
    have := h4 e he
    simp at hy
    subst hy
    omega
  · intro x hx
    rw [Array.toList_push, List.mem_append] at hx
    rcases hx with hx | hx
    · have := h4 x hx; omega
    · simp at hx; subst hx; simp
/-- A set being gone through: these numbers are to come yet. -/
def RangeS (w : World) (b r : Nat) (l left : List Nat) : Prop := ∃ es clock since seen c0, w.heap[b]? = some (.map es clock) ∧ es.toList.map (fun e => (e.key, e.val)) = l.map (fun (i : Nat) => (Value.int .i64 (i : Int), Value.bool true)) ∧ (es.toList.map (·.born)).Nodup ∧
  w.heap[r]? = some (.mapIter (some b) since seen c0) ∧ (∀ x ∈ es.toList, x.born < since) ∧ since ≤ c0 ∧ since ≤ clock ∧ left = (leftOf es seen).toList.map (fun e => (intOf e.key).toNat)
theorem RangeS.lt {w : World} {b r : Nat} {l left : List Nat} (h : RangeS w b r l left) : b < w.heap.size ∧ r < w.heap.size ∧ r ≠ b := by
  obtain ⟨es, c, since, seen, c0, h1, _, _, h2, _⟩ := h
  refine ⟨?_, ?_, fun e => by rw [e, h1] at h2; cases h2⟩
  · rcases Nat.lt_or_ge b w.heap.size with hl | hg
    · exact hl
    · rw [Array.getElem?_eq_none hg] at h1; cases h1
  · rcases Nat.lt_or_ge r w.heap.size with hl | hg
    · exact hl
    · rw [Array.getElem?_eq_none hg] at h2; cases h2
theorem RangeS.same {w w1 : World} {b r : Nat} {l left : List Nat} (h : RangeS w b r l left) (hb : w1.heap[b]? = w.heap[b]?) (hr : w1.heap[r]? = w.heap[r]?) : RangeS w1 b r l left := by
  obtain ⟨es, c, since, seen, c0, h1, h2, h3, h4, h5⟩ := h
  exact ⟨es, c, since, seen, c0, hb.trans h1, h2, h3, hr.trans h4, h5⟩
/-- How many are to come. -/
def rangeLen (w : World) (b r : Nat) : Nat := match w.heap[b]?, w.heap[r]? with | some (.map es _), some (.mapIter _ _ seen _) => (leftOf es seen).size | _, _ => 0
theorem RangeS.len {w : World} {b r : Nat} {l left : List Nat} (h : RangeS w b r l left) : rangeLen w b r = left.length := by
  obtain ⟨es, c, since, seen, c0, h1, h2, h3, h4, _, _, _, rfl⟩ := h
  unfold rangeLen
  rw [h1, h4]
  simp
theorem key_of {es : List MapEntry} {l : List Nat} (h : es.map (fun e => (e.key, e.val)) = l.map (fun (i : Nat) => (Value.int .i64 (i : Int), Value.bool true))) {e : MapEntry} (he : e ∈ es) : ∃ i ∈ l, e.key = .int .i64 (i : Int) ∧ e.val = .bool true := by
  have : (e.key, e.val) ∈ es.map (fun e => (e.key, e.val)) := List.mem_map.2 ⟨e, he, rfl⟩
  rw [h] at this
  obtain ⟨i, hi, hx⟩ := List.mem_map.1 this
  simp only [Prod.mk.injEq] at hx
  exact ⟨i, hi, hx.1.symm, hx.2.symm⟩
theorem leftOf_none (es : Array MapEntry) : leftOf es #[] = es := by unfold leftOf; simp
/-- Going through begins. -/
theorem run_rangeS {w : World} {b : Nat} {l : List Nat} (h : MapS w b l) : ∃ w1, (Instr.range 130 (.map (some b))).run Tryz.prog w = .ok (.pointer (some ⟨w.heap.size, 0, none⟩)) w1 ∧ RangeS w1 b w.heap.size l l ∧ Below w.heap.size w w1 ∧ w1.heap.size = w.heap.size + 1 := by
  have hlt := h.lt
  obtain ⟨es, c, h1, h2, h3, h4⟩ := h
  refine ⟨_, run_range_map w _ 3 4 b es c under_mapS h1, ⟨es, c, c, #[], c, ((MapKept.heap_alloc w _).2 b hlt).trans h1, h2, h3, (MapKept.heap_alloc w _).1, h4, Nat.le_refl _, Nat.le_refl _, ?_⟩, box_one w _, by simp⟩
  rw [leftOf_none]
  have := congrArg (List.map (fun (p : Value × Value) => (intOf p.1).toNat)) h2
  rw [List.map_map, List.map_map] at this
  have e1 : List.map ((fun (p : Value × Value) => (intOf p.1).toNat) ∘ fun (i : Nat) => (Value.int .i64 (i : Int), Value.bool true)) l = l := by
    conv => rhs; rw [← List.map_id l]
    refine List.map_congr_left fun i _ => ?_
    simp [intOf]
  rw [e1] at this
  exact this.symm
/-- One step. -/
theorem RangeS.next {w : World} {b r : Nat} {l left : List Nat} (h : RangeS w b r l left) (ty : TypeId) :
    (left = [] ∧ (Instr.next (.pointer (some ⟨r, 0, none⟩)) false ty).run Tryz.prog w = .ok (.tuple #[.bool false]) w) ∨
    ∃ (k : Nat) (left' : List Nat) (w1 : World), k ∈ left ∧ k ∈ l ∧ left'.length < left.length ∧ (∀ x ∈ left, x = k ∨ x ∈ left') ∧ (∀ x ∈ left', x ∈ left) ∧ (Instr.next (.pointer (some ⟨r, 0, none⟩)) false ty).run Tryz.prog w = .ok (.tuple #[.bool true, .int .i64 (k : Int), .bool true]) w1 ∧ RangeS w1 b r l left' ∧
      w1.os = w.os ∧ w1.tape = w.tape ∧ w1.output = w.output ∧ w1.heap.size = w.heap.size ∧ (∀ g, g ≠ r → w1.heap[g]? = w.heap[g]?) ∧ (Instr.entry (.pointer (some ⟨r, 0, none⟩))).run Tryz.prog w1 = .ok (.tuple #[.int .i64 (k : Int), .bool true]) w1 := by
  have hne := h.lt.2.2
  obtain ⟨es, clock, since, seen, c0, hb, h2, h3, hr, hold, hsc, hsk, rfl⟩ := h
  rcases run_next_at (P := Tryz.prog) w ty r b since c0 seen es clock hr hb hold hsc with ⟨h0, hrun⟩ | ⟨e, he, w1, hal, hrun⟩
  · left
    refine ⟨?_, hrun⟩
    rw [Array.eq_empty_of_size_eq_zero h0]; rfl
  · right
    obtain ⟨hem, hes⟩ := mem_left he
    obtain ⟨k, hk, hkey, hval⟩ := key_of h2 hem
    have hr1 : w1.heap[r]? = some (.mapIter (some b) since seen c0) := by rcases hal with rfl | rfl <;> exact hr
    have hb1 : w1.heap[b]? = some (.map es clock) := by rcases hal with rfl | rfl <;> exact hb
    have hset := MapKept.heap_set (o' := .mapIter (some b) since (seen.push e.born) clock) hr1
    have hb' : (setBlock w1 r (.mapIter (some b) since (seen.push e.born) clock)).heap[b]? = some (.map es clock) := (hset.2 b (fun e1 => hne e1.symm)).trans hb1
    have hko : (intOf e.key).toNat = k := by rw [hkey]; simp [intOf]
    have hrun' := hrun
    rw [hkey, hval] at hrun'
    have hen := run_entry_at (P := Tryz.prog) _ r b since seen es clock e hset.1 hb' hem h3
    rw [hkey, hval] at hen
    refine ⟨k, _, _, List.mem_map.2 ⟨e, he, hko⟩, hk, ?_, ?_, ?_, hrun', ⟨es, clock, since, seen.push e.born, clock, hb', h2, h3, hset.1, hold, hsk, hsk, rfl⟩, ?_, ?_, ?_, ?_, ?_, hen⟩
    · simpa using left_shrinks es seen e he
    · intro x hx
      obtain ⟨y, hy, rfl⟩ := List.mem_map.1 hx
      obtain ⟨hym, hys⟩ := mem_left hy
      by_cases hbe : y.born = e.born
      · left
        obtain rfl := born_inj h3 hym hem hbe
        exact hko
      · right
        refine List.mem_map.2 ⟨y, ?_, rfl⟩
        unfold leftOf
        rw [Array.mem_toList_iff, Array.mem_filter]
        refine ⟨Array.mem_toList_iff.1 hym, ?_⟩
        rw [contains_push, hys]
        simp [hbe]
    · intro x hx
      obtain ⟨y, hy, rfl⟩ := List.mem_map.1 hx
      obtain ⟨hym, hys⟩ := mem_left hy
      refine List.mem_map.2 ⟨y, ?_, rfl⟩
      unfold leftOf
      rw [Array.mem_toList_iff, Array.mem_filter]
      refine ⟨Array.mem_toList_iff.1 hym, ?_⟩
      rw [contains_push] at hys
      cases hs : seen.contains y.born with
      | false => rfl
      | true => rw [hs] at hys; cases hys
    · rcases hal with rfl | rfl <;> rfl
    · rcases hal with rfl | rfl <;> rfl
    · rcases hal with rfl | rfl <;> rfl
    · rcases hal with rfl | rfl <;> simp [setBlock]
    · intro g hg
      refine (hset.2 g hg).trans ?_
      rcases hal with rfl | rfl <;> rfl
section
variable {ops : Array Oper} {rest : List Oper} {o : Oper} {a : Act} {Q : Exit → Act → World → Prop}
/-- One step, as the walk meets it. -/
theorem wpList_nextS (w : World) (hg : o.guard = none) (it : Operand) (hop : o.op = Op.next it false) (b r : Nat) (l left : List Nat) (hit : a.eval it = .pointer (some ⟨r, 0, none⟩)) (h : RangeS w b r l left)
    (hDone : left = [] → wpList Tryz.prog ops Q rest (a.put o.dst (.tuple #[.bool false])) w)
    (hMore : ∀ (k : Nat) (left' : List Nat) (w1 : World), k ∈ left → k ∈ l → left'.length < left.length → (∀ x ∈ left, x = k ∨ x ∈ left') → (∀ x ∈ left', x ∈ left) → RangeS w1 b r l left' → w1.os = w.os → w1.tape = w.tape → w1.output = w.output → w1.heap.size = w.heap.size → (∀ g, g ≠ r → w1.heap[g]? = w.heap[g]?) →
      (Instr.entry (.pointer (some ⟨r, 0, none⟩))).run Tryz.prog w1 = .ok (.tuple #[.int .i64 (k : Int), .bool true]) w1 → wpList Tryz.prog ops Q rest (a.put o.dst (.tuple #[.bool true, .int .i64 (k : Int), .bool true])) w1) :
    wpList Tryz.prog ops Q (o :: rest) a w := by
  refine wpList_plain hg fun K' hK' => ?_
  unfold Oper.wp
  rcases h.next o.type with ⟨h0, hrun⟩ | ⟨k, left', w1, h1, h2, h3, h4, h5, hrun, h6, h7, h7b, h8, h9, h10, h11⟩
  · simp [execOp, hop, hit, hrun, Result.andThen]
    exact hK' _ _ (hDone h0)
  · simp [execOp, hop, hit, hrun, Result.andThen]
    exact hK' _ _ (hMore k left' w1 h1 h2 h3 h4 h5 h6 h7 h7b h8 h9 h10 h11)
end
end Go.Proofs.YtbmaodlghglopaaGreatDoor
