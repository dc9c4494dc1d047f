/-
  Maps from keys to integers: read and written.
-/
import Derived.Test.YtnidamkgfgddfaaPostKeys
import Derived.ChangeKeysEq
namespace Go.Proofs.Ytnidamkgfgddfaa
open Go.RowKit

/-- Block 'b' is a map of just these entries, in this order. -/
def MapK (w : World) (b : Nat) (l : List (KI × Int)) : Prop := ∃ es clock, w.heap[b]? = some (.map es clock) ∧ es.toList.map (fun e => (e.key, e.val)) = l.map (fun p => (p.1.a, Value.int .i64 p.2))
theorem MapK.lt {w : World} {b : Nat} {l : List (KI × Int)} (h : MapK w b l) : b < w.heap.size := by
  obtain ⟨es, c, h, _⟩ := h
  rcases Nat.lt_or_ge b w.heap.size with hl | hg
  · exact hl
  · rw [Array.getElem?_eq_none hg] at h; cases h
theorem MapK.on {w w1 : World} {b : Nat} {l : List (KI × Int)} (h : MapK w b l) (hb : Below w.heap.size w w1) : MapK w1 b l := by
  obtain ⟨es, c, h1, h2⟩ := h
  exact ⟨es, c, (hb.block b (MapK.lt ⟨es, c, h1, h2⟩)).trans h1, h2⟩
theorem MapK.alloc {w : World} {b : Nat} {l : List (KI × Int)} (h : MapK w b l) (o : Obj) : MapK (w.alloc o) b l := h.on (box_one w o)
theorem MapK.new (w : World) : MapK (w.alloc (.map #[] 0)) w.heap.size [] := ⟨#[], 0, (MapKept.heap_alloc w _).1, rfl⟩
/-- What a key is bound to. -/
def findK (k : KI) (l : List (KI × Int)) : Option Int := (l.find? (fun p => KI.eq k p.1)).map (·.2)
theorem run_equalK (a b : KI) (w : World) : (Op.equal 61 a.a b.a).run Try.prog w = .ok (KI.eq a b) w := equal_key 9998 a b w
theorem run_findAsking (k : KI) (w : World) : ∀ (es : List MapEntry) (l : List (KI × Int)) (i : Nat), es.map (fun e => (e.key, e.val)) = l.map (fun p => (p.1.a, Value.int .i64 p.2)) →
    ∃ r, (Instr.findAsking 61 k.a es i).run Try.prog w = .ok r w ∧ r.map (·.2) = (findK k l).map (Value.int .i64)
  | [], [], i, _ => ⟨none, rfl, rfl⟩
  | [], _ :: _, _, h => by cases h
  | _ :: _, [], _, h => by cases h
  | e :: es, p :: l, i, h => by
    simp only [List.map_cons, List.cons.injEq, Prod.mk.injEq] at h
    obtain ⟨⟨h1, h2⟩, h3⟩ := h
    unfold Instr.findAsking
    rw [Sem.run_bind, h1, run_equalK]
    simp only [Result.andThen_ok]
    cases he : KI.eq k p.1
    · obtain ⟨r, hr, hv⟩ := run_findAsking k w es l (i + 1) h3
      refine ⟨r, by simpa using hr, ?_⟩
      rw [hv]
      unfold findK
      rw [List.find?_cons, he]
    · refine ⟨some (i, e.val), by simp, ?_⟩
      unfold findK
      rw [List.find?_cons, he, h2]; rfl
theorem run_checkK (b : Bool) (k : KI) (w : World) : (Instr.checkKey b 10000 61 k.a).run Try.prog w = .ok () w := by kernel_rfl
theorem under_mapK : Try.prog.underlying 81 = some (.map 61 3) := by kernel_rfl
theorem findNowK (k : KI) (w : World) (es : List MapEntry) : ∃ o, (Try.prog.underlying 61) = some o ∧ (es ≠ [] → Instr.findNow o k.a es 0 = none) := by
  refine ⟨_, under_key, fun h => ?_⟩
  cases es with
  | nil => exact absurd rfl h
  | cons e es => rfl
theorem run_findKeyK (k : KI) (w : World) (es : List MapEntry) (l : List (KI × Int)) (h : es.map (fun e => (e.key, e.val)) = l.map (fun p => (p.1.a, Value.int .i64 p.2))) :
    ∃ r, (Instr.findKey 61 k.a es).run Try.prog w = .ok r w ∧ r.map (·.2) = (findK k l).map (Value.int .i64) := by
  obtain ⟨o, ho, hn⟩ := findNowK k w es
  unfold Instr.findKey
  rw [Sem.run_bind, run_underlying ho]
  simp only [Result.andThen_ok]
  cases es with
  | nil =>
    cases l with
    | nil => exact ⟨none, rfl, rfl⟩
    | cons p l => cases h
  | cons e es =>
    rw [hn (by simp)]
    exact run_findAsking k w _ l 0 h
theorem run_zero_int (w : World) : (zeroValue 3).run Try.prog w = .ok (.int .i64 0) w := by kernel_rfl
/-- A key looked up. -/
theorem run_lookupK (k : KI) {w : World} {b : Nat} {l : List (KI × Int)} (h : MapK w b l) : (Instr.lookup 81 (.map (some b)) k.a false).run Try.prog w = .ok (.int .i64 ((findK k l).getD 0)) w := by
  obtain ⟨es, c, h1, h2⟩ := h
  obtain ⟨r, hr, hv⟩ := run_findKeyK k w es.toList l h2
  unfold Instr.lookup
  simp only [Sem.run_bind, run_underlying under_mapK, Result.andThen_ok, MapKept.run_getObj_map h1, Sem.run_pure, run_checkK, hr]
  cases r with
  | none =>
    have hv : findK k l = none := by cases hf : findK k l with | none => rfl | some v => rw [hf] at hv; cases hv
    simp only [Sem.run_bind, run_zero_int, Result.andThen_ok, Sem.run_pure, hv]
    rfl
  | some p =>
    obtain ⟨v, hf, e⟩ : ∃ v, findK k l = some v ∧ Value.int .i64 v = p.2 := by
      cases hf : findK k l with
      | none => rw [hf] at hv; cases hv
      | some v => rw [hf] at hv; exact ⟨v, rfl, (Option.some.inj hv).symm⟩
    simp only [Result.andThen_ok, Sem.run_pure, hf, ← e]
    rfl
/-- A new key put in. -/
theorem run_updateK (k : KI) (n : Int) {w : World} {b : Nat} {l : List (KI × Int)} (h : MapK w b l) (hn : findK k l = none) : ∃ w1, (Instr.mapUpdate 81 (.map (some b)) k.a (.int .i64 n)).run Try.prog w = .ok () w1 ∧ MapK w1 b (l ++ [(k, n)]) ∧ w1.os = w.os ∧ w1.tape = w.tape ∧ w1.output = w.output ∧ w1.heap.size = w.heap.size ∧ (∀ g, g ≠ b → w1.heap[g]? = w.heap[g]?) := by
  obtain ⟨es, c, h1, h2⟩ := h
  obtain ⟨r, hr, hv⟩ := run_findKeyK k w es.toList l h2
  have hr0 : r = none := by
    cases r with
    | none => rfl
    | some p => rw [hn] at hv; cases hv
  subst hr0
  have hb : b < w.heap.size := MapK.lt ⟨es, c, h1, h2⟩
  refine ⟨{ w with heap := w.heap.setIfInBounds b (.map (es.push { key := k.a, val := .int .i64 n, born := c }) (c + 1)) }, ?_, ⟨es.push { key := k.a, val := .int .i64 n, born := c }, c + 1, by simp [hb], ?_⟩, rfl, rfl, rfl, by simp, fun g hg => by simp [Array.getElem?_setIfInBounds, Ne.symm hg]⟩
  · unfold Instr.mapUpdate
    simp only [Sem.run_bind, run_underlying under_mapK, Result.andThen_ok, MapKept.run_getObj_map h1, run_checkK, hr]
    exact MapKept.run_setObj_map _ h1
  · simp [h2]
end Go.Proofs.Ytnidamkgfgddfaa
