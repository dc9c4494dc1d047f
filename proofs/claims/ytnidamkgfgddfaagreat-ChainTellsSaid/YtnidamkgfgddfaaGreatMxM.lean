/-
  Maps from keys to integers: read and written.
  Properties: plain.
-/
import Derived.Test.YtnidamkgfgddfaaGreatMxL
import Derived.ChangeKeysEq
namespace Go.Proofs.YtnidamkgfgddfaaGreat
open Go.RowKit

/-- Block 'b' is a map of just these entries, in this order. -/
def MapK (w : World) (b : Nat) (l : List (KI × Int)) : Prop := ∃ es clock, w.heap[b]? = some (.map es clock) ∧ es.toList.map (fun e => (e.key, e.val)) = l.map (fun p => (p.1.a, Value.int .i64 p.2))
theorem MapK.lt {w : World} {b : Nat} {l : List (KI × Int)} (h : MapK w b l) : b < w.heap.size := by
  obtain ⟨es, c, h, _⟩ := h
  rcases Nat.lt_or_ge b w.heap.size with hl | hg
  · exact hl
  · rw [Array.getElem?_eq_none hg] at h; cases h
theorem MapK.on {w w1 : World} {b : Nat} {l : List (KI × Int)} (h : MapK w b l) (hb : Below w.heap.size w w1) : MapK w1 b l := by
  obtain ⟨es, c, h1, h2⟩ := h
  exact ⟨es, c, (hb.block b (MapK.lt ⟨es, c, h1, h2⟩)).trans h1, h2⟩
theorem MapK.alloc {w : World} {b : Nat} {l : List (KI × Int)} (h : MapK w b l) (o : Obj) : MapK (w.alloc o) b l := h.on (box_one w o)
theorem MapK.new (w : World) : MapK (w.alloc (.map #[] 0)) w.heap.size [] := ⟨#[], 0, (MapKept.heap_alloc w _).1, rfl⟩
/-- What a key is bound to. -/
def findK (k : KI) (l : List (KI × Int)) : Option Int := (l.find? (fun p => KI.eq k p.1)).map (·.2)
theorem run_equalK (a b : KI) (w : World) : (Op.equal 66 a.a b.a).run Tryz.prog w = .ok (KI.eq a b) w := equal_key 9998 a b w
theorem run_findAsking (k : KI) (w : World) : ∀ (es : List MapEntry) (l : List (KI × Int)) (i : Nat), es.map (fun e => (e.key, e.val)) = l.map (fun p => (p.1.a, Value.int .i64 p.2)) →
    ∃ r, (Instr.findAsking 66 k.a es i).run Tryz.prog w = .ok r w ∧ r.map (·.2) = (findK k l).map (Value.int .i64)
  | [], [], i, _ => ⟨none, rfl, rfl⟩
  | [], _ :: _, _, h => by cases h
  | _ :: _, [], _, h => by cases h
  | e :: es, p :: l, i, h => by
    simp only [List.map_cons, List.cons.injEq, Prod.mk.injEq] at h
    obtain ⟨⟨h1, h2⟩, h3⟩ := h
    unfold Instr.findAsking
    rw [Sem.run_bind, h1, run_equalK]
    simp only [Result.andThen_ok]
    cases he : KI.eq k p.1
    · obtain ⟨r, hr, hv⟩ := run_findAsking k w es l (i + 1) h3
      refine ⟨r, by simpa using hr, ?_⟩
      rw [hv]
      unfold findK
      rw [List.find?_cons, he]
    · refine ⟨some (i, e.val), by simp, ?_⟩
      unfold findK
      rw [List.find?_cons, he, h2]; rfl
theorem run_checkK (b : Bool) (k : KI) (w : World) : (Instr.checkKey b 10000 66 k.a).run Tryz.prog w = .ok () w := by kernel_rfl
theorem under_mapK : Tryz.prog.underlying 85 = some (.map 66 3) := by kernel_rfl
theorem findNowK (k : KI) (w : World) (es : List MapEntry) : ∃ o, (Tryz.prog.underlying 66) = some o ∧ (es ≠ [] → Instr.findNow o k.a es 0 = none) := by
  refine ⟨_, under_key, fun h => ?_⟩
  cases es with
  | nil => exact absurd rfl h
  | cons e es => rfl
theorem run_findKeyK (k : KI) (w : World) (es : List MapEntry) (l : List (KI × Int)) (h : es.map (fun e => (e.key, e.val)) = l.map (fun p => (p.1.a, Value.int .i64 p.2))) :
    ∃ r, (Instr.findKey 66 k.a es).run Tryz.prog w = .ok r w ∧ r.map (·.2) = (findK k l).map (Value.int .i64) := by
  obtain ⟨o, ho, hn⟩ := findNowK k w es
  unfold Instr.findKey
  rw [Sem.run_bind, run_underlying ho]
  simp only [Result.andThen_ok]
  cases es with
  | nil =>
    cases l with
    | nil => exact ⟨none, rfl, rfl⟩
    | cons p l => cases h
  | cons e es =>
    rw [hn (by simp)]
    exact run_findAsking k w _ l 0 h
theorem run_zero_int (w : World) : (zeroValue 3).run Tryz.prog w = .ok (.int .i64 0) w := by kernel_rfl
/-- A key looked up. -/
theorem run_lookupK (k : KI) {w : World} {b : Nat} {l : List (KI × Int)} (h : MapK w b l) : (Instr.lookup 85 (.map (some b)) k.a false).run Tryz.prog w = .ok (.int .i64 ((findK k l).getD 0)) w := by
  obtain ⟨es, c, h1, h2⟩ := h
  obtain ⟨r, hr, hv⟩ := run_findKeyK k w es.toList l h2
  unfold Instr.lookup
  simp only [Sem.run_bind, run_underlying under_mapK, Result.andThen_ok, MapKept.run_getObj_map h1, Sem.run_pure, run_checkK, hr]
  cases r with
  | none =>
    have hv : findK k l = none := by cases hf : findK k l with | none => rfl | some v => rw [hf] at hv; cases hv
    simp only [Sem.run_bind, run_zero_int, Result.andThen_ok, Sem.run_pure, hv]
    rfl
  | some p =>
    obtain ⟨v, hf, e⟩ : ∃ v, findK k l = some v ∧ Value.int .i64 v = p.2 := by
      cases hf : findK k l with
      | none => rw [hf] at hv; cases hv
      | some v => rw [hf] at hv; exact ⟨v, rfl, (Option.some.inj hv).symm⟩
    simp only [Result.andThen_ok, Sem.run_pure, hf, ← e]
    rfl
/-- A new key put in. -/
theorem run_updateK (k : KI) (n : Int) {w : World} {b : Nat} {l : List (KI × Int)} (h : MapK w b l) (hn : findK k l = none) : ∃ w1, (Instr.mapUpdate 85 (.map (some b)) k.a (.int .i64 n)).run Tryz.prog w = .ok () w1 ∧ MapK w1 b (l ++ [(k, n)]) ∧ w1.os = w.os ∧ w1.tape = w.tape ∧ w1.output = w.output ∧ w1.heap.size = w.heap.size ∧ (∀ g, g ≠ b → w1.heap[g]? = w.heap[g]?) := by
  obtain ⟨es, c, h1, h2⟩ := h
  obtain ⟨r, hr, hv⟩ := run_findKeyK k w es.toList l h2
  have hr0 : r = none := by
    cases r with
    | none => rfl
    | some p => rw [hn] at hv; cases hv
  subst hr0
  have hb : b < w.heap.size := MapK.lt ⟨es, c, h1, h2⟩
  refine ⟨{ w with heap := w.heap.setIfInBounds b (.map (es.push { key := k.a, val := .int .i64 n, born := c }) (c + 1)) }, ?_, ⟨es.push { key := k.a, val := .int .i64 n, born := c }, c + 1, by simp [hb], ?_⟩, rfl, rfl, rfl, by simp, fun g hg => by simp [Array.getElem?_setIfInBounds, Ne.symm hg]⟩
  · unfold Instr.mapUpdate
    simp only [Sem.run_bind, run_underlying under_mapK, Result.andThen_ok, MapKept.run_getObj_map h1, run_checkK, hr]
    exact MapKept.run_setObj_map _ h1
  · simp [h2]
end Go.Proofs.YtnidamkgfgddfaaGreat

namespace Go.Proofs.YtnidamkgfgddfaaGreat
open Go.RowKit

/-- A property. -/
structure PI where
  k : KI
  d : DI
abbrev PI.cs (p : PI) : Array Value := #[.string p.k.s, .int .i64 p.k.n, .int .u8 p.d.has, .int .u8 p.d.v.k, .float .f64 p.d.v.x, .string p.d.v.s, .int .i64 p.d.v.r, .int .u8 p.d.g.k, .float .f64 p.d.g.x, .string p.d.g.s, .int .i64 p.d.g.r, .int .u8 p.d.t.k, .float .f64 p.d.t.x, .string p.d.t.s, .int .i64 p.d.t.r, .bool p.d.wr, .bool p.d.en, .bool p.d.cf]
abbrev PI.a (p : PI) : Value := .agg p.cs
/-- A slice of properties that can be read. -/
def RdP (l : List PI) (v : Value) (w : World) : Prop := ∃ pa c, v = .slice pa l.length c ∧ l.length ≤ c ∧ c ≤ maxLen ∧ (0 < l.length → ∃ g o, pa = some ⟨g, o, none⟩ ∧ g < w.heap.size ∧ ∀ i (h : i < l.length), w.rangeAt g (o + i * 18) l[i].cs.toList)
theorem RdP.on {l : List PI} {v : Value} {w w1 : World} (h : RdP l v w) (hb : Below w.heap.size w w1) : RdP l v w1 := by
  obtain ⟨pa, c, h1, h2, h3, h4⟩ := h
  refine ⟨pa, c, h1, h2, h3, fun h0 => ?_⟩
  obtain ⟨g, o, e, hg, hx⟩ := h4 h0
  exact ⟨g, o, e, Nat.lt_of_lt_of_le hg hb.size, fun i hi => rangeOn hb hg (hx i hi)⟩
def PI.err (p : PI) (seen : List KI) : Int := if p.k.ok then (if p.d.isW then (if seen.any (KI.eq p.k) then 100 else 0) else 90) else 9
/-- The error of a list of properties. -/
def tabG : List KI → List PI → Int
  | _, [] => 0
  | seen, p :: l => if p.err seen = 0 then tabG (seen ++ [p.k]) l else p.err seen
def tabE (l : List PI) : Int := if 1024 < l.length then 4 else tabG [] l
theorem tabG_step {l : List PI} {k : Nat} (h : k < l.length) : tabG ((l.take k).map PI.k) (l.drop k) = if l[k].err ((l.take k).map PI.k) = 0 then tabG ((l.take (k + 1)).map PI.k) (l.drop (k + 1)) else l[k].err ((l.take k).map PI.k) := by
  rw [List.drop_eq_getElem_cons h, tabG, List.take_succ_eq_append_getElem h, List.map_append]; rfl
/-- A map of just the keys so far, bound to numbers above nought. -/
def Seen (w : World) (b : Nat) (ks : List KI) : Prop := ∃ m, MapK w b m ∧ m.map (·.1) = ks ∧ ∀ p, p ∈ m → 0 < p.2
theorem Seen.on {w w1 : World} {b : Nat} {ks : List KI} (h : Seen w b ks) (hb : Below w.heap.size w w1) : Seen w1 b ks := by
  obtain ⟨m, h1, h2, h3⟩ := h
  exact ⟨m, h1.on hb, h2, h3⟩
theorem find_none {k : KI} {m : List (KI × Int)} (h : (m.map (·.1)).any (KI.eq k) = false) : findK k m = none := by
  unfold findK
  rw [Option.map_eq_none_iff, List.find?_eq_none]
  intro p hp he
  rw [List.any_eq_false] at h
  exact h p.1 (List.mem_map_of_mem hp) he
theorem find_some {k : KI} {m : List (KI × Int)} (h : (m.map (·.1)).any (KI.eq k) = true) (hp : ∀ p, p ∈ m → 0 < p.2) : ∃ n, findK k m = some n ∧ 0 < n := by
  rw [List.any_eq_true] at h
  obtain ⟨q, hq, he⟩ := h
  obtain ⟨p, hpm, rfl⟩ := List.mem_map.1 hq
  unfold findK
  cases hf : m.find? (fun p => KI.eq k p.1) with
  | none => rw [List.find?_eq_none] at hf; exact absurd he (hf p hpm)
  | some r => exact ⟨r.2, rfl, hp r (List.mem_of_find?_eq_some hf)⟩
/-- Is a key among those so far? -/
theorem seen_lookup {w : World} {b : Nat} {ks : List KI} (h : Seen w b ks) (k : KI) : ∃ n, (Instr.lookup 85 (.map (some b)) k.a false).run Tryz.prog w = .ok (.int .i64 n) w ∧ decide (n > 0) = ks.any (KI.eq k) := by
  obtain ⟨m, h1, rfl, h3⟩ := h
  refine ⟨_, run_lookupK k h1, ?_⟩
  cases ha : (m.map (·.1)).any (KI.eq k)
  · rw [find_none ha]; rfl
  · obtain ⟨n, hn, h0⟩ := find_some ha h3
    rw [hn]; exact decide_eq_true h0
/-- A new key put in. -/
theorem seen_update {w : World} {b : Nat} {ks : List KI} (h : Seen w b ks) (k : KI) (n : Int) (hn : 0 < n) (ha : ks.any (KI.eq k) = false) : ∃ w1, (Instr.mapUpdate 85 (.map (some b)) k.a (.int .i64 n)).run Tryz.prog w = .ok () w1 ∧ Seen w1 b (ks ++ [k]) ∧ ∀ B w0, B ≤ b → Below B w0 w → Below B w0 w1 := by
  obtain ⟨m, h1, rfl, h3⟩ := h
  obtain ⟨w1, hr, hm, ho, ht, hu, hs, hx⟩ := run_updateK k n h1 (find_none ha)
  refine ⟨w1, hr, ⟨_, hm, by simp, fun p hp => ?_⟩, fun B w0 hB hb => ⟨ho.trans hb.os, ht.trans hb.tape, hu.trans hb.output, by rw [hs]; exact hb.size, fun g hg => (hx g (by omega)).trans (hb.block g hg)⟩⟩
  rcases List.mem_append.1 hp with h | h
  · exact h3 p h
  · rw [List.mem_singleton.1 h]; exact hn
theorem seen_new (w : World) : Seen (w.alloc (.map #[] 0)) w.heap.size [] := ⟨[], MapK.new w, rfl, fun p hp => by cases hp⟩
/-- A key's property. -/
def findP (l : List PI) (k : KI) : Option PI := l.find? (fun p => KI.eq p.k k)

end Go.Proofs.YtnidamkgfgddfaaGreat
