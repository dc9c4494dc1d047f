/-
  Properties: plain.
-/
import Derived.Test.YtnidamkgfgddfaaTabMap
import Derived.Test.YtnidamkgfgddfaaDescCom
namespace Go.Proofs.Ytnidamkgfgddfaa
open Go.RowKit

/-- A property. -/
structure PI where
  k : KI
  d : DI
abbrev PI.cs (p : PI) : Array Value := #[.string p.k.s, .int .i64 p.k.n, .int .u8 p.d.has, .int .u8 p.d.v.k, .float .f64 p.d.v.x, .string p.d.v.s, .int .i64 p.d.v.r, .int .u8 p.d.g.k, .float .f64 p.d.g.x, .string p.d.g.s, .int .i64 p.d.g.r, .int .u8 p.d.t.k, .float .f64 p.d.t.x, .string p.d.t.s, .int .i64 p.d.t.r, .bool p.d.wr, .bool p.d.en, .bool p.d.cf]
abbrev PI.a (p : PI) : Value := .agg p.cs
/-- A slice of properties that can be read. -/
def RdP (l : List PI) (v : Value) (w : World) : Prop := ∃ pa c, v = .slice pa l.length c ∧ l.length ≤ c ∧ c ≤ maxLen ∧ (0 < l.length → ∃ g o, pa = some ⟨g, o, none⟩ ∧ g < w.heap.size ∧ ∀ i (h : i < l.length), w.rangeAt g (o + i * 18) l[i].cs.toList)
theorem RdP.on {l : List PI} {v : Value} {w w1 : World} (h : RdP l v w) (hb : Below w.heap.size w w1) : RdP l v w1 := by
  obtain ⟨pa, c, h1, h2, h3, h4⟩ := h
  refine ⟨pa, c, h1, h2, h3, fun h0 => ?_⟩
  obtain ⟨g, o, e, hg, hx⟩ := h4 h0
  exact ⟨g, o, e, Nat.lt_of_lt_of_le hg hb.size, fun i hi => rangeOn hb hg (hx i hi)⟩
def PI.err (p : PI) (seen : List KI) : Int := if p.k.ok then (if p.d.isW then (if seen.any (KI.eq p.k) then 100 else 0) else 90) else 9
/-- The error of a list of properties. -/
def tabG : List KI → List PI → Int
  | _, [] => 0
  | seen, p :: l => if p.err seen = 0 then tabG (seen ++ [p.k]) l else p.err seen
def tabE (l : List PI) : Int := if 1024 < l.length then 4 else tabG [] l
theorem tabG_step {l : List PI} {k : Nat} (h : k < l.length) : tabG ((l.take k).map PI.k) (l.drop k) = if l[k].err ((l.take k).map PI.k) = 0 then tabG ((l.take (k + 1)).map PI.k) (l.drop (k + 1)) else l[k].err ((l.take k).map PI.k) := by
  rw [List.drop_eq_getElem_cons h, tabG, List.take_succ_eq_append_getElem h, List.map_append]; rfl
/-- A map of just the keys so far, bound to numbers above nought. -/
def Seen (w : World) (b : Nat) (ks : List KI) : Prop := ∃ m, MapK w b m ∧ m.map (·.1) = ks ∧ ∀ p, p ∈ m → 0 < p.2
theorem Seen.on {w w1 : World} {b : Nat} {ks : List KI} (h : Seen w b ks) (hb : Below w.heap.size w w1) : Seen w1 b ks := by
  obtain ⟨m, h1, h2, h3⟩ := h
  exact ⟨m, h1.on hb, h2, h3⟩
theorem find_none {k : KI} {m : List (KI × Int)} (h : (m.map (·.1)).any (KI.eq k) = false) : findK k m = none := by
  unfold findK
  rw [Option.map_eq_none_iff, List.find?_eq_none]
  intro p hp he
  rw [List.any_eq_false] at h
  exact h p.1 (List.mem_map_of_mem hp) he
theorem find_some {k : KI} {m : List (KI × Int)} (h : (m.map (·.1)).any (KI.eq k) = true) (hp : ∀ p, p ∈ m → 0 < p.2) : ∃ n, findK k m = some n ∧ 0 < n := by
  rw [List.any_eq_true] at h
  obtain ⟨q, hq, he⟩ := h
  obtain ⟨p, hpm, rfl⟩ := List.mem_map.1 hq
  unfold findK
  cases hf : m.find? (fun p => KI.eq k p.1) with
  | none => rw [List.find?_eq_none] at hf; exact absurd he (hf p hpm)
  | some r => exact ⟨r.2, rfl, hp r (List.mem_of_find?_eq_some hf)⟩
/-- Is a key among those so far? -/
theorem seen_lookup {w : World} {b : Nat} {ks : List KI} (h : Seen w b ks) (k : KI) : ∃ n, (Instr.lookup 81 (.map (some b)) k.a false).run Try.prog w = .ok (.int .i64 n) w ∧ decide (n > 0) = ks.any (KI.eq k) := by
  obtain ⟨m, h1, rfl, h3⟩ := h
  refine ⟨_, run_lookupK k h1, ?_⟩
  cases ha : (m.map (·.1)).any (KI.eq k)
  · rw [find_none ha]; rfl
  · obtain ⟨n, hn, h0⟩ := find_some ha h3
    rw [hn]; exact decide_eq_true h0
/-- A new key put in. -/
theorem seen_update {w : World} {b : Nat} {ks : List KI} (h : Seen w b ks) (k : KI) (n : Int) (hn : 0 < n) (ha : ks.any (KI.eq k) = false) : ∃ w1, (Instr.mapUpdate 81 (.map (some b)) k.a (.int .i64 n)).run Try.prog w = .ok () w1 ∧ Seen w1 b (ks ++ [k]) ∧ ∀ B w0, B ≤ b → Below B w0 w → Below B w0 w1 := by
  obtain ⟨m, h1, rfl, h3⟩ := h
  obtain ⟨w1, hr, hm, ho, ht, hu, hs, hx⟩ := run_updateK k n h1 (find_none ha)
  refine ⟨w1, hr, ⟨_, hm, by simp, fun p hp => ?_⟩, fun B w0 hB hb => ⟨ho.trans hb.os, ht.trans hb.tape, hu.trans hb.output, by rw [hs]; exact hb.size, fun g hg => (hx g (by omega)).trans (hb.block g hg)⟩⟩
  rcases List.mem_append.1 hp with h | h
  · exact h3 p h
  · rw [List.mem_singleton.1 h]; exact hn
theorem seen_new (w : World) : Seen (w.alloc (.map #[] 0)) w.heap.size [] := ⟨[], MapK.new w, rfl, fun p hp => by cases hp⟩
/-- A key's property. -/
def findP (l : List PI) (k : KI) : Option PI := l.find? (fun p => KI.eq p.k k)

end Go.Proofs.Ytnidamkgfgddfaa
