/-
  Descriptors: the walks of desc.Complete and of whole.
  Properties: plain.
-/
import Derived.Test.YtbmaodlghglopaaGreatDoorMxF
namespace Go.Proofs.YtbmaodlghglopaaGreatDoor
open Go.RowKit

theorem results_row2 {P : Program} {fn : Func} {p u : Tmp} {ty : TypeId} (h : fn.results = #[.cell p ty, .tmp u]) (tmps : Array Value) (w : World) (g : Nat) (t : TypeId) (cs : Array Value) (fr : Nat × Nat) (d : TypeDesc)
    (hp : tmps.getD p undef = .pointer (some ⟨g, 0, none⟩)) (hg : w.heap[g]? = some (.cells cs t fr))
    (hu : P.underlying ty = some d) (hd : (match d with | .struct _ | .array _ _ => true | _ => false) = true) (hi : (P.info? ty).map (·.size) = some cs.size) :
    (results fn tmps).run P w = .ok (.tuple #[.agg cs, tmps.getD u undef]) w := by
  have hp' : tmps[p]?.getD undef = .pointer (some ⟨g, 0, none⟩) := by simpa using hp
  simp [results, h, hp', asAddr, run_loadVar_row w g t ty cs fr d hg hu hd hi]
theorem DI.one (d : DI) : d.cs.all (·.oneCell') = true := by
  rw [Array.all_eq_true_iff_forall_mem]
  intro u hu
  simp only [DI.cs, List.mem_toArray, List.mem_cons, List.not_mem_nil, or_false] at hu
  rcases hu with rfl | rfl | rfl | rfl | rfl | rfl | rfl | rfl | rfl | rfl | rfl | rfl | rfl | rfl | rfl | rfl <;> rfl
theorem size_desc : (Tryz.prog.info? 31).map (·.size) = some 16 := by kernel_rfl
/-- A descriptor made complete, or its error. -/
def DI.com (d : DI) : DI := if d.err = 0 then d.whole else DI.zero

set_option maxHeartbeats 4000000 in
set_option maxRecDepth 100000 in
theorem complete_any (d : DI) (hd : d.ok) (w : World) : Calls Tryz.prog 105 #[d.a] w fun e w' => e = .returned (.tuple #[d.com.a, .int .i64 d.err]) ∧ Below w.heap.size w w' := by
  have CA := hidB (fun W => descCheck_any d hd W)
  have WA := hidB (fun W => wholeD_any d W)
  unfold DI.com
  clear hd
  have U := hidB (show Bk ((w.alloc (.cells d.cs 31)).alloc (.cells #[.int .u8 0, .int .u8 0, .float .f64 0, .string ⟨#[]⟩, .int .i64 0, .int .u8 0, .float .f64 0, .string ⟨#[]⟩, .int .i64 0, .int .u8 0, .float .f64 0, .string ⟨#[]⟩, .int .i64 0, .bool false, .bool false, .bool false] 31)) w.heap.size 31 d.cs from (Bk.new w _ _).alloc _)
  have R := hidB (show Bk ((w.alloc (.cells d.cs 31)).alloc (.cells #[.int .u8 0, .int .u8 0, .float .f64 0, .string ⟨#[]⟩, .int .i64 0, .int .u8 0, .float .f64 0, .string ⟨#[]⟩, .int .i64 0, .int .u8 0, .float .f64 0, .string ⟨#[]⟩, .int .i64 0, .bool false, .bool false, .bool false] 31)) (w.heap.size + 1) 31 DI.zero.cs from Bk.new2 w _ _ _)
  have Bt := hidB (show Below w.heap.size w ((w.alloc (.cells d.cs 31)).alloc (.cells #[.int .u8 0, .int .u8 0, .float .f64 0, .string ⟨#[]⟩, .int .i64 0, .int .u8 0, .float .f64 0, .string ⟨#[]⟩, .int .i64 0, .int .u8 0, .float .f64 0, .string ⟨#[]⟩, .int .i64 0, .bool false, .bool false, .bool false] 31)) from (box_one w _).alloc (by simp) _)
  by_cases he : d.err = 0
  · rw [if_pos he, he]
    rw [he] at CA
    clear he
    go_enter Tryz.func105, Tryz.ntmps105
    go_upto_region 1 with fail
    generalize ((w.alloc (.cells d.cs 31)).alloc (.cells #[.int .u8 0, .int .u8 0, .float .f64 0, .string ⟨#[]⟩, .int .i64 0, .int .u8 0, .float .f64 0, .string ⟨#[]⟩, .int .i64 0, .int .u8 0, .float .f64 0, .string ⟨#[]⟩, .int .i64 0, .bool false, .bool false, .bool false] 31)) = w1 at *
    go_wp2_with (first | ((with_reducible refine ldId 31 (.tmp 1) ?_); refine wpList_load_row (by rfl) 31 (.tmp 1) (by rfl) w.heap.size (by rfl) 31 _ (0, 0) _ (by exact U.out) Tryz.underlying31 (by rfl) (by exact size_desc) ?_))
    refine (CA.out _).mono ?_; rintro e w2 ⟨rfl, hb⟩
    have U2 := hidB (U.out.on hb)
    have R2 := hidB (R.out.on hb)
    have B2 := hidB (Bt.out.trans (hb.mono Bt.out.size))
    clear hb U R Bt
    go_wp2_with (first | ((with_reducible refine ldId 31 (.tmp 1) ?_); refine wpList_load_row (by rfl) 31 (.tmp 1) (by rfl) w.heap.size (by rfl) 31 _ (0, 0) _ (by exact U2.out) Tryz.underlying31 (by rfl) (by exact size_desc) ?_))
    refine (WA.out _).mono ?_; rintro e w3 ⟨rfl, hb⟩
    have R3 := hidB (R2.out.on hb)
    have B3 := hidB (B2.out.trans (hb.mono B2.out.size))
    clear hb U2 R2 B2
    go_wp2_with (first | ((with_reducible refine wpId ?_); refine wpList_store_row (by rfl) 31 (.tmp 2) (.tmp 12) (by rfl) (w.heap.size + 1) d.whole.cs (by rfl) (by rfl) 31 DI.zero.cs (by exact R3.out) (by exact size_desc) (by rfl) (by exact DI.one _) ?_))
    exact bodyPost_ret (v := .tuple #[d.whole.a, .int .i64 0]) (results_row2 Tryz.results105 _ _ (w.heap.size + 1) 31 d.whole.cs (0, 0) _ rfl (R3.out.setRow _) Tryz.underlying31 rfl size_desc) rfl ⟨rfl, below_setRow B3.out (by omega) _⟩
  · rw [if_neg he]
    have hne : (d.err != 0) = true := by rw [bne_iff_ne]; exact he
    generalize d.err = er at *
    clear he
    go_enter Tryz.func105, Tryz.ntmps105
    go_upto_region 1 with fail
    generalize ((w.alloc (.cells d.cs 31)).alloc (.cells #[.int .u8 0, .int .u8 0, .float .f64 0, .string ⟨#[]⟩, .int .i64 0, .int .u8 0, .float .f64 0, .string ⟨#[]⟩, .int .i64 0, .int .u8 0, .float .f64 0, .string ⟨#[]⟩, .int .i64 0, .bool false, .bool false, .bool false] 31)) = w1 at *
    go_wp2_with (first | ((with_reducible refine ldId 31 (.tmp 1) ?_); refine wpList_load_row (by rfl) 31 (.tmp 1) (by rfl) w.heap.size (by rfl) 31 _ (0, 0) _ (by exact U.out) Tryz.underlying31 (by rfl) (by exact size_desc) ?_))
    refine (CA.out _).mono ?_; rintro e w2 ⟨rfl, hb⟩
    have R2 := hidB (R.out.on hb)
    have B2 := hidB (Bt.out.trans (hb.mono Bt.out.size))
    clear hb U R Bt
    go_wp2_with (first | ((with_reducible refine wpId ?_); refine wpList_store_row (by rfl) 31 (.tmp 2) (.tmp 9) (by rfl) (w.heap.size + 1) DI.zero.cs (by rfl) (by rfl) 31 DI.zero.cs (by exact R2.out) (by exact size_desc) (by rfl) (by exact DI.one _) ?_))
    exact bodyPost_ret (v := .tuple #[DI.zero.a, .int .i64 er]) (results_row2 Tryz.results105 _ _ (w.heap.size + 1) 31 DI.zero.cs (0, 0) _ rfl (R2.out.setRow _) Tryz.underlying31 rfl size_desc) rfl ⟨rfl, below_setRow B2.out (by omega) _⟩
  
/-- Complete as it stands. -/
def DI.isW (d : DI) : Bool := (d.err == 0) && (d.com.has == d.has)
end Go.Proofs.YtbmaodlghglopaaGreatDoor

namespace Go.Proofs.YtbmaodlghglopaaGreatDoor
open Go.RowKit

/-- A property. -/
structure PI where
  k : KI
  d : DI
abbrev PI.cs (p : PI) : Array Value := #[.string p.k.s, .int .i64 p.k.n, .int .u8 p.d.has, .int .u8 p.d.v.k, .float .f64 p.d.v.x, .string p.d.v.s, .int .i64 p.d.v.r, .int .u8 p.d.g.k, .float .f64 p.d.g.x, .string p.d.g.s, .int .i64 p.d.g.r, .int .u8 p.d.t.k, .float .f64 p.d.t.x, .string p.d.t.s, .int .i64 p.d.t.r, .bool p.d.wr, .bool p.d.en, .bool p.d.cf]
abbrev PI.a (p : PI) : Value := .agg p.cs
/-- A slice of properties that can be read. -/
def RdP (l : List PI) (v : Value) (w : World) : Prop := ∃ pa c, v = .slice pa l.length c ∧ l.length ≤ c ∧ c ≤ maxLen ∧ (0 < l.length → ∃ g o, pa = some ⟨g, o, none⟩ ∧ g < w.heap.size ∧ ∀ i (h : i < l.length), w.rangeAt g (o + i * 18) l[i].cs.toList)
theorem RdP.on {l : List PI} {v : Value} {w w1 : World} (h : RdP l v w) (hb : Below w.heap.size w w1) : RdP l v w1 := by
  obtain ⟨pa, c, h1, h2, h3, h4⟩ := h
  refine ⟨pa, c, h1, h2, h3, fun h0 => ?_⟩
  obtain ⟨g, o, e, hg, hx⟩ := h4 h0
  exact ⟨g, o, e, Nat.lt_of_lt_of_le hg hb.size, fun i hi => rangeOn hb hg (hx i hi)⟩
def PI.err (p : PI) (seen : List KI) : Int := if p.k.ok then (if p.d.isW then (if seen.any (KI.eq p.k) then 100 else 0) else 90) else 9
/-- The error of a list of properties. -/
def tabG : List KI → List PI → Int
  | _, [] => 0
  | seen, p :: l => if p.err seen = 0 then tabG (seen ++ [p.k]) l else p.err seen
def tabE (l : List PI) : Int := if 1024 < l.length then 4 else tabG [] l
theorem tabG_step {l : List PI} {k : Nat} (h : k < l.length) : tabG ((l.take k).map PI.k) (l.drop k) = if l[k].err ((l.take k).map PI.k) = 0 then tabG ((l.take (k + 1)).map PI.k) (l.drop (k + 1)) else l[k].err ((l.take k).map PI.k) := by
  rw [List.drop_eq_getElem_cons h, tabG, List.take_succ_eq_append_getElem h, List.map_append]; rfl
/-- A map of just the keys so far, bound to numbers above nought. -/
def Seen (w : World) (b : Nat) (ks : List KI) : Prop := ∃ m, MapK w b m ∧ m.map (·.1) = ks ∧ ∀ p, p ∈ m → 0 < p.2
theorem Seen.on {w w1 : World} {b : Nat} {ks : List KI} (h : Seen w b ks) (hb : Below w.heap.size w w1) : Seen w1 b ks := by
  obtain ⟨m, h1, h2, h3⟩ := h
  exact ⟨m, h1.on hb, h2, h3⟩
theorem find_none {k : KI} {m : List (KI × Int)} (h : (m.map (·.1)).any (KI.eq k) = false) : findK k m = none := by
  unfold findK
  rw [Option.map_eq_none_iff, List.find?_eq_none]
  intro p hp he
  rw [List.any_eq_false] at h
  exact h p.1 (List.mem_map_of_mem hp) he
theorem find_some {k : KI} {m : List (KI × Int)} (h : (m.map (·.1)).any (KI.eq k) = true) (hp : ∀ p, p ∈ m → 0 < p.2) : ∃ n, findK k m = some n ∧ 0 < n := by
  rw [List.any_eq_true] at h
  obtain ⟨q, hq, he⟩ := h
  obtain ⟨p, hpm, rfl⟩ := List.mem_map.1 hq
  unfold findK
  cases hf : m.find? (fun p => KI.eq k p.1) with
  | none => rw [List.find?_eq_none] at hf; exact absurd he (hf p hpm)
  | some r => exact ⟨r.2, rfl, hp r (List.mem_of_find?_eq_some hf)⟩
/-- Is a key among those so far? -/
theorem seen_lookup {w : World} {b : Nat} {ks : List KI} (h : Seen w b ks) (k : KI) : ∃ n, (Instr.lookup 132 (.map (some b)) k.a false).run Tryz.prog w = .ok (.int .i64 n) w ∧ decide (n > 0) = ks.any (KI.eq k) := by
  obtain ⟨m, h1, rfl, h3⟩ := h
  refine ⟨_, run_lookupK k h1, ?_⟩
  cases ha : (m.map (·.1)).any (KI.eq k)
  · rw [find_none ha]; rfl
  · obtain ⟨n, hn, h0⟩ := find_some ha h3
    rw [hn]; exact decide_eq_true h0
/-- A new key put in. -/
theorem seen_update {w : World} {b : Nat} {ks : List KI} (h : Seen w b ks) (k : KI) (n : Int) (hn : 0 < n) (ha : ks.any (KI.eq k) = false) : ∃ w1, (Instr.mapUpdate 132 (.map (some b)) k.a (.int .i64 n)).run Tryz.prog w = .ok () w1 ∧ Seen w1 b (ks ++ [k]) ∧ ∀ B w0, B ≤ b → Below B w0 w → Below B w0 w1 := by
  obtain ⟨m, h1, rfl, h3⟩ := h
  obtain ⟨w1, hr, hm, ho, ht, hu, hs, hx⟩ := run_updateK k n h1 (find_none ha)
  refine ⟨w1, hr, ⟨_, hm, by simp, fun p hp => ?_⟩, fun B w0 hB hb => ⟨ho.trans hb.os, ht.trans hb.tape, hu.trans hb.output, by rw [hs]; exact hb.size, fun g hg => (hx g (by omega)).trans (hb.block g hg)⟩⟩
  rcases List.mem_append.1 hp with h | h
  · exact h3 p h
  · rw [List.mem_singleton.1 h]; exact hn
theorem seen_new (w : World) : Seen (w.alloc (.map #[] 0)) w.heap.size [] := ⟨[], MapK.new w, rfl, fun p hp => by cases hp⟩
/-- A key's property. -/
def findP (l : List PI) (k : KI) : Option PI := l.find? (fun p => KI.eq p.k k)

end Go.Proofs.YtbmaodlghglopaaGreatDoor
