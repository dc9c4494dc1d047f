/-
  Keys, lists of keys, prototypes: the walks of key.Check, post.keys, post.holds, post.proto.
  Maps from keys to integers: read and written.
  Descriptors: the walk of desc.Check.
-/
import Derived.Test.YtbmaodlghglopaaGreatDoorDescWalk
import Derived.BigGuardPart
import Derived.ChangeKeysEq
namespace Go.Proofs.YtbmaodlghglopaaGreatDoor
open Go.RowKit

/-- A key. -/
structure KI where
  s : ByteArray
  n : Int
abbrev KI.cells (k : KI) : List Value := [.string k.s, .int .i64 k.n]
abbrev KI.a (k : KI) : Value := .agg #[.string k.s, .int .i64 k.n]
def KI.ok (k : KI) : Bool := !(decide (k.n < 0) || decide (4096 < k.s.size) || (decide (0 < k.n) && !k.s.toList.isEmpty))
def KI.eq (a b : KI) : Bool := (a.s.toList == b.s.toList) && (a.n == b.n)
def KI.err (k : KI) : Int := if k.ok then 0 else 9
/-- A slice of keys that can be read. -/
def RdK (l : List KI) (v : Value) (w : World) : Prop := ∃ pa c, v = .slice pa l.length c ∧ l.length ≤ c ∧ c ≤ maxLen ∧ (0 < l.length → ∃ g o, pa = some ⟨g, o, none⟩ ∧ g < w.heap.size ∧ ∀ i (h : i < l.length), w.rangeAt g (o + i * 2) l[i].cells)
theorem rangeOn {w w1 : World} (hb : Below w.heap.size w w1) {g o : Nat} {cs : List Value} (hg : g < w.heap.size) (h : w.rangeAt g o cs) : w1.rangeAt g o cs := by
  intro j v hj
  rw [hb.cell (p := ⟨g, o + j, none⟩) hg]
  exact h j v hj
theorem RdK.on {l : List KI} {v : Value} {w w1 : World} (h : RdK l v w) (hb : Below w.heap.size w w1) : RdK l v w1 := by
  obtain ⟨pa, c, h1, h2, h3, h4⟩ := h
  refine ⟨pa, c, h1, h2, h3, fun h0 => ?_⟩
  obtain ⟨g, o, e, hg, hx⟩ := h4 h0
  exact ⟨g, o, e, Nat.lt_of_lt_of_le hg hb.size, fun i hi => rangeOn hb hg (hx i hi)⟩
theorem KI.two {k : KI} {w : World} {g o : Nat} (h : w.rangeAt g o k.cells) : w.cell? ⟨g, o, none⟩ = some (.string k.s) ∧ w.cell? ⟨g, o + 1, none⟩ = some (.int .i64 k.n) := ⟨h 0 _ rfl, h 1 _ rfl⟩
/-! ### keys compared -/

theorem fields_key : ((Tryz.prog.fieldsOf 26).toList.map (fun f => (f.name, f.type, f.offset)) == [("Str", 9, 0), ("Sym", 3, 1)]) = true := by kernel_rfl
theorem under_key : Tryz.prog.underlying 26 = some (.struct (Tryz.prog.fieldsOf 26)) := by kernel_rfl
theorem stood_key : Tryz.prog.stoodInHeld 26 = false := by kernel_rfl
theorem equal_key (d : Nat) (a b : KI) (w : World) : (Op.equalIn (d + 2) 26 (.agg #[.string a.s, .int .i64 a.n]) (.agg #[.string b.s, .int .i64 b.n])).run Tryz.prog w = .ok (KI.eq a b) w := by
  unfold KI.eq
  rw [run_equalIn_struct _ _ _ _ _ under_key stood_key]
  have hf := eq_of_beq fields_key
  generalize (Tryz.prog.fieldsOf 26).toList = fs at *
  rcases fs with _ | ⟨f0, _ | ⟨f1, _ | ⟨f2, fs⟩⟩⟩
  case cons.cons.nil =>
    simp only [List.map_cons, List.map_nil, List.cons.injEq, Prod.mk.injEq, and_true] at hf
    obtain ⟨⟨a0, b0, c0⟩, ⟨a1, b1, c1⟩⟩ := hf
    rw [eqF_plain (a := .string a.s) (b := .string b.s) (by rw [a0]; decide) (by rw [b0]; kernel_rfl) (by rw [c0]; rfl) (by rw [c0]; rfl) (by intro w; rw [b0]; exact run_equalIn_string w d _ _ _ (by kernel_rfl)),
      eqF_plain (a := .int .i64 a.n) (b := .int .i64 b.n) (by rw [a1]; decide) (by rw [b1]; kernel_rfl) (by rw [c1]; rfl) (by rw [c1]; rfl) (by intro w; rw [b1]; exact run_equalIn_int w d _ .i64 .i64 _ _ (by kernel_rfl)), eqF_nil]
    cases a.s.toList == b.s.toList <;> cases a.n == b.n <;> rfl
  all_goals (exfalso; simp at hf)

set_option maxHeartbeats 4000000 in
set_option maxRecDepth 100000 in
theorem keyCheck_any (k : KI) (w : World) : Calls Tryz.prog 31 #[k.a] w fun e w' => e = .returned (.int .i64 k.err) ∧ Below w.heap.size w w' := by
  obtain ⟨s, n⟩ := k
  unfold KI.err KI.ok
  simp only
  by_cases h1 : n < 0
  · rw [decide_eq_true h1]
    go_enter Tryz.func31, Tryz.ntmps31
    go_wp2_with fail
    go_ret
    exact ⟨rfl, box_one _ _⟩
  · rw [decide_eq_false h1]
    by_cases h2 : 4096 < s.size
    · have h2i : (4096 : Int) < (s.size : Int) := by omega
      rw [decide_eq_true h2]
      go_enter Tryz.func31, Tryz.ntmps31
      go_wp2_with fail
      go_ret
      exact ⟨rfl, box_one _ _⟩
    · have h2i : ¬ (4096 : Int) < (s.size : Int) := by omega
      rw [decide_eq_false h2]
      by_cases h3 : 0 < n
      · rw [decide_eq_true h3]
        cases h4 : s.toList.isEmpty
        all_goals
          go_enter Tryz.func31, Tryz.ntmps31
          go_wp2_with fail
          go_ret
          exact ⟨rfl, box_one _ _⟩
      · rw [decide_eq_false h3]
        go_enter Tryz.func31, Tryz.ntmps31
        go_wp2_with fail
        go_ret
        exact ⟨rfl, box_one _ _⟩
  
end Go.Proofs.YtbmaodlghglopaaGreatDoor

namespace Go.Proofs.YtbmaodlghglopaaGreatDoor
open Go.RowKit

/-- Block 'b' is a map of just these entries, in this order. -/
def MapK (w : World) (b : Nat) (l : List (KI × Int)) : Prop := ∃ es clock, w.heap[b]? = some (.map es clock) ∧ es.toList.map (fun e => (e.key, e.val)) = l.map (fun p => (p.1.a, Value.int .i64 p.2))
theorem MapK.lt {w : World} {b : Nat} {l : List (KI × Int)} (h : MapK w b l) : b < w.heap.size := by
  obtain ⟨es, c, h, _⟩ := h
  rcases Nat.lt_or_ge b w.heap.size with hl | hg
  · exact hl
  · rw [Array.getElem?_eq_none hg] at h; cases h
theorem MapK.on {w w1 : World} {b : Nat} {l : List (KI × Int)} (h : MapK w b l) (hb : Below w.heap.size w w1) : MapK w1 b l := by
  obtain ⟨es, c, h1, h2⟩ := h
  exact ⟨es, c, (hb.block b (MapK.lt ⟨es, c, h1, h2⟩)).trans h1, h2⟩
theorem MapK.alloc {w : World} {b : Nat} {l : List (KI × Int)} (h : MapK w b l) (o : Obj) : MapK (w.alloc o) b l := h.on (box_one w o)
theorem MapK.new (w : World) : MapK (w.alloc (.map #[] 0)) w.heap.size [] := ⟨#[], 0, (MapKept.heap_alloc w _).1, rfl⟩
/-- What a key is bound to. -/
def findK (k : KI) (l : List (KI × Int)) : Option Int := (l.find? (fun p => KI.eq k p.1)).map (·.2)
theorem run_equalK (a b : KI) (w : World) : (Op.equal 26 a.a b.a).run Tryz.prog w = .ok (KI.eq a b) w := equal_key 9998 a b w
theorem run_findAsking (k : KI) (w : World) : ∀ (es : List MapEntry) (l : List (KI × Int)) (i : Nat), es.map (fun e => (e.key, e.val)) = l.map (fun p => (p.1.a, Value.int .i64 p.2)) →
    ∃ r, (Instr.findAsking 26 k.a es i).run Tryz.prog w = .ok r w ∧ r.map (·.2) = (findK k l).map (Value.int .i64)
  | [], [], i, _ => ⟨none, rfl, rfl⟩
  | [], _ :: _, _, h => by cases h
  | _ :: _, [], _, h => by cases h
  | e :: es, p :: l, i, h => by
    simp only [List.map_cons, List.cons.injEq, Prod.mk.injEq] at h
    obtain ⟨⟨h1, h2⟩, h3⟩ := h
    unfold Instr.findAsking
    rw [Sem.run_bind, h1, run_equalK]
    simp only [Result.andThen_ok]
    cases he : KI.eq k p.1
    · obtain ⟨r, hr, hv⟩ := run_findAsking k w es l (i + 1) h3
      refine ⟨r, by simpa using hr, ?_⟩
      rw [hv]
      unfold findK
      rw [List.find?_cons, he]
    · refine ⟨some (i, e.val), by simp, ?_⟩
      unfold findK
      rw [List.find?_cons, he, h2]; rfl
theorem run_checkK (b : Bool) (k : KI) (w : World) : (Instr.checkKey b 10000 26 k.a).run Tryz.prog w = .ok () w := by kernel_rfl
theorem under_mapK : Tryz.prog.underlying 132 = some (.map 26 3) := by kernel_rfl
theorem findNowK (k : KI) (w : World) (es : List MapEntry) : ∃ o, (Tryz.prog.underlying 26) = some o ∧ (es ≠ [] → Instr.findNow o k.a es 0 = none) := by
  refine ⟨_, under_key, fun h => ?_⟩
  cases es with
  | nil => exact absurd rfl h
  | cons e es => rfl
theorem run_findKeyK (k : KI) (w : World) (es : List MapEntry) (l : List (KI × Int)) (h : es.map (fun e => (e.key, e.val)) = l.map (fun p => (p.1.a, Value.int .i64 p.2))) :
    ∃ r, (Instr.findKey 26 k.a es).run Tryz.prog w = .ok r w ∧ r.map (·.2) = (findK k l).map (Value.int .i64) := by
  obtain ⟨o, ho, hn⟩ := findNowK k w es
  unfold Instr.findKey
  rw [Sem.run_bind, run_underlying ho]
  simp only [Result.andThen_ok]
  cases es with
  | nil =>
    cases l with
    | nil => exact ⟨none, rfl, rfl⟩
    | cons p l => cases h
  | cons e es =>
    rw [hn (by simp)]
    exact run_findAsking k w _ l 0 h
theorem run_zero_int (w : World) : (zeroValue 3).run Tryz.prog w = .ok (.int .i64 0) w := by kernel_rfl
/-- A key looked up. -/
theorem run_lookupK (k : KI) {w : World} {b : Nat} {l : List (KI × Int)} (h : MapK w b l) : (Instr.lookup 132 (.map (some b)) k.a false).run Tryz.prog w = .ok (.int .i64 ((findK k l).getD 0)) w := by
  obtain ⟨es, c, h1, h2⟩ := h
  obtain ⟨r, hr, hv⟩ := run_findKeyK k w es.toList l h2
  unfold Instr.lookup
  simp only [Sem.run_bind, run_underlying under_mapK, Result.andThen_ok, MapKept.run_getObj_map h1, Sem.run_pure, run_checkK, hr]
  cases r with
  | none =>
    have hv : findK k l = none := by cases hf : findK k l with | none => rfl | some v => rw [hf] at hv; cases hv
    simp only [Sem.run_bind, run_zero_int, Result.andThen_ok, Sem.run_pure, hv]
    rfl
  | some p =>
    obtain ⟨v, hf, e⟩ : ∃ v, findK k l = some v ∧ Value.int .i64 v = p.2 := by
      cases hf : findK k l with
      | none => rw [hf] at hv; cases hv
      | some v => rw [hf] at hv; exact ⟨v, rfl, (Option.some.inj hv).symm⟩
    simp only [Result.andThen_ok, Sem.run_pure, hf, ← e]
    rfl
/-- A new key put in. -/
theorem run_updateK (k : KI) (n : Int) {w : World} {b : Nat} {l : List (KI × Int)} (h : MapK w b l) (hn : findK k l = none) : ∃ w1, (Instr.mapUpdate 132 (.map (some b)) k.a (.int .i64 n)).run Tryz.prog w = .ok () w1 ∧ MapK w1 b (l ++ [(k, n)]) ∧ w1.os = w.os ∧ w1.tape = w.tape ∧ w1.output = w.output ∧ w1.heap.size = w.heap.size ∧ (∀ g, g ≠ b → w1.heap[g]? = w.heap[g]?) := by
  obtain ⟨es, c, h1, h2⟩ := h
  obtain ⟨r, hr, hv⟩ := run_findKeyK k w es.toList l h2
  have hr0 : r = none := by
    cases r with
    | none => rfl
    | some p => rw [hn] at hv; cases hv
  subst hr0
  have hb : b < w.heap.size := MapK.lt ⟨es, c, h1, h2⟩
  refine ⟨{ w with heap := w.heap.setIfInBounds b (.map (es.push { key := k.a, val := .int .i64 n, born := c }) (c + 1)) }, ?_, ⟨es.push { key := k.a, val := .int .i64 n, born := c }, c + 1, by simp [hb], ?_⟩, rfl, rfl, rfl, by simp, fun g hg => by simp [Array.getElem?_setIfInBounds, Ne.symm hg]⟩
  · unfold Instr.mapUpdate
    simp only [Sem.run_bind, run_underlying under_mapK, Result.andThen_ok, MapKept.run_getObj_map h1, run_checkK, hr]
    exact MapKept.run_setObj_map _ h1
  · simp [h2]
end Go.Proofs.YtbmaodlghglopaaGreatDoor

namespace Go.Proofs.YtbmaodlghglopaaGreatDoor
open Go.RowKit

set_option maxHeartbeats 20000000 in
set_option maxRecDepth 100000 in
theorem descCheck_any (d : DI) (hd : d.ok) (w : World) : Calls Tryz.prog 32 #[d.a] w fun e w' => e = .returned (.int .i64 d.err) ∧ Below w.heap.size w w' := by
  have DA := hidB (fun W => isData_any d W)
  have AA := hidB (fun W => isAccess_any d W)
  have MA := hidB (fun W => vmay_any d.v.k d.v.x d.v.s d.v.r hd.1 W)
  have GA := hidB (fun W => called_any d.g hd.2.1 W)
  have TA := hidB (fun W => called_any d.t hd.2.2 W)
  have EV : Hid (∀ W : World, (Op.equalIn 10000 29 (.agg #[.int .u8 d.v.k, .float .f64 d.v.x, .string d.v.s, .int .i64 d.v.r]) (.agg #[.int .u8 0, .float .f64 0, .string ⟨#[]⟩, .int .i64 0])).run Tryz.prog W = .ok (VI.isZ d.v) W) := hidB (fun W => (equal_val 9998 d.v.k 0 d.v.x 0 d.v.s ⟨#[]⟩ d.v.r 0 W).trans (by rw [eqV_zero]))
  have EG : Hid (∀ W : World, (Op.equalIn 10000 29 (.agg #[.int .u8 d.g.k, .float .f64 d.g.x, .string d.g.s, .int .i64 d.g.r]) (.agg #[.int .u8 0, .float .f64 0, .string ⟨#[]⟩, .int .i64 0])).run Tryz.prog W = .ok (VI.isZ d.g) W) := hidB (fun W => (equal_val 9998 d.g.k 0 d.g.x 0 d.g.s ⟨#[]⟩ d.g.r 0 W).trans (by rw [eqV_zero]))
  have ET : Hid (∀ W : World, (Op.equalIn 10000 29 (.agg #[.int .u8 d.t.k, .float .f64 d.t.x, .string d.t.s, .int .i64 d.t.r]) (.agg #[.int .u8 0, .float .f64 0, .string ⟨#[]⟩, .int .i64 0])).run Tryz.prog W = .ok (VI.isZ d.t) W) := hidB (fun W => (equal_val 9998 d.t.k 0 d.t.x 0 d.t.s ⟨#[]⟩ d.t.r 0 W).trans (by rw [eqV_zero]))
  unfold DI.err DI.bad1 DI.bad2 DI.bad3 DI.data DI.acc hasB lackB VI.may
  obtain ⟨hs, v, g, t, wr, en, cf⟩ := d
  clear hd
  simp only at DA AA MA GA TA EV EG ET ⊢
  generalize h1 : (bits .andNot .u8 hs 63 != 0) = b0 at *
  generalize h2 : (bits .and .u8 hs 3 != 0) = bd at *
  generalize h3 : (bits .and .u8 hs 12 != 0) = ba at *
  generalize mayV v.k v.x v.s v.r = mv at *
  generalize g.called = cg at *
  generalize t.called = ct at *
  generalize hz1 : VI.isZ v = zv at *
  generalize hz2 : VI.isZ g = zg at *
  generalize hz3 : VI.isZ t = zt at *
  clear hz1 hz2 hz3 h2 h3
  generalize l1 : (bits .and .u8 (bits .xor .u8 IntKind.u8.max hs) 1 != 0) = k1 at *
  generalize l2 : (bits .and .u8 (bits .xor .u8 IntKind.u8.max hs) 2 != 0) = k2 at *
  generalize l4 : (bits .and .u8 (bits .xor .u8 IntKind.u8.max hs) 4 != 0) = k4 at *
  generalize l8 : (bits .and .u8 (bits .xor .u8 IntKind.u8.max hs) 8 != 0) = k8 at *
  generalize l16 : (bits .and .u8 (bits .xor .u8 IntKind.u8.max hs) 16 != 0) = k16 at *
  generalize l32 : (bits .and .u8 (bits .xor .u8 IntKind.u8.max hs) 32 != 0) = k32 at *
  obtain ⟨q1, e1⟩ : ∃ q, q = (b0 || (bd && ba) || !mv || !cg || !ct) := ⟨_, rfl⟩
  obtain ⟨q2, e2⟩ : ∃ q, q = ((k1 && !zv) || (k4 && !zg) || (k8 && !zt)) := ⟨_, rfl⟩
  obtain ⟨q3, e3⟩ : ∃ q, q = ((k2 && wr) || (k16 && en) || (k32 && cf)) := ⟨_, rfl⟩
  rw [← e1, ← e2, ← e3]
  have E1 := hidB e1
  have E2 := hidB e2
  have E3 := hidB e3
  clear e1 e2 e3
  have U := hidB (Bk.new w 31 #[.int .u8 (hs), .int .u8 v.k, .float .f64 v.x, .string v.s, .int .i64 v.r, .int .u8 g.k, .float .f64 g.x, .string g.s, .int .i64 g.r, .int .u8 t.k, .float .f64 t.x, .string t.s, .int .i64 t.r, .bool wr, .bool en, .bool cf])
  have Bt := hidB (box_one w (.cells #[.int .u8 (hs), .int .u8 v.k, .float .f64 v.x, .string v.s, .int .i64 v.r, .int .u8 g.k, .float .f64 g.x, .string g.s, .int .i64 g.r, .int .u8 t.k, .float .f64 t.x, .string t.s, .int .i64 t.r, .bool wr, .bool en, .bool cf] 31))
  go_enter Tryz.func32, Tryz.ntmps32
  go_upto_region 3 with fail
  go_cut [1, 36] from 0 to 95 (fun s1 s36 wx => s1 = .pointer (some ⟨w.heap.size, 0, none⟩) ∧ s36 = .bool q1 ∧ Bk wx w.heap.size 31 #[.int .u8 (hs), .int .u8 v.k, .float .f64 v.x, .string v.s, .int .i64 v.r, .int .u8 g.k, .float .f64 g.x, .string g.s, .int .i64 g.r, .int .u8 t.k, .float .f64 t.x, .string t.s, .int .i64 t.r, .bool wr, .bool en, .bool cf] ∧ Below w.heap.size w wx)
  case first =>
    clear E2 E3 EV EG ET l1 l2 l4 l8 l16 l32
    go_wp2_with (first | ((with_reducible refine ldId 31 (.tmp 1) ?_); refine wpList_load_row (by rfl) 31 (.tmp 1) (by rfl) w.heap.size (by rfl) 31 _ (0, 0) _ (by exact U.out) Tryz.underlying31 (by rfl) (by kernel_rfl) ?_) | ((with_reducible refine ldId 31 (.tmp 1) ?_); refine wpList_wload_row 31 (.tmp 1) (by rfl) (by rfl) w.heap.size (by rfl) 31 _ (0, 0) _ (by exact U.out) Tryz.underlying31 (by rfl) (by kernel_rfl) ?_) | (go_at_call 8; refine (DA.out _).mono ?_; rintro e wn ⟨rfl, hb⟩; replace U := hidB (U.out.on hb); replace Bt := hidB (Bt.out.trans (hb.mono Bt.out.size)); clear hb) | (go_at_call 50; refine (AA.out _).mono ?_; rintro e wn ⟨rfl, hb⟩; replace U := hidB (U.out.on hb); replace Bt := hidB (Bt.out.trans (hb.mono Bt.out.size)); clear hb) | ((with_reducible refine ldId 29 (.tmp 20) ?_); refine wpList_load_mid (by rfl) 29 (.tmp 20) (by rfl) w.heap.size 1 (by rfl) v.cells _ (by exact U.out.mid 1 _ rfl) Tryz.underlying29 (by rfl) (by kernel_rfl) ?_) | ((with_reducible refine ldId 29 (.tmp 20) ?_); refine wpList_wload_mid 29 (.tmp 20) (by rfl) (by rfl) w.heap.size 1 (by rfl) v.cells _ (by exact U.out.mid 1 _ rfl) Tryz.underlying29 (by rfl) (by kernel_rfl) ?_) | ((with_reducible refine ldId 29 (.tmp 26) ?_); refine wpList_load_mid (by rfl) 29 (.tmp 26) (by rfl) w.heap.size 5 (by rfl) g.cells _ (by exact U.out.mid 5 _ rfl) Tryz.underlying29 (by rfl) (by kernel_rfl) ?_) | ((with_reducible refine ldId 29 (.tmp 26) ?_); refine wpList_wload_mid 29 (.tmp 26) (by rfl) (by rfl) w.heap.size 5 (by rfl) g.cells _ (by exact U.out.mid 5 _ rfl) Tryz.underlying29 (by rfl) (by kernel_rfl) ?_) | ((with_reducible refine ldId 29 (.tmp 32) ?_); refine wpList_load_mid (by rfl) 29 (.tmp 32) (by rfl) w.heap.size 9 (by rfl) t.cells _ (by exact U.out.mid 9 _ rfl) Tryz.underlying29 (by rfl) (by kernel_rfl) ?_) | ((with_reducible refine ldId 29 (.tmp 32) ?_); refine wpList_wload_mid 29 (.tmp 32) (by rfl) (by rfl) w.heap.size 9 (by rfl) t.cells _ (by exact U.out.mid 9 _ rfl) Tryz.underlying29 (by rfl) (by kernel_rfl) ?_) | (go_at_call 51; refine (MA.out _).mono ?_; rintro e wn ⟨rfl, hb⟩; replace U := hidB (U.out.on hb); replace Bt := hidB (Bt.out.trans (hb.mono Bt.out.size)); clear hb) | (go_at_call 52; (first | ((with_reducible refine (GA.out _).mono ?_) ; rintro e wn ⟨rfl, hb⟩; replace U := hidB (U.out.on hb); replace Bt := hidB (Bt.out.trans (hb.mono Bt.out.size)); clear hb) | ((with_reducible refine (TA.out _).mono ?_) ; rintro e wn ⟨rfl, hb⟩; replace U := hidB (U.out.on hb); replace Bt := hidB (Bt.out.trans (hb.mono Bt.out.size)); clear hb))))
    all_goals
      go_meet
      case rel => exact ⟨rfl, congrArg Value.bool (by rw [E1.out]; simp [*]), U.out, Bt.out⟩
  case rest =>
  obtain ⟨rfl, rfl, hU, hb⟩ := hcut
  replace U := hidB hU
  replace Bt := hidB hb
  clear hU hb E1
  cases q1
  · skip
    obtain ⟨x0, _, _, _, _, _, _, _, _, _, _, _, _, y13, y14, y15, _⟩ := Bk.facts16 U.out
    have z1 : Tryz.prog.eqGuardType Tryz.prog.depth 29 = false := by kernel_rfl
    have sg : IntKind.u8.signed = false := rfl
    go_upto_region 6 with fail
    go_cut [4, 70] from 2 to 95 (fun s4 s70 wx => s4 = .int .u8 (bits .xor .u8 IntKind.u8.max hs) ∧ s70 = .bool q2 ∧ wc = wx)
    case first =>
      clear E3
      have V1 := EV.out
      have V2 := EG.out
      have V3 := ET.out
      go_wp2_with (first | ((with_reducible refine ldId 29 (.tmp 44) ?_); refine wpList_load_mid (by rfl) 29 (.tmp 44) (by rfl) w.heap.size 1 (by rfl) v.cells _ (by exact U.out.mid 1 _ rfl) Tryz.underlying29 (by rfl) (by kernel_rfl) ?_) | ((with_reducible refine ldId 29 (.tmp 44) ?_); refine wpList_wload_mid 29 (.tmp 44) (by rfl) (by rfl) w.heap.size 1 (by rfl) v.cells _ (by exact U.out.mid 1 _ rfl) Tryz.underlying29 (by rfl) (by kernel_rfl) ?_) | ((with_reducible refine ldId 29 (.tmp 54) ?_); refine wpList_load_mid (by rfl) 29 (.tmp 54) (by rfl) w.heap.size 5 (by rfl) g.cells _ (by exact U.out.mid 5 _ rfl) Tryz.underlying29 (by rfl) (by kernel_rfl) ?_) | ((with_reducible refine ldId 29 (.tmp 54) ?_); refine wpList_wload_mid 29 (.tmp 54) (by rfl) (by rfl) w.heap.size 5 (by rfl) g.cells _ (by exact U.out.mid 5 _ rfl) Tryz.underlying29 (by rfl) (by kernel_rfl) ?_) | ((with_reducible refine ldId 29 (.tmp 65) ?_); refine wpList_load_mid (by rfl) 29 (.tmp 65) (by rfl) w.heap.size 9 (by rfl) t.cells _ (by exact U.out.mid 9 _ rfl) Tryz.underlying29 (by rfl) (by kernel_rfl) ?_) | ((with_reducible refine ldId 29 (.tmp 65) ?_); refine wpList_wload_mid 29 (.tmp 65) (by rfl) (by rfl) w.heap.size 9 (by rfl) t.cells _ (by exact U.out.mid 9 _ rfl) Tryz.underlying29 (by rfl) (by kernel_rfl) ?_))
      all_goals
        go_meet
        case rel => exact ⟨rfl, congrArg Value.bool (by rw [E2.out]; simp [*]), rfl⟩
    case rest =>
    obtain ⟨rfl, rfl, rfl⟩ := hcut
    clear E2 EV EG ET
    cases q2
    · skip
      go_upto_region 8 with fail
      go_cut [95] from 2 to 95 (fun s95 wx => s95 = .bool q3 ∧ wc = wx)
      case first =>
        go_wp2_with fail
        all_goals
          go_meet
          case rel => exact ⟨congrArg Value.bool (by rw [E3.out]; simp [*]), rfl⟩
      case rest =>
      obtain ⟨rfl, rfl⟩ := hcut
      clear E3
      cases q3
      all_goals
        go_wp2_with fail
        go_ret
        exact ⟨rfl, Bt.out⟩
    · go_wp2_with fail
      go_ret
      exact ⟨rfl, Bt.out⟩
  · go_wp2_with fail
    go_ret
    exact ⟨rfl, Bt.out⟩

end Go.Proofs.YtbmaodlghglopaaGreatDoor
