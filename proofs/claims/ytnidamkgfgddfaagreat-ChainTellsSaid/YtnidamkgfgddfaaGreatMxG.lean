/-
  Sameness: the program's Strict and Same, the reference's.
  Structs compared by '==', field by field.
  Small laws on blocks that a call has made: a literal array built, stored whole into a new block.
  Descriptors: plain, and as the walks have them.
-/
import Derived.Test.YtnidamkgfgddfaaGreatMxE
import Derived.Test.YtnidamkgfgddfaaGreatRows
import Derived.WalkKit
import Derived.Laws.StructEq
import Derived.Laws.Tables
import Derived.Laws.Rows
import Derived.Deep.MidRow
import Derived.Deep.CutRange
import Derived.Deep.CutBlock
import Derived.Deep.QuietTactic
import Derived.BigQuiet
import Derived.Deep.RegionHeld3
namespace Go.Proofs.YtnidamkgfgddfaaGreat
open Go.RowKit

/-- === -/
def strictV (k1 : Int) (x1 : Nat) (s1 : ByteArray) (r1 : Int) (k2 : Int) (x2 : Nat) (s2 : ByteArray) (r2 : Int) : Bool :=
  if isObj k1 = true ∧ isObj k2 = true then r1 == r2
  else if k1 ≠ k2 then false
  else if k1 = 0 ∨ k1 = 1 then true
  else if k1 = 2 ∨ k1 = 3 then FloatKind.f64.format.order x1 x2 == some .eq
  else if k1 = 4 then s1.toList == s2.toList
  else if k1 = 5 then r1 == r2
  else false
/-- SameValue. -/
def sameV (k1 : Int) (x1 : Nat) (s1 : ByteArray) (r1 : Int) (k2 : Int) (x2 : Nat) (s2 : ByteArray) (r2 : Int) : Bool :=
  if k1 = 3 ∧ k2 = 3 ∧ Fl.isNaN x1 = true then Fl.isNaN x2 else strictV k1 x1 s1 r1 k2 x2 s2 r2

theorem strict_obj {k1 k2 : Int} (x1 : Nat) (s1 : ByteArray) (r1 : Int) (x2 : Nat) (s2 : ByteArray) (r2 : Int) (h1 : isObj k1 = true) (h2 : isObj k2 = true) : strictV k1 x1 s1 r1 k2 x2 s2 r2 = (r1 == r2) := by
  unfold strictV; rw [if_pos ⟨h1, h2⟩]
theorem strict_ne {k1 k2 : Int} (x1 : Nat) (s1 : ByteArray) (r1 : Int) (x2 : Nat) (s2 : ByteArray) (r2 : Int) (h : ¬ (isObj k1 = true ∧ isObj k2 = true)) (hk : k1 ≠ k2) : strictV k1 x1 s1 r1 k2 x2 s2 r2 = false := by
  unfold strictV; rw [if_neg h, if_pos hk]
theorem strict_eq {k : Int} (x1 : Nat) (s1 : ByteArray) (r1 : Int) (x2 : Nat) (s2 : ByteArray) (r2 : Int) (h : isObj k = false) : strictV k x1 s1 r1 k x2 s2 r2 = if k = 0 ∨ k = 1 then true else if k = 2 ∨ k = 3 then FloatKind.f64.format.order x1 x2 == some .eq else if k = 4 then s1.toList == s2.toList else if k = 5 then r1 == r2 else false := by
  unfold strictV; rw [if_neg (by simp [h]), if_neg (by simp)]
theorem obj_kinds {k : Int} (h0 : 0 ≤ k) (h : isObj k = false) : k = 0 ∨ k = 1 ∨ k = 2 ∨ k = 3 ∨ k = 4 ∨ k = 5 ∨ 8 < k := by
  unfold isObj at h
  rw [Bool.and_eq_false_iff, decide_eq_false_iff_not, decide_eq_false_iff_not] at h
  omega

/-- Two boxes. -/
theorem below2 (w : World) (a b : Obj) : Below w.heap.size w ((w.alloc a).alloc b) := ((Below.refl _ _).alloc (Nat.le_refl _) _).alloc (by simp) _

/-- What lies behind a callee that only made memory. -/
theorem cells_of {W w1 : World} (hb : Below W.heap.size W w1) : (∀ b o, b < W.heap.size → w1.cell? ⟨b, o, none⟩ = W.cell? ⟨b, o, none⟩) ∧ (∀ b o, b < W.heap.size → w1.frozen? ⟨b, o, none⟩ = W.frozen? ⟨b, o, none⟩) := bcell hb

end Go.Proofs.YtnidamkgfgddfaaGreat

namespace Go.Proofs.YtnidamkgfgddfaaGreat
open Go.RowKit

section
variable {P : Program}
theorem eqS_float (d : Nat) (t : TypeId) (a b : Nat) (k' : FloatKind) (h : P.underlying t = some (.float k')) (w : World) : (Op.equalIn (d + 1) t (.float .f64 a) (.float .f64 b)).run P w = .ok (FloatKind.f64.format.order a b == some .eq) w := by
  simp [Op.equalIn, run_underlying h, Op.floatEq]

/-- Is a type one cell wide, and no struct or array? -/
def plainT (P : Program) (t : TypeId) : Bool := match P.underlying t with | some (.struct _) => false | some (.array _ _) => false | none => false | _ => true
theorem part_plain {t : TypeId} (h : plainT P t = true) {cs : Array Value} {o : Nat} {v : Value} (hv : cs[o]? = some v) (w : World) : (part t cs o).run P w = .ok v w := by
  unfold plainT at h
  cases hu : P.underlying t with
  | none => rw [hu] at h; cases h
  | some d =>
    have hA : (isAgg t).run P w = .ok false w := by
      rw [hu] at h
      simp only [isAgg, Sem.run_bind, run_underlying hu, Result.andThen_ok]
      cases d <;> first | rfl | cases h
    simp only [part, Sem.run_bind, hA, Result.andThen_ok, hv]
    rfl
theorem eqF_plain {d : Nat} {xs ys : Array Value} {f : Field} {fs : List Field} {a b : Value} {r : Bool} (hn : f.name ≠ "_") (hp : plainT P f.type = true) (hx : xs[f.offset]? = some a) (hy : ys[f.offset]? = some b) (he : ∀ w, (Op.equalIn d f.type a b).run P w = .ok r w) (w : World) :
    (Op.eqFields d xs ys (f :: fs)).run P w = if r then (Op.eqFields d xs ys fs).run P w else .ok false w := by
  simp only [Op.eqFields, if_pos hn, Sem.run_bind, part_plain hp hx, part_plain hp hy, Result.andThen_ok, he, Sem.run_ite]
  cases r <;> rfl
theorem eqF_nil {d : Nat} {xs ys : Array Value} (w : World) : (Op.eqFields d xs ys []).run P w = .ok true w := rfl
end

end Go.Proofs.YtnidamkgfgddfaaGreat

namespace Go.Proofs.YtnidamkgfgddfaaGreat
open Go.RowKit

theorem hidN {p : Prop} (h : p) : Hid p := h

theorem wpList_build_to {P : Program} {ops : Array Oper} {rest : List Oper} {o : Oper} {a : Act} {w : World} {Q : Exit → Act → World → Prop} (hg : o.guard = none) (t : TypeId) (parts : Array (Nat × Operand)) (ho : o.op = .build t parts)
    (cells : Array Value) (hf : P.built t (parts.map fun (i, x) => (i, a.eval x)).toList = some cells)
    (h : wpList P ops Q rest (a.put o.dst (.agg cells)) w) : wpList P ops Q (o :: rest) a w :=
  wpList_build hg t parts ho (by rw [hf]; rfl) (by rw [hf]; exact h)

theorem alloc_at (w : World) (o : Obj) : (w.alloc o).heap[w.heap.size]? = some o := (MapKept.heap_alloc w o).1

theorem modify_push (hp : Array Obj) (old cs : Array Value) (t : TypeId) (f : Obj → Obj) (hf : f (.cells old t) = .cells cs t) : (hp.push (.cells old t)).modify hp.size f = hp.push (.cells cs t) := by
  apply Array.ext_getElem?
  intro i
  rw [Array.getElem?_modify]
  by_cases hi : hp.size = i
  · subst hi; simp [hf]
  · rw [if_neg hi, Array.getElem?_push, Array.getElem?_push, if_neg (by omega), if_neg (by omega)]

theorem modify_push2 (hp : Array Obj) (o : Obj) (k : Nat) (hk : k < hp.size) (f : Obj → Obj) : (hp.push o).modify k f = (hp.modify k f).push o := by
  apply Array.ext_getElem?
  intro i
  rw [Array.getElem?_modify, Array.getElem?_push, Array.getElem?_push, Array.getElem?_modify, Array.size_modify]
  by_cases hi : k = i
  · subst hi; simp [show k ≠ hp.size by omega]
  · simp [hi]

theorem setRow_alloc (w : World) (old cs : Array Value) (t : TypeId) : (w.alloc (.cells old t)).setRow w.heap.size cs = w.alloc (.cells cs t) := by
  unfold World.setRow World.alloc
  simp only
  congr 1
  exact modify_push _ _ _ _ _ rfl

theorem setRow_alloc2 (w : World) (o : Obj) (k : Nat) (hk : k < w.heap.size) (cs : Array Value) : (w.alloc o).setRow k cs = (w.setRow k cs).alloc o := by
  unfold World.setRow World.alloc
  simp only
  congr 1
  exact modify_push2 _ _ _ hk _

/-- A row stored into the block that has just been made. -/
theorem wpList_store_new {P : Program} {ops : Array Oper} {rest : List Oper} {o : Oper} {a : Act} {w : World} {Q : Exit → Act → World → Prop} (hgd : o.guard = none) (ty : TypeId) (x y : Operand) (ho : o.op = .store ty x y)
    (cells : Array Value) (t : TypeId) (old : Array Value) (hx : a.eval x = .pointer (some ⟨w.heap.size, 0, none⟩)) (hy : a.eval y = .agg cells)
    (hi : (P.info? ty).map (·.size) = some cells.size) (hold : old.size = cells.size) (h1 : cells.all (·.oneCell') = true)
    (h : wpList P ops Q rest (a.put o.dst undef) (w.alloc (.cells cells t))) : wpList P ops Q (o :: rest) a (w.alloc (.cells old t)) :=
  wpList_store_row hgd ty x y ho w.heap.size cells hx hy t old (alloc_at w _) hi hold h1 (by rw [setRow_alloc]; exact h)

/-- The same, another block having been made behind it. -/
theorem wpList_store_new2 {P : Program} {ops : Array Oper} {rest : List Oper} {o : Oper} {a : Act} {w : World} {Q : Exit → Act → World → Prop} (hgd : o.guard = none) (ty : TypeId) (x y : Operand) (ho : o.op = .store ty x y)
    (cells : Array Value) (t : TypeId) (old : Array Value) (o2 : Obj) (hx : a.eval x = .pointer (some ⟨w.heap.size, 0, none⟩)) (hy : a.eval y = .agg cells)
    (hi : (P.info? ty).map (·.size) = some cells.size) (hold : old.size = cells.size) (h1 : cells.all (·.oneCell') = true)
    (h : wpList P ops Q rest (a.put o.dst undef) ((w.alloc (.cells cells t)).alloc o2)) : wpList P ops Q (o :: rest) a ((w.alloc (.cells old t)).alloc o2) :=
  wpList_store_row hgd ty x y ho w.heap.size cells hx hy t old (by rw [← alloc_at w (.cells old t)]; exact Below.heap_alloc _ _ _ (by simp)) hi hold h1 (by rw [setRow_alloc2 _ _ _ (by simp), setRow_alloc]; exact h)

/-- A row stored into the block that has just been made, its number spelt otherwise. -/
theorem wpList_store_at {P : Program} {ops : Array Oper} {rest : List Oper} {o : Oper} {a : Act} {w : World} {Q : Exit → Act → World → Prop} (hgd : o.guard = none) (ty : TypeId) (x y : Operand) (ho : o.op = .store ty x y) (g : Nat) (hg : g = w.heap.size)
    (cells : Array Value) (t : TypeId) (old : Array Value) (hx : a.eval x = .pointer (some ⟨g, 0, none⟩)) (hy : a.eval y = .agg cells)
    (hi : (P.info? ty).map (·.size) = some cells.size) (hold : old.size = cells.size) (h1 : cells.all (·.oneCell') = true)
    (h : wpList P ops Q rest (a.put o.dst undef) (w.alloc (.cells cells t))) : wpList P ops Q (o :: rest) a (w.alloc (.cells old t)) := by
  subst hg
  exact wpList_store_new hgd ty x y ho cells t old hx hy hi hold h1 h

end Go.Proofs.YtnidamkgfgddfaaGreat

namespace Go.Proofs.YtnidamkgfgddfaaGreat
open Go.RowKit

theorem hidB {p : Prop} (h : p) : Hid p := h
theorem box_one (w : World) (o : Obj) : Below w.heap.size w (w.alloc o) := (Below.refl _ _).alloc (Nat.le_refl _) _

/-- A value. -/
structure VI where
  k : Int
  x : Nat
  s : ByteArray
  r : Int
abbrev VI.a (v : VI) : Value := val v.k v.x v.s v.r
abbrev VI.cells (v : VI) : List Value := [.int .u8 v.k, .float .f64 v.x, .string v.s, .int .i64 v.r]
def VI.may (v : VI) : Bool := mayV v.k v.x v.s v.r
def VI.zero : VI := ⟨0, 0, ⟨#[]⟩, 0⟩
/-- Equal to the zero value, by '=='. -/
def VI.isZ (v : VI) : Bool := (v.k == 0) && ((FloatKind.f64.format.order v.x 0 == some .eq) && (v.s.toList.isEmpty && (v.r == 0)))
def VI.called (v : VI) : Bool := v.may && ((v.k == 0) || isCal v.k)
/-- A descriptor. -/
structure DI where
  has : Int
  v : VI
  g : VI
  t : VI
  wr : Bool
  en : Bool
  cf : Bool
abbrev DI.cs (d : DI) : Array Value := #[.int .u8 d.has, .int .u8 d.v.k, .float .f64 d.v.x, .string d.v.s, .int .i64 d.v.r, .int .u8 d.g.k, .float .f64 d.g.x, .string d.g.s, .int .i64 d.g.r, .int .u8 d.t.k, .float .f64 d.t.x, .string d.t.s, .int .i64 d.t.r, .bool d.wr, .bool d.en, .bool d.cf]
abbrev DI.a (d : DI) : Value := .agg d.cs
def DI.zero : DI := ⟨0, .zero, .zero, .zero, false, false, false⟩
def hasB (n : Int) (b : Int) : Bool := bits .and .u8 n b != 0
def lackB (n : Int) (b : Int) : Bool := bits .and .u8 (bits .xor .u8 IntKind.u8.max n) b != 0
def DI.data (d : DI) : Bool := hasB d.has 3
def DI.acc (d : DI) : Bool := hasB d.has 12
def DI.bad1 (d : DI) : Bool := (bits .andNot .u8 d.has 63 != 0) || (d.data && d.acc) || !d.v.may || !d.g.called || !d.t.called
def DI.bad2 (d : DI) : Bool := (lackB d.has 1 && !d.v.isZ) || (lackB d.has 4 && !d.g.isZ) || (lackB d.has 8 && !d.t.isZ)
def DI.bad3 (d : DI) : Bool := (lackB d.has 2 && d.wr) || (lackB d.has 16 && d.en) || (lackB d.has 32 && d.cf)
/-- The error of a descriptor. -/
def DI.err (d : DI) : Int := if d.bad1 || (d.bad2 || d.bad3) then 90 else 0
/-- Its kinds are bytes. -/
def DI.ok (d : DI) : Prop := 0 ≤ d.v.k ∧ 0 ≤ d.g.k ∧ 0 ≤ d.t.k
def wholeH (n : Int) : Int := if hasB n 12 then bits .or .u8 n 60 else bits .or .u8 n 51
def DI.whole (d : DI) : DI := { d with has := wholeH d.has }

/-! ### values compared by '==' -/

theorem fields_val : ((Tryz.prog.fieldsOf 43).toList.map (fun f => (f.name, f.type, f.offset)) == [("Kind", 5, 0), ("Num", 41, 1), ("Str", 9, 2), ("Ref", 3, 3)]) = true := by kernel_rfl
theorem under_val : Tryz.prog.underlying 43 = some (.struct (Tryz.prog.fieldsOf 43)) := by kernel_rfl
theorem stood_val : Tryz.prog.stoodInHeld 43 = false := by kernel_rfl
theorem guard_val : Tryz.prog.eqGuardType Tryz.prog.depth 43 = false := by kernel_rfl
def eqV (k k' : Int) (x y : Nat) (s s' : ByteArray) (r r' : Int) : Bool := (k == k') && ((FloatKind.f64.format.order x y == some .eq) && ((s.toList == s'.toList) && (r == r')))
theorem equal_val (d : Nat) (k k' : Int) (x y : Nat) (s s' : ByteArray) (r r' : Int) (w : World) : (Op.equalIn (d + 2) 43 (.agg #[.int .u8 k, .float .f64 x, .string s, .int .i64 r]) (.agg #[.int .u8 k', .float .f64 y, .string s', .int .i64 r'])).run Tryz.prog w =
    .ok (eqV k k' x y s s' r r') w := by
  unfold eqV
  rw [run_equalIn_struct _ _ _ _ _ under_val stood_val]
  have hf := eq_of_beq fields_val
  generalize (Tryz.prog.fieldsOf 43).toList = fs at *
  rcases fs with _ | ⟨f0, _ | ⟨f1, _ | ⟨f2, _ | ⟨f3, _ | ⟨f4, fs⟩⟩⟩⟩⟩
  case cons.cons.cons.cons.nil =>
    simp only [List.map_cons, List.map_nil, List.cons.injEq, Prod.mk.injEq, and_true] at hf
    obtain ⟨⟨a0, b0, c0⟩, ⟨a1, b1, c1⟩, ⟨a2, b2, c2⟩, ⟨a3, b3, c3⟩⟩ := hf
    rw [eqF_plain (a := .int .u8 k) (b := .int .u8 k') (by rw [a0]; decide) (by rw [b0]; kernel_rfl) (by rw [c0]; rfl) (by rw [c0]; rfl) (by intro w; rw [b0]; exact run_equalIn_int w d _ .u8 .u8 _ _ (by kernel_rfl)),
      eqF_plain (a := .float .f64 x) (b := .float .f64 y) (by rw [a1]; decide) (by rw [b1]; kernel_rfl) (by rw [c1]; rfl) (by rw [c1]; rfl) (by intro w; rw [b1]; exact eqS_float d _ _ _ .f64 (by kernel_rfl) w),
      eqF_plain (a := .string s) (b := .string s') (by rw [a2]; decide) (by rw [b2]; kernel_rfl) (by rw [c2]; rfl) (by rw [c2]; rfl) (by intro w; rw [b2]; exact run_equalIn_string w d _ _ _ (by kernel_rfl)),
      eqF_plain (a := .int .i64 r) (b := .int .i64 r') (by rw [a3]; decide) (by rw [b3]; kernel_rfl) (by rw [c3]; rfl) (by rw [c3]; rfl) (by intro w; rw [b3]; exact run_equalIn_int w d _ .i64 .i64 _ _ (by kernel_rfl)), eqF_nil]
    cases k == k' <;> cases (FloatKind.f64.format.order x y == some .eq) <;> cases s.toList == s'.toList <;> cases r == r' <;> rfl
  all_goals (exfalso; simp at hf)
theorem eqV_zero (k : Int) (x : Nat) (s : ByteArray) (r : Int) : eqV k 0 x 0 s ⟨#[]⟩ r 0 = VI.isZ ⟨k, x, s, r⟩ := by
  unfold eqV VI.isZ
  have e : (s.toList == (⟨#[]⟩ : ByteArray).toList) = s.toList.isEmpty := by
    rw [show (⟨#[]⟩ : ByteArray).toList = [] from by rw [ByteArray.toList_eq]]
    cases s.toList <;> rfl
  rw [e]

/-! ### loads under a guard that says yes -/

section
variable {P : Program} {ops : Array Oper} {rest : List Oper} {o : Oper} {a : Act} {w : World} {Q : Exit → Act → World → Prop}
/-- (A guard for the arms of a walk: 'with_reducible refine wpId ?_' goes through at a list of operations alone.) -/
theorem wpId (h : wpList P ops Q (o :: rest) a w) : wpList P ops Q (o :: rest) a w := h
/-- (The same, at a load of this type through this slot alone: what follows costs seconds where it does not fit.) -/
theorem ldId (ty : TypeId) (x : Operand) {dst : Option Tmp} {type : TypeId} {pos : String} {after : Array Edge} {g : Option (Nat × Bool)} (h : wpList P ops Q ({ dst := dst, op := .load ty x, type := type, pos := pos, after := after, guard := g } :: rest) a w) : wpList P ops Q ({ dst := dst, op := .load ty x, type := type, pos := pos, after := after, guard := g } :: rest) a w := h
theorem wpList_wanted (hw : Region.wanted o (yielded ops a.tmps) = true) (h : ∀ K : Act → World → Prop, (∀ a w, wpList P ops Q rest a w → K a w) → o.wp P a w K Q) : wpList P ops Q (o :: rest) a w :=
  wpList_step fun K hK => by rw [if_pos hw]; exact h K hK
theorem wpList_wload_row (ty : TypeId) (x : Operand) (ho : o.op = .load ty x) (hw : Region.wanted o (yielded ops a.tmps) = true)
    (g : Nat) (hx : a.eval x = .pointer (some ⟨g, 0, none⟩)) (t : TypeId) (cs : Array Value) (fr : Nat × Nat) (d : TypeDesc) (hg : w.heap[g]? = some (.cells cs t fr))
    (hu : P.underlying ty = some d) (hd : (match d with | .struct _ | .array _ _ => true | _ => false) = true) (hi : (P.info? ty).map (·.size) = some cs.size)
    (h : wpList P ops Q rest (a.put o.dst (.agg cs)) w) : wpList P ops Q (o :: rest) a w :=
  wpList_wanted hw fun _ hK => wp_load_row ty x ho g hx t cs fr d hg hu hd hi (hK _ _ h)
theorem wpList_wload_mid (ty : TypeId) (x : Operand) (ho : o.op = .load ty x) (hw : Region.wanted o (yielded ops a.tmps) = true)
    (b oo : Nat) (hx : a.eval x = .pointer (some ⟨b, oo, none⟩)) (cs : List Value) (d : TypeDesc) (hc : w.rangeAt b oo cs)
    (hu : P.underlying ty = some d) (hd : d.isRow = true) (hi : (P.info? ty).map (·.size) = some cs.length)
    (h : wpList P ops Q rest (a.put o.dst (.agg cs.toArray)) w) : wpList P ops Q (o :: rest) a w :=
  wpList_wanted hw fun _ hK => wp_load_mid ty x ho b oo hx cs d hc hu hd hi (hK _ _ h)
end

end Go.Proofs.YtnidamkgfgddfaaGreat
