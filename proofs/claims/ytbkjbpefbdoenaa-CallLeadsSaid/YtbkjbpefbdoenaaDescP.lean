/-
  Descriptors: plain, and as the walks have them.
-/
import Derived.Test.YtbkjbpefbdoenaaStrict
import Derived.Test.YtbkjbpefbdoenaaEqS
import Derived.Test.YtbkjbpefbdoenaaBlk
import Derived.Test.YtbkjbpefbdoenaaBlocks
import Derived.Deep.MidRow
import Derived.Deep.CutRange
import Derived.Deep.CutBlock
import Derived.Deep.QuietTactic
import Derived.BigQuiet
import Derived.Deep.RegionHeld3
namespace Go.Proofs.Ytbkjbpefbdoenaa
open Go.RowKit

theorem hidB {p : Prop} (h : p) : Hid p := h
theorem box_one (w : World) (o : Obj) : Below w.heap.size w (w.alloc o) := (Below.refl _ _).alloc (Nat.le_refl _) _

/-- A value. -/
structure VI where
  k : Int
  x : Nat
  s : ByteArray
  r : Int
abbrev VI.a (v : VI) : Value := val v.k v.x v.s v.r
abbrev VI.cells (v : VI) : List Value := [.int .u8 v.k, .float .f64 v.x, .string v.s, .int .i64 v.r]
def VI.may (v : VI) : Bool := mayV v.k v.x v.s v.r
def VI.zero : VI := ⟨0, 0, ⟨#[]⟩, 0⟩
/-- Equal to the zero value, by '=='. -/
def VI.isZ (v : VI) : Bool := (v.k == 0) && ((FloatKind.f64.format.order v.x 0 == some .eq) && (v.s.toList.isEmpty && (v.r == 0)))
def VI.called (v : VI) : Bool := v.may && ((v.k == 0) || isCal v.k)
/-- A descriptor. -/
structure DI where
  has : Int
  v : VI
  g : VI
  t : VI
  wr : Bool
  en : Bool
  cf : Bool
abbrev DI.cs (d : DI) : Array Value := #[.int .u8 d.has, .int .u8 d.v.k, .float .f64 d.v.x, .string d.v.s, .int .i64 d.v.r, .int .u8 d.g.k, .float .f64 d.g.x, .string d.g.s, .int .i64 d.g.r, .int .u8 d.t.k, .float .f64 d.t.x, .string d.t.s, .int .i64 d.t.r, .bool d.wr, .bool d.en, .bool d.cf]
abbrev DI.a (d : DI) : Value := .agg d.cs
def DI.zero : DI := ⟨0, .zero, .zero, .zero, false, false, false⟩
def hasB (n : Int) (b : Int) : Bool := bits .and .u8 n b != 0
def lackB (n : Int) (b : Int) : Bool := bits .and .u8 (bits .xor .u8 IntKind.u8.max n) b != 0
def DI.data (d : DI) : Bool := hasB d.has 3
def DI.acc (d : DI) : Bool := hasB d.has 12
def DI.bad1 (d : DI) : Bool := (bits .andNot .u8 d.has 63 != 0) || (d.data && d.acc) || !d.v.may || !d.g.called || !d.t.called
def DI.bad2 (d : DI) : Bool := (lackB d.has 1 && !d.v.isZ) || (lackB d.has 4 && !d.g.isZ) || (lackB d.has 8 && !d.t.isZ)
def DI.bad3 (d : DI) : Bool := (lackB d.has 2 && d.wr) || (lackB d.has 16 && d.en) || (lackB d.has 32 && d.cf)
/-- The error of a descriptor. -/
def DI.err (d : DI) : Int := if d.bad1 || (d.bad2 || d.bad3) then 90 else 0
/-- Its kinds are bytes. -/
def DI.ok (d : DI) : Prop := 0 ≤ d.v.k ∧ 0 ≤ d.g.k ∧ 0 ≤ d.t.k
def wholeH (n : Int) : Int := if hasB n 12 then bits .or .u8 n 60 else bits .or .u8 n 51
def DI.whole (d : DI) : DI := { d with has := wholeH d.has }

/-! ### values compared by '==' -/

theorem fields_val : ((Try.prog.fieldsOf 24).toList.map (fun f => (f.name, f.type, f.offset)) == [("Kind", 5, 0), ("Num", 22, 1), ("Str", 9, 2), ("Ref", 3, 3)]) = true := by kernel_rfl
theorem under_val : Try.prog.underlying 24 = some (.struct (Try.prog.fieldsOf 24)) := by kernel_rfl
theorem stood_val : Try.prog.stoodInHeld 24 = false := by kernel_rfl
theorem guard_val : Try.prog.eqGuardType Try.prog.depth 24 = false := by kernel_rfl
def eqV (k k' : Int) (x y : Nat) (s s' : ByteArray) (r r' : Int) : Bool := (k == k') && ((FloatKind.f64.format.order x y == some .eq) && ((s.toList == s'.toList) && (r == r')))
theorem equal_val (d : Nat) (k k' : Int) (x y : Nat) (s s' : ByteArray) (r r' : Int) (w : World) : (Op.equalIn (d + 2) 24 (.agg #[.int .u8 k, .float .f64 x, .string s, .int .i64 r]) (.agg #[.int .u8 k', .float .f64 y, .string s', .int .i64 r'])).run Try.prog w =
    .ok (eqV k k' x y s s' r r') w := by
  unfold eqV
  rw [run_equalIn_struct _ _ _ _ _ under_val stood_val]
  have hf := eq_of_beq fields_val
  generalize (Try.prog.fieldsOf 24).toList = fs at *
  rcases fs with _ | ⟨f0, _ | ⟨f1, _ | ⟨f2, _ | ⟨f3, _ | ⟨f4, fs⟩⟩⟩⟩⟩
  case cons.cons.cons.cons.nil =>
    simp only [List.map_cons, List.map_nil, List.cons.injEq, Prod.mk.injEq, and_true] at hf
    obtain ⟨⟨a0, b0, c0⟩, ⟨a1, b1, c1⟩, ⟨a2, b2, c2⟩, ⟨a3, b3, c3⟩⟩ := hf
    rw [eqF_plain (a := .int .u8 k) (b := .int .u8 k') (by rw [a0]; decide) (by rw [b0]; kernel_rfl) (by rw [c0]; rfl) (by rw [c0]; rfl) (by intro w; rw [b0]; exact run_equalIn_int w d _ .u8 .u8 _ _ (by kernel_rfl)),
      eqF_plain (a := .float .f64 x) (b := .float .f64 y) (by rw [a1]; decide) (by rw [b1]; kernel_rfl) (by rw [c1]; rfl) (by rw [c1]; rfl) (by intro w; rw [b1]; exact eqS_float d _ _ _ .f64 (by kernel_rfl) w),
      eqF_plain (a := .string s) (b := .string s') (by rw [a2]; decide) (by rw [b2]; kernel_rfl) (by rw [c2]; rfl) (by rw [c2]; rfl) (by intro w; rw [b2]; exact run_equalIn_string w d _ _ _ (by kernel_rfl)),
      eqF_plain (a := .int .i64 r) (b := .int .i64 r') (by rw [a3]; decide) (by rw [b3]; kernel_rfl) (by rw [c3]; rfl) (by rw [c3]; rfl) (by intro w; rw [b3]; exact run_equalIn_int w d _ .i64 .i64 _ _ (by kernel_rfl)), eqF_nil]
    cases k == k' <;> cases (FloatKind.f64.format.order x y == some .eq) <;> cases s.toList == s'.toList <;> cases r == r' <;> rfl
  all_goals (exfalso; simp at hf)
theorem eqV_zero (k : Int) (x : Nat) (s : ByteArray) (r : Int) : eqV k 0 x 0 s ⟨#[]⟩ r 0 = VI.isZ ⟨k, x, s, r⟩ := by
  unfold eqV VI.isZ
  have e : (s.toList == (⟨#[]⟩ : ByteArray).toList) = s.toList.isEmpty := by
    rw [show (⟨#[]⟩ : ByteArray).toList = [] from by rw [ByteArray.toList_eq]]
    cases s.toList <;> rfl
  rw [e]

/-! ### loads under a guard that says yes -/

section
variable {P : Program} {ops : Array Oper} {rest : List Oper} {o : Oper} {a : Act} {w : World} {Q : Exit → Act → World → Prop}
/-- (A guard for the arms of a walk: 'with_reducible refine wpId ?_' goes through at a list of operations alone.) -/
theorem wpId (h : wpList P ops Q (o :: rest) a w) : wpList P ops Q (o :: rest) a w := h
/-- (The same, at a load of this type through this slot alone: what follows costs seconds where it does not fit.) -/
theorem ldId (ty : TypeId) (x : Operand) {dst : Option Tmp} {type : TypeId} {pos : String} {after : Array Edge} {g : Option (Nat × Bool)} (h : wpList P ops Q ({ dst := dst, op := .load ty x, type := type, pos := pos, after := after, guard := g } :: rest) a w) : wpList P ops Q ({ dst := dst, op := .load ty x, type := type, pos := pos, after := after, guard := g } :: rest) a w := h
theorem wpList_wanted (hw : Region.wanted o (yielded ops a.tmps) = true) (h : ∀ K : Act → World → Prop, (∀ a w, wpList P ops Q rest a w → K a w) → o.wp P a w K Q) : wpList P ops Q (o :: rest) a w :=
  wpList_step fun K hK => by rw [if_pos hw]; exact h K hK
theorem wpList_wload_row (ty : TypeId) (x : Operand) (ho : o.op = .load ty x) (hw : Region.wanted o (yielded ops a.tmps) = true)
    (g : Nat) (hx : a.eval x = .pointer (some ⟨g, 0, none⟩)) (t : TypeId) (cs : Array Value) (fr : Nat × Nat) (d : TypeDesc) (hg : w.heap[g]? = some (.cells cs t fr))
    (hu : P.underlying ty = some d) (hd : (match d with | .struct _ | .array _ _ => true | _ => false) = true) (hi : (P.info? ty).map (·.size) = some cs.size)
    (h : wpList P ops Q rest (a.put o.dst (.agg cs)) w) : wpList P ops Q (o :: rest) a w :=
  wpList_wanted hw fun _ hK => wp_load_row ty x ho g hx t cs fr d hg hu hd hi (hK _ _ h)
theorem wpList_wload_mid (ty : TypeId) (x : Operand) (ho : o.op = .load ty x) (hw : Region.wanted o (yielded ops a.tmps) = true)
    (b oo : Nat) (hx : a.eval x = .pointer (some ⟨b, oo, none⟩)) (cs : List Value) (d : TypeDesc) (hc : w.rangeAt b oo cs)
    (hu : P.underlying ty = some d) (hd : d.isRow = true) (hi : (P.info? ty).map (·.size) = some cs.length)
    (h : wpList P ops Q rest (a.put o.dst (.agg cs.toArray)) w) : wpList P ops Q (o :: rest) a w :=
  wpList_wanted hw fun _ hK => wp_load_mid ty x ho b oo hx cs d hc hu hd hi (hK _ _ h)
end

end Go.Proofs.Ytbkjbpefbdoenaa
