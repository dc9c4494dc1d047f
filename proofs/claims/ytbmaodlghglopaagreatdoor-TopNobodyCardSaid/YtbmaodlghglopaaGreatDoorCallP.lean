/-
  Asks, outcomes, objects, wants; what a call of the machine leaves as it was.
-/
import Derived.Test.YtbmaodlghglopaaGreatDoorMxF
import Derived.Test.YtbmaodlghglopaaGreatDoorTab
import Derived.Test.YtbmaodlghglopaaGreatDoorMxG
import Derived.Test.YtbmaodlghglopaaGreatDoorHBare
namespace Go.Proofs.YtbmaodlghglopaaGreatDoor
open Go.RowKit

/-- An ask; an outcome; an object; a want. -/
structure AI where
  m : Int
  ob : Int
  k : KI
  d : DI
  v : VI
  r : VI
  args : Value
abbrev AI.cs (a : AI) : Array Value := #[.int .u8 a.m, .int .i64 a.ob, .string a.k.s, .int .i64 a.k.n, .int .u8 a.d.has, .int .u8 a.d.v.k, .float .f64 a.d.v.x, .string a.d.v.s, .int .i64 a.d.v.r, .int .u8 a.d.g.k, .float .f64 a.d.g.x, .string a.d.g.s, .int .i64 a.d.g.r, .int .u8 a.d.t.k, .float .f64 a.d.t.x, .string a.d.t.s, .int .i64 a.d.t.r, .bool a.d.wr, .bool a.d.en, .bool a.d.cf, .int .u8 a.v.k, .float .f64 a.v.x, .string a.v.s, .int .i64 a.v.r, .int .u8 a.r.k, .float .f64 a.r.x, .string a.r.s, .int .i64 a.r.r, a.args]
abbrev AI.a (a : AI) : Value := .agg a.cs
structure OI where
  kd : Int
  v : VI
  b : Bool
  fo : Bool
  d : DI
  keys : Value
  er : Int
  tx : ByteArray
abbrev OI.cs (x : OI) : Array Value := #[.int .u8 x.kd, .int .u8 x.v.k, .float .f64 x.v.x, .string x.v.s, .int .i64 x.v.r, .bool x.b, .bool x.fo, .int .u8 x.d.has, .int .u8 x.d.v.k, .float .f64 x.d.v.x, .string x.d.v.s, .int .i64 x.d.v.r, .int .u8 x.d.g.k, .float .f64 x.d.g.x, .string x.d.g.s, .int .i64 x.d.g.r, .int .u8 x.d.t.k, .float .f64 x.d.t.x, .string x.d.t.s, .int .i64 x.d.t.r, .bool x.d.wr, .bool x.d.en, .bool x.d.cf, x.keys, .int .u8 x.er, .string x.tx]
abbrev OI.a (x : OI) : Value := .agg x.cs
structure JI where
  kd : Int
  pr : VI
  ext : Bool
  props : Value
  tg : VI
  hd : VI
  tx : ByteArray
  ca : Bool
  ma : Bool
abbrev JI.cs (o : JI) : Array Value := #[.int .u8 o.kd, .int .u8 o.pr.k, .float .f64 o.pr.x, .string o.pr.s, .int .i64 o.pr.r, .bool o.ext, o.props, .int .u8 o.tg.k, .float .f64 o.tg.x, .string o.tg.s, .int .i64 o.tg.r, .int .u8 o.hd.k, .float .f64 o.hd.x, .string o.hd.s, .int .i64 o.hd.r, .string o.tx, .bool o.ca, .bool o.ma]
abbrev JI.a (o : JI) : Value := .agg o.cs
structure WI where
  kd : Int
  ask : AI
  fn : VI
  th : VI
  fr : VI
  args : Value
  ob : JI
  out : OI
abbrev WI.cs (t : WI) : Array Value := #[.int .u8 t.kd, .int .u8 t.ask.m, .int .i64 t.ask.ob, .string t.ask.k.s, .int .i64 t.ask.k.n, .int .u8 t.ask.d.has, .int .u8 t.ask.d.v.k, .float .f64 t.ask.d.v.x, .string t.ask.d.v.s, .int .i64 t.ask.d.v.r, .int .u8 t.ask.d.g.k, .float .f64 t.ask.d.g.x, .string t.ask.d.g.s, .int .i64 t.ask.d.g.r, .int .u8 t.ask.d.t.k, .float .f64 t.ask.d.t.x, .string t.ask.d.t.s, .int .i64 t.ask.d.t.r, .bool t.ask.d.wr, .bool t.ask.d.en, .bool t.ask.d.cf, .int .u8 t.ask.v.k, .float .f64 t.ask.v.x, .string t.ask.v.s, .int .i64 t.ask.v.r, .int .u8 t.ask.r.k, .float .f64 t.ask.r.x, .string t.ask.r.s, .int .i64 t.ask.r.r, t.ask.args, .int .u8 t.fn.k, .float .f64 t.fn.x, .string t.fn.s, .int .i64 t.fn.r, .int .u8 t.th.k, .float .f64 t.th.x, .string t.th.s, .int .i64 t.th.r, .int .u8 t.fr.k, .float .f64 t.fr.x, .string t.fr.s, .int .i64 t.fr.r, t.args, .int .u8 t.ob.kd, .int .u8 t.ob.pr.k, .float .f64 t.ob.pr.x, .string t.ob.pr.s, .int .i64 t.ob.pr.r, .bool t.ob.ext, t.ob.props, .int .u8 t.ob.tg.k, .float .f64 t.ob.tg.x, .string t.ob.tg.s, .int .i64 t.ob.tg.r, .int .u8 t.ob.hd.k, .float .f64 t.ob.hd.x, .string t.ob.hd.s, .int .i64 t.ob.hd.r, .string t.ob.tx, .bool t.ob.ca, .bool t.ob.ma, .int .u8 t.out.kd, .int .u8 t.out.v.k, .float .f64 t.out.v.x, .string t.out.v.s, .int .i64 t.out.v.r, .bool t.out.b, .bool t.out.fo, .int .u8 t.out.d.has, .int .u8 t.out.d.v.k, .float .f64 t.out.d.v.x, .string t.out.d.v.s, .int .i64 t.out.d.v.r, .int .u8 t.out.d.g.k, .float .f64 t.out.d.g.x, .string t.out.d.g.s, .int .i64 t.out.d.g.r, .int .u8 t.out.d.t.k, .float .f64 t.out.d.t.x, .string t.out.d.t.s, .int .i64 t.out.d.t.r, .bool t.out.d.wr, .bool t.out.d.en, .bool t.out.d.cf, t.out.keys, .int .u8 t.out.er, .string t.out.tx]
abbrev WI.a (t : WI) : Value := .agg t.cs
def KI.zero : KI := ⟨⟨#[]⟩, 0⟩
abbrev vNil : Value := .slice none 0 0
def AI.zero : AI := ⟨0, 0, .zero, .zero, .zero, .zero, vNil⟩
def OI.zero : OI := ⟨0, .zero, false, false, .zero, vNil, 0, ⟨#[]⟩⟩
def JI.zero : JI := ⟨0, .zero, false, vNil, .zero, .zero, ⟨#[]⟩, false, false⟩
def WI.zero : WI := ⟨0, .zero, .zero, .zero, .zero, vNil, .zero, .zero⟩
theorem one_int (k : IntKind) (n : Int) : (Value.int k n).oneCell' = true := rfl
theorem one_float (k : FloatKind) (n : Nat) : (Value.float k n).oneCell' = true := rfl
theorem one_string (b : ByteArray) : (Value.string b).oneCell' = true := rfl
theorem one_bool (b : Bool) : (Value.bool b).oneCell' = true := rfl
theorem OI.one (x : OI) (h : x.keys.oneCell' = true) : x.cs.all (·.oneCell') = true := by
  rw [Array.all_eq_true_iff_forall_mem]
  simp only [OI.cs, List.mem_toArray, List.forall_mem_cons, one_int, one_float, one_string, one_bool, h, and_true, List.not_mem_nil, false_imp_iff, implies_true]
theorem AI.one (x : AI) (h : x.args.oneCell' = true) : x.cs.all (·.oneCell') = true := by
  rw [Array.all_eq_true_iff_forall_mem]
  simp only [AI.cs, List.mem_toArray, List.forall_mem_cons, one_int, one_float, one_string, one_bool, h, and_true, List.not_mem_nil, false_imp_iff, implies_true]
theorem JI.one (x : JI) (h : x.props.oneCell' = true) : x.cs.all (·.oneCell') = true := by
  rw [Array.all_eq_true_iff_forall_mem]
  simp only [JI.cs, List.mem_toArray, List.forall_mem_cons, one_int, one_float, one_string, one_bool, h, and_true, List.not_mem_nil, false_imp_iff, implies_true]
theorem WI.one (x : WI) (h1 : x.ask.args.oneCell' = true) (h2 : x.args.oneCell' = true) (h3 : x.ob.props.oneCell' = true) (h4 : x.out.keys.oneCell' = true) : x.cs.all (·.oneCell') = true := by
  rw [Array.all_eq_true_iff_forall_mem]
  simp only [WI.cs, List.mem_toArray, List.forall_mem_cons, one_int, one_float, one_string, one_bool, h1, h2, h3, h4, true_and, List.not_mem_nil, false_imp_iff, implies_true]

section
variable {P : Program} {ops : Array Oper} {rest : List Oper} {w : World} {a : Act} {Q : Exit → Act → World → Prop}
end

/-! ### cells stored into the middle of a block -/
theorem isObjB_any (v : VI) (w : World) : Calls Tryz.prog 9 #[v.a] w fun e w' => e = .returned (.bool (isObj v.k)) ∧ Below w.heap.size w w' :=
  (isObj_any v.k v.x v.s v.r w).mono fun _ _ h => ⟨h.1, h.2 ▸ box_one _ _⟩

theorem put_none_K {K : Act → World → Prop} {a : Act} {o : Option Tmp} {v : Value} {w : World} (h : o = none) (k : K a w) : K (a.put o v) w := by
  subst h; exact k
/-- The cells of a player. -/
abbrev playC (ans : Value) (n : Int) (t : WI) : Array Value := #[ans, .int .i64 n, .int .u8 t.kd, .int .u8 t.ask.m, .int .i64 t.ask.ob, .string t.ask.k.s, .int .i64 t.ask.k.n, .int .u8 t.ask.d.has, .int .u8 t.ask.d.v.k, .float .f64 t.ask.d.v.x, .string t.ask.d.v.s, .int .i64 t.ask.d.v.r, .int .u8 t.ask.d.g.k, .float .f64 t.ask.d.g.x, .string t.ask.d.g.s, .int .i64 t.ask.d.g.r, .int .u8 t.ask.d.t.k, .float .f64 t.ask.d.t.x, .string t.ask.d.t.s, .int .i64 t.ask.d.t.r, .bool t.ask.d.wr, .bool t.ask.d.en, .bool t.ask.d.cf, .int .u8 t.ask.v.k, .float .f64 t.ask.v.x, .string t.ask.v.s, .int .i64 t.ask.v.r, .int .u8 t.ask.r.k, .float .f64 t.ask.r.x, .string t.ask.r.s, .int .i64 t.ask.r.r, t.ask.args, .int .u8 t.fn.k, .float .f64 t.fn.x, .string t.fn.s, .int .i64 t.fn.r, .int .u8 t.th.k, .float .f64 t.th.x, .string t.th.s, .int .i64 t.th.r, .int .u8 t.fr.k, .float .f64 t.fr.x, .string t.fr.s, .int .i64 t.fr.r, t.args, .int .u8 t.ob.kd, .int .u8 t.ob.pr.k, .float .f64 t.ob.pr.x, .string t.ob.pr.s, .int .i64 t.ob.pr.r, .bool t.ob.ext, t.ob.props, .int .u8 t.ob.tg.k, .float .f64 t.ob.tg.x, .string t.ob.tg.s, .int .i64 t.ob.tg.r, .int .u8 t.ob.hd.k, .float .f64 t.ob.hd.x, .string t.ob.hd.s, .int .i64 t.ob.hd.r, .string t.ob.tx, .bool t.ob.ca, .bool t.ob.ma, .int .u8 t.out.kd, .int .u8 t.out.v.k, .float .f64 t.out.v.x, .string t.out.v.s, .int .i64 t.out.v.r, .bool t.out.b, .bool t.out.fo, .int .u8 t.out.d.has, .int .u8 t.out.d.v.k, .float .f64 t.out.d.v.x, .string t.out.d.v.s, .int .i64 t.out.d.v.r, .int .u8 t.out.d.g.k, .float .f64 t.out.d.g.x, .string t.out.d.g.s, .int .i64 t.out.d.g.r, .int .u8 t.out.d.t.k, .float .f64 t.out.d.t.x, .string t.out.d.t.s, .int .i64 t.out.d.t.r, .bool t.out.d.wr, .bool t.out.d.en, .bool t.out.d.cf, t.out.keys, .int .u8 t.out.er, .string t.out.tx]

/-! ### outside a set of blocks all is as it was -/

/-- Outside the blocks of S the world w' is as w was. -/
structure Kept (S : Nat → Prop) (w w' : World) : Prop where
  os : w'.os = w.os
  tape : w'.tape = w.tape
  output : w'.output = w.output
  size : w.heap.size ≤ w'.heap.size
  block : ∀ k, k < w.heap.size → ¬ S k → w'.heap[k]? = w.heap[k]?
theorem Kept.refl (S : Nat → Prop) (w : World) : Kept S w w := ⟨rfl, rfl, rfl, Nat.le_refl _, fun _ _ _ => rfl⟩
theorem Kept.trans {S : Nat → Prop} {a b c : World} (h : Kept S a b) (k : Kept S b c) : Kept S a c :=
  ⟨k.os.trans h.os, k.tape.trans h.tape, k.output.trans h.output, Nat.le_trans h.size k.size, fun i hi hn => (k.block i (Nat.lt_of_lt_of_le hi h.size) hn).trans (h.block i hi hn)⟩
theorem Kept.wider {S S' : Nat → Prop} {w w' : World} (h : Kept S w w') (hs : ∀ k, k < w.heap.size → S k → S' k) : Kept S' w w' :=
  ⟨h.os, h.tape, h.output, h.size, fun k hk hn => h.block k hk fun hh => hn (hs k hk hh)⟩
theorem Kept.below {S : Nat → Prop} {w w' : World} (h : Below w.heap.size w w') : Kept S w w' := ⟨h.os, h.tape, h.output, h.size, fun k hk _ => h.block k hk⟩
theorem Kept.toBelow {S : Nat → Prop} {w w' : World} (h : Kept S w w') {B : Nat} (hB : B ≤ w.heap.size) (hS : ∀ k, S k → B ≤ k) : Below B w w' :=
  ⟨h.os, h.tape, h.output, h.size, fun k hk => h.block k (Nat.lt_of_lt_of_le hk hB) fun hh => by have := hS k hh; omega⟩
theorem Kept.alloc {S : Nat → Prop} {a w : World} (h : Kept S a w) (o : Obj) : Kept S a (w.alloc o) := h.trans (Kept.below (box_one w o))
theorem Kept.drew {S : Nat → Prop} {a w : World} (h : Kept S a w) : Kept S a w.drew := ⟨h.os, h.tape, h.output, h.size, h.block⟩
theorem heap_setRow (w : World) {g k : Nat} (h : k ≠ g) (ds : Array Value) : (w.setRow g ds).heap[k]? = w.heap[k]? := by
  simp only [World.setRow, Array.getElem?_modify]
  rw [if_neg (fun e => h e.symm)]
theorem own_setRow {w : World} {base : Nat} {e : TypeId} {sz : Nat} {v : Value} {n : Nat} {xs : List Value} (h : w.ownsRow base e sz v n xs) {g : Nat} (hg : g < base) (ds : Array Value) : (w.setRow g ds).ownsRow base e sz v n xs := by
  refine ⟨h.1, ?_⟩
  rcases h.2 with hn | ⟨b, cap, cur, rfl, hb, hbb, rest⟩
  · exact .inl hn
  · exact .inr ⟨b, cap, cur, rfl, hb, (heap_setRow w (by omega) ds).trans hbb, rest⟩
theorem own_setCell {w : World} {base : Nat} {e : TypeId} {sz : Nat} {v : Value} {n : Nat} {xs : List Value} (h : w.ownsRow base e sz v n xs) {p : Addr} (hg : p.block < base) (u : Value) : (w.setCell p u).ownsRow base e sz v n xs := by
  refine ⟨h.1, ?_⟩
  rcases h.2 with hn | ⟨b, cap, cur, rfl, hb, hbb, rest⟩
  · exact .inl hn
  · exact .inr ⟨b, cap, cur, rfl, hb, (Below.heap_setCell w p u b (by omega)).trans hbb, rest⟩
theorem Kept.setRow {S : Nat → Prop} {a w : World} (h : Kept S a w) {g : Nat} (hg : S g ∨ a.heap.size ≤ g) (ds : Array Value) : Kept S a (w.setRow g ds) :=
  ⟨h.os, h.tape, h.output, by simpa [World.setRow] using h.size, fun i hi hn => by
    have e : (w.setRow g ds).heap[i]? = w.heap[i]? := by
      simp only [World.setRow, Array.getElem?_modify]
      rw [if_neg (by rintro rfl; rcases hg with hg | hg; exact hn hg; omega)]
    rw [e]; exact h.block i hi hn⟩
theorem Kept.setCell {S : Nat → Prop} {a w : World} (h : Kept S a w) {p : Addr} (hg : S p.block ∨ a.heap.size ≤ p.block) (u : Value) : Kept S a (w.setCell p u) :=
  ⟨h.os, h.tape, h.output, by simpa [World.setCell] using h.size, fun i hi hn => by
    rw [Below.heap_setCell w p u i (by rintro rfl; rcases hg with hg | hg; exact hn hg; omega)]; exact h.block i hi hn⟩
theorem Kept.setCells {S : Nat → Prop} {a : World} {g : Nat} (hg : S g ∨ a.heap.size ≤ g) : ∀ (vs : List Value) (o : Nat) {w : World}, Kept S a w → Kept S a (w.setCells g o vs)
  | [], _, _, h => h
  | v :: r, o, _, h => by rw [World.setCells]; exact Kept.setCells hg r (o + 1) (h.setCell (p := ⟨g, o, none⟩) hg v)
theorem Kept.grown {S : Nat → Prop} {a w w1 : World} {row : Option Nat} (h : Kept S a w) (hg : w.grownBy w1 row) (hr : ∀ k, row = some k → S k ∨ a.heap.size ≤ k) : Kept S a w1 :=
  ⟨hg.os.trans h.os, hg.tape.trans h.tape, hg.output.trans h.output, Nat.le_trans h.size hg.size, fun k hk hn => (hg.block k (Nat.lt_of_lt_of_le hk h.size) (fun e => by rcases hr k e.symm with hh | hh; exact hn hh; omega)).trans (h.block k hk hn)⟩
theorem Bk.kept {w w' : World} {S : Nat → Prop} {g : Nat} {t : TypeId} {cs : Array Value} (h : Bk w g t cs) (hk : Kept S w w') (hg : ¬ S g) : Bk w' g t cs := (hk.block g h.lt hg).trans h
theorem Bk.grown {w w1 : World} {g : Nat} {t : TypeId} {cs : Array Value} {row : Option Nat} (h : Bk w g t cs) (hg : w.grownBy w1 row) (hr : row ≠ some g) : Bk w1 g t cs := (hg.block g h.lt (fun e => hr e.symm)).trans h
/-! ### lists that a slice owns -/

theorem rangeKept {w w1 : World} {S : Nat → Prop} (hk : Kept S w w1) {g o : Nat} {cs : List Value} (hg : g < w.heap.size) (hn : ¬ S g) (h : w.rangeAt g o cs) : w1.rangeAt g o cs := by
  intro j u hu
  rw [World.cell?_of_block (a := ⟨g, _, none⟩) (hk.block g hg hn)]
  exact h j u hu
theorem own_eq {w w' : World} {base : Nat} {e : TypeId} {sz : Nat} {v : Value} {n : Nat} {xs : List Value} (h : w.ownsRow base e sz v n xs) (hb : ∀ k, v.ownBlock = some k → w'.heap[k]? = w.heap[k]?) : w'.ownsRow base e sz v n xs := by
  refine ⟨h.1, ?_⟩
  rcases h.2 with hn | ⟨g, cap, cur, rfl, hbg, hgg, rest⟩
  · exact .inl hn
  · exact .inr ⟨g, cap, cur, rfl, hbg, (hb g rfl).trans hgg, rest⟩
theorem own_kept {w w' : World} {S : Nat → Prop} {base : Nat} {e : TypeId} {sz : Nat} {v : Value} {n : Nat} {xs : List Value} (h : w.ownsRow base e sz v n xs) (hk : Kept S w w') (hs : ∀ k, v.ownBlock = some k → ¬ S k) : w'.ownsRow base e sz v n xs :=
  own_eq h fun k hv => hk.block k (h.lt k hv).2 (hs k hv)
theorem own_on {w w' : World} {base : Nat} {e : TypeId} {sz : Nat} {v : Value} {n : Nat} {xs : List Value} (h : w.ownsRow base e sz v n xs) (hb : Below w.heap.size w w') : w'.ownsRow base e sz v n xs :=
  own_eq h fun k hv => hb.block k (h.lt k hv).2
theorem own_base {w : World} {base base' : Nat} {e : TypeId} {sz : Nat} {v : Value} {n : Nat} {xs : List Value} (h : w.ownsRow base e sz v n xs) (hb : ∀ k, v.ownBlock = some k → base' ≤ k) : w.ownsRow base' e sz v n xs := by
  refine ⟨h.1, ?_⟩
  rcases h.2 with hn | ⟨g, cap, cur, rfl, hbg, rest⟩
  · exact .inl hn
  · exact .inr ⟨g, cap, cur, rfl, hb g rfl, rest⟩
theorem own_slice {w : World} {base : Nat} {e : TypeId} {sz : Nat} {v : Value} {n : Nat} {xs : List Value} (h : w.ownsRow base e sz v n xs) : ∃ q c, v = .slice q n c := by
  obtain ⟨_, ⟨rfl, rfl⟩ | ⟨g, cap, cur, rfl, _⟩⟩ := h <;> exact ⟨_, _, rfl⟩
theorem own_one {w : World} {base : Nat} {e : TypeId} {sz : Nat} {v : Value} {n : Nat} {xs : List Value} (h : w.ownsRow base e sz v n xs) : v.oneCell' = true := by
  obtain ⟨q, c, rfl⟩ := own_slice h; rfl
theorem flat_length {α : Type} (f : α → List Value) (n : Nat) (hf : ∀ x, (f x).length = n) : ∀ l : List α, (l.flatMap f).length = l.length * n
  | [] => by simp
  | x :: l => by rw [List.flatMap_cons, List.length_append, flat_length f n hf l, hf x, List.length_cons, Nat.add_mul, Nat.one_mul, Nat.add_comm]
theorem flat_get {α : Type} (f : α → List Value) (n : Nat) (hf : ∀ x, (f x).length = n) : ∀ (l : List α) (i : Nat) (h : i < l.length) (j : Nat), j < n → (l.flatMap f)[i * n + j]? = (f l[i])[j]?
  | x :: l, 0, _, j, hj => by rw [List.flatMap_cons, Nat.zero_mul, Nat.zero_add, List.getElem?_append_left (by rw [hf]; exact hj)]; rfl
  | x :: l, i + 1, h, j, hj => by
    rw [List.flatMap_cons, List.getElem?_append_right (by rw [hf, Nat.succ_mul]; omega), hf x, show (i + 1) * n + j - n = i * n + j by rw [Nat.succ_mul]; omega]
    exact flat_get f n hf l i (by simpa using h) j hj
theorem flat_cells {α : Type} {f : α → List Value} {n : Nat} (hf : ∀ x, (f x).length = n) (hn : 0 < n) {l : List α} {w : World} {g o : Nat} (h : ∀ i (hi : i < l.length), w.rangeAt g (o + i * n) (f l[i])) : ∀ j u, (l.flatMap f)[j]? = some u → w.cell? ((⟨g, o, none⟩ : Addr).add j) = some u := by
  intro j u hu
  have hj := (List.getElem?_eq_some_iff.1 hu).1
  rw [flat_length f n hf l] at hj
  have hi : j / n < l.length := Nat.div_lt_of_lt_mul (by rw [Nat.mul_comm]; exact hj)
  have hr : j % n < n := Nat.mod_lt _ hn
  have e : j = j / n * n + j % n := by rw [Nat.mul_comm]; exact (Nat.div_add_mod j n).symm
  rw [e, flat_get f n hf l _ hi _ hr] at hu
  have := h _ hi _ _ hu
  rw [Addr.add_mid]
  rw [show o + j = o + j / n * n + j % n by omega]
  exact this
theorem flat_one {α : Type} {f : α → List Value} (h1 : ∀ x, ∀ u ∈ f x, u.oneCell' = true) (l : List α) : ∀ u ∈ l.flatMap f, u.oneCell' = true := by
  intro u hu
  obtain ⟨x, _, hx⟩ := List.mem_flatMap.1 hu
  exact h1 x u hx
theorem VI.cells_len (v : VI) : v.cells.length = 4 := rfl
theorem KI.cells_len (v : KI) : v.cells.length = 2 := rfl
theorem OI.cells_len (v : OI) : v.cs.toList.length = 26 := rfl
theorem VI.cells_one (v : VI) : ∀ u ∈ v.cells, u.oneCell' = true := by
  intro u hu
  simp only [VI.cells, List.mem_cons, List.not_mem_nil, or_false] at hu
  rcases hu with rfl | rfl | rfl | rfl <;> rfl
theorem KI.cells_one (v : KI) : ∀ u ∈ v.cells, u.oneCell' = true := by
  intro u hu
  simp only [KI.cells, List.mem_cons, List.not_mem_nil, or_false] at hu
  rcases hu with rfl | rfl <;> rfl
/-- A slice of elements that can be read. -/
def RdL {α : Type} (f : α → List Value) (n : Nat) (l : List α) (v : Value) (w : World) : Prop := ∃ pa c, v = .slice pa l.length c ∧ l.length ≤ c ∧ c ≤ maxLen ∧ (0 < l.length → ∃ g o, pa = some ⟨g, o, none⟩ ∧ g < w.heap.size ∧ ∀ i (h : i < l.length), w.rangeAt g (o + i * n) (f l[i]))
theorem RdL.keep {α : Type} {f : α → List Value} {n : Nat} {l : List α} {v : Value} {w w1 : World} (h : RdL f n l v w) (hs : w.heap.size ≤ w1.heap.size) (hb : ∀ k, v.ownBlock = some k → k < w.heap.size → w1.heap[k]? = w.heap[k]?) : RdL f n l v w1 := by
  obtain ⟨pa, c, h1, h2, h3, h4⟩ := h
  refine ⟨pa, c, h1, h2, h3, fun h0 => ?_⟩
  obtain ⟨g, o, e, hg, hx⟩ := h4 h0
  refine ⟨g, o, e, Nat.lt_of_lt_of_le hg hs, fun i hi j u hu => ?_⟩
  rw [World.cell?_of_block (a := ⟨g, _, none⟩) (hb g (by rw [h1, e]; rfl) hg)]
  exact hx i hi j u hu
theorem RdL.on {α : Type} {f : α → List Value} {n : Nat} {l : List α} {v : Value} {w w1 : World} (h : RdL f n l v w) (hb : Below w.heap.size w w1) : RdL f n l v w1 := h.keep hb.size fun k _ hk => hb.block k hk
theorem RdL.kept {α : Type} {f : α → List Value} {n : Nat} {l : List α} {v : Value} {w w1 : World} {S : Nat → Prop} (h : RdL f n l v w) (hk : Kept S w w1) (hs : ∀ k, v.ownBlock = some k → ¬ S k) : RdL f n l v w1 := h.keep hk.size fun k hv hlt => hk.block k hlt (hs k hv)
theorem RdL.nil {α : Type} (f : α → List Value) (n : Nat) (w : World) : RdL f n ([] : List α) vNil w := ⟨none, 0, rfl, Nat.le_refl _, Nat.zero_le _, fun h => absurd h (by simp)⟩
theorem RdL.one {α : Type} {f : α → List Value} {n : Nat} {l : List α} {v : Value} {w : World} (h : RdL f n l v w) : v.oneCell' = true := by
  obtain ⟨_, _, rfl, _⟩ := h; rfl
theorem own_at {α : Type} {f : α → List Value} {n : Nat} (hf : ∀ x, (f x).length = n) {w : World} {base : Nat} {e : TypeId} {v : Value} {l : List α} (h : w.ownsRow base e n v l.length (l.flatMap f)) {g : Nat} (hg : v.ownBlock = some g) (i : Nat) (hi : i < l.length) : w.rangeAt g (i * n) (f l[i]) := by
  intro j u hu
  have hj : j < n := by have := (List.getElem?_eq_some_iff.1 hu).1; rwa [hf] at this
  have := h.cells hg (i * n + j) u (by rw [flat_get f n hf l i hi j hj]; exact hu)
  rw [Addr.add_mid] at this
  simpa using this
theorem own_rd {α : Type} {f : α → List Value} {n : Nat} (hf : ∀ x, (f x).length = n) {w : World} {base : Nat} {e : TypeId} {v : Value} {l : List α} (h : w.ownsRow base e n v l.length (l.flatMap f)) : RdL f n l v w := by
  rcases h.2 with ⟨rfl, h0⟩ | ⟨g, cap, cur, rfl, hb, hg, hc, hm, _⟩
  · exact ⟨none, 0, by rw [h0], by omega, Nat.zero_le _, fun hh => absurd hh (by omega)⟩
  · refine ⟨_, cap, rfl, hc, hm, fun h0 => ⟨g, 0, rfl, (Array.getElem?_eq_some_iff.1 hg).1, fun i hi => ?_⟩⟩
    rw [Nat.zero_add]
    exact own_at hf h rfl i hi

end Go.Proofs.YtbmaodlghglopaaGreatDoor
