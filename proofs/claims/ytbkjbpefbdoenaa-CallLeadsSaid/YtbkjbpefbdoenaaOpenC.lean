/-
  Values, slices of values and of outcomes that came in, opened.
-/
import Derived.Test.YtbkjbpefbdoenaaCallP
import Derived.Lib.SmallJoins
import Derived.Deep.Slices
import Derived.ChangeSame
import Derived.ProofKit
import Derived.OpenShut
namespace Go.Proofs.Ytbkjbpefbdoenaa
open Go.ChangeShapes Go.WideShapes Go.ChangeAt Go.RowKit Go.Deep

section
variable {H : Type} {enc : TypeId × Value → H} {P : Program} {w : World} {base : Nat} {spare : Nat → Bool} {held : Bool}
/-- The cells read as a thing of the type. -/
def Trods (enc : TypeId × Value → H) (P : Program) (w : World) (base : Nat) (spare : Nat → Bool) (held : Bool) (t : TypeId) (cs : List Value) : Prop := ∃ fuel x, DataW.trod enc P w base spare held fuel t cs = some x
theorem trods_len {t : TypeId} {cs : List Value} (hu : P.underlying t = some (.struct (P.fieldsOf t))) (h : Trods enc P w base spare held t cs) : cs.length = P.cellsOf t := by
  obtain ⟨fuel, x, h⟩ := h
  obtain ⟨xs, n', _, _, hl, _, _⟩ := DataW.trod_struct hu h
  exact hl
theorem trods_field {t T : TypeId} {o n : Nat} {cs : List Value} (i : Nat) (hu : P.underlying t = some (.struct (P.fieldsOf t))) (h : Trods enc P w base spare held t cs) (hi : ((P.fieldsOf t)[i]?).map (fun f => (f.type, f.offset)) = some (T, o)) (hn : P.cellsOf T = n) : Trods enc P w base spare held T ((cs.drop o).take n) := by
  obtain ⟨fuel, x, h⟩ := h
  obtain ⟨xs, n', _, _, hl, hxl, hf⟩ := DataW.trod_struct hu h
  obtain ⟨f, hfi, he⟩ := Option.map_eq_some_iff.1 hi
  simp only [Prod.mk.injEq] at he
  obtain ⟨rfl, rfl⟩ := he
  subst hn
  have hlt : i < (P.fieldsOf t).size := (Array.getElem?_eq_some_iff.1 hfi).1
  have h1 := hf i f hfi
  exact ⟨n', xs[i]'(by omega), h1.trans (List.getElem?_eq_getElem (by omega))⟩
theorem seg (cs : List Value) (o n m : Nat) (hm : o + n = m) : cs.drop o = (cs.drop o).take n ++ cs.drop m := by
  subst hm
  rw [← List.drop_drop, List.take_append_drop]
theorem trods_int {t : TypeId} {cs : List Value} {k : IntKind} (ht : P.underlying t = some (.int k)) (h : Trods enc P w base spare held t cs) : ∃ n, cs = [.int k n] ∧ (Lit.int k n).wf = true := by
  obtain ⟨fuel, x, h⟩ := h
  obtain ⟨n, e, _, hw⟩ := DataW.trod_int ht h
  exact ⟨n, e, hw⟩
theorem trods_bool {t : TypeId} {cs : List Value} (ht : P.underlying t = some .bool) (h : Trods enc P w base spare held t cs) : ∃ b, cs = [.bool b] := by
  obtain ⟨fuel, x, h⟩ := h
  obtain ⟨b, e, _⟩ := DataW.trod_bool ht h
  exact ⟨b, e⟩
theorem trods_string {t : TypeId} {cs : List Value} (ht : P.underlying t = some .string) (h : Trods enc P w base spare held t cs) : ∃ s : ByteArray, cs = [.string s] ∧ s.size ≤ maxLen := by
  obtain ⟨fuel, x, h⟩ := h
  obtain ⟨s, e, _, hs⟩ := DataW.trod_string ht h
  exact ⟨s, e, hs⟩
theorem trods_float {t : TypeId} {cs : List Value} {k : FloatKind} (ht : P.underlying t = some (.float k)) (h : Trods enc P w base spare held t cs) : ∃ n, cs = [.float k n] := by
  obtain ⟨fuel, x, h⟩ := h
  cases fuel with
  | zero => simp [DataW.trod] at h
  | succ n =>
    unfold DataW.trod at h
    rw [ht] at h
    split at h <;> simp_all
/-- A slice: nil, or an array whose elements read. -/
theorem trods_slice {t e : TypeId} {cs : List Value} (ht : P.underlying t = some (.slice e)) (h : Trods enc P w base spare held t cs) :
    cs = [.slice none 0 0] ∨ ∃ (a : Addr) (len cap : Nat), cs = [.slice (some a) len cap] ∧ len ≤ cap ∧ cap ≤ maxLen ∧ ∀ i, i < len → ∃ cs', Trods enc P w base spare held e cs' ∧ ∀ j, j < P.cellsOf e → w.cell? (a.add (i * P.cellsOf e + j)) = cs'[j]? := by
  obtain ⟨fuel, x, h⟩ := h
  rcases open_slice ht h with ⟨h0, _⟩ | ⟨a, len, cap, m, n, D, Pl, hcs, hb, hl, hm, hmm, hx, hi⟩
  · exact .inl h0
  · refine .inr ⟨a, len, cap, hcs, hl, hm, fun i hlt => ?_⟩
    obtain ⟨cs', hc, ht'⟩ := hi i (by rw [hmm]; split <;> omega)
    refine ⟨cs', ⟨_, _, ht'⟩, fun j hj => ?_⟩
    obtain ⟨_, _, hat⟩ := World.cells?_some hc
    rw [← Go.Deep.add_add]; exact hat j hj
end

theorem cell_lt {w : World} {a : Addr} {v : Value} (h : w.cell? a = some v) : a.block < w.heap.size := by
  rcases Nat.lt_or_ge a.block w.heap.size with h' | h'
  · exact h'
  · simp [World.cell?, Array.getElem?_eq_none h'] at h
theorem listOf_fn {α : Type} [Inhabited α] {n : Nat} {p : Nat → α → Prop} (h : ∀ i, i < n → ∃ x, p i x) : ∃ l : List α, l.length = n ∧ ∀ i (hi : i < l.length), p i l[i] := by
  obtain ⟨f, hf⟩ := choose_lt h
  exact ⟨(List.range n).map f, by simp, fun i hi => by simpa using hf i (by simpa using hi)⟩
/-- Elements read at an address: a list of them that lies in a block. -/
theorem list_at {α : Type} [Inhabited α] {w : World} {a : Addr} {len n : Nat} (cells : α → List Value) (ok : α → Prop) (hn : 0 < n) (hc : ∀ x, (cells x).length = n) (h : ∀ i, i < len → ∃ x, ok x ∧ ∀ j, j < n → w.cell? (a.add (i * n + j)) = (cells x)[j]?) :
    ∃ l : List α, l.length = len ∧ (∀ x, x ∈ l → ok x) ∧ (0 < l.length → ∃ g o, some a = some ⟨g, o, none⟩ ∧ g < w.heap.size ∧ ∀ i (hi : i < l.length), w.rangeAt g (o + i * n) (cells l[i])) := by
  obtain ⟨l, hll, hl⟩ := listOf_fn h
  subst hll
  refine ⟨l, rfl, fun x hx => ?_, fun h0 => ?_⟩
  · obtain ⟨i, hi, rfl⟩ := List.getElem_of_mem hx
    exact (hl i hi).1
  · have hc0 : w.cell? (a.add (0 * n + 0)) = some ((cells l[0])[0]'(by rw [hc]; exact hn)) := by
      rw [(hl 0 h0).2 0 hn]; exact List.getElem?_eq_getElem _
    have hsp := World.cell?_spot hc0
    have hlt := cell_lt hc0
    obtain ⟨b, o, sp⟩ := a
    simp only [Nat.zero_mul, Nat.add_zero, Addr.add, if_true] at hsp hlt
    subst hsp
    refine ⟨b, o, rfl, hlt, fun i hi j u hj => ?_⟩
    have hjn : j < n := by rw [← hc l[i]]; exact (List.getElem?_eq_some_iff.1 hj).1
    have h5 := (hl i hi).2 j hjn
    rw [Addr.add_mid] at h5
    rw [Nat.add_assoc, h5, hj]

theorem under_valO : Try.prog.underlying 24 = some (.struct (Try.prog.fieldsOf 24)) := by kernel_rfl
theorem is_valO {H : Type} {enc : TypeId × Value → H} {w : World} {base : Nat} {spare : Nat → Bool} {held : Bool} {cs : List Value} (h : Trods enc Try.prog w base spare held 24 cs) : ∃ v : VI, cs = v.cells ∧ 0 ≤ v.k := by
  have hl : cs.length = 4 := (trods_len under_valO h).trans (by kernel_rfl)
  obtain ⟨k, e0, w0⟩ := trods_int Try.underlying5 (trods_field 0 under_valO h (T := 5) (o := 0) (n := 1) (by kernel_rfl) (by kernel_rfl))
  obtain ⟨x, e1⟩ := trods_float Try.underlying22 (trods_field 1 under_valO h (T := 22) (o := 1) (n := 1) (by kernel_rfl) (by kernel_rfl))
  obtain ⟨s, e2, s2⟩ := trods_string Try.underlying9 (trods_field 2 under_valO h (T := 9) (o := 2) (n := 1) (by kernel_rfl) (by kernel_rfl))
  obtain ⟨r, e3, w3⟩ := trods_int Try.underlying3 (trods_field 3 under_valO h (T := 3) (o := 3) (n := 1) (by kernel_rfl) (by kernel_rfl))
  have e : cs = [.int .u8 k, .float .f64 x, .string s, .int .i64 r] := by
    rw [show cs = cs.drop 0 from rfl]
    rw [seg cs 0 1 1 rfl, e0]
    rw [seg cs 1 1 2 rfl, e1]
    rw [seg cs 2 1 3 rfl, e2]
    rw [seg cs 3 1 4 rfl, e3]
    rw [List.drop_eq_nil_of_le (by omega)]
    rfl
  exact ⟨⟨k, x, s, r⟩, e, (bounds_u8 w0).1⟩

theorem under_keyO : Try.prog.underlying 38 = some (.struct (Try.prog.fieldsOf 38)) := by kernel_rfl
theorem is_keyO {H : Type} {enc : TypeId × Value → H} {w : World} {base : Nat} {spare : Nat → Bool} {held : Bool} {cs : List Value} (h : Trods enc Try.prog w base spare held 38 cs) : ∃ k : KI, cs = k.cells := by
  have hl : cs.length = 2 := (trods_len under_keyO h).trans (by kernel_rfl)
  obtain ⟨s, e0, s0⟩ := trods_string Try.underlying9 (trods_field 0 under_keyO h (T := 9) (o := 0) (n := 1) (by kernel_rfl) (by kernel_rfl))
  obtain ⟨n, e1, w1⟩ := trods_int Try.underlying3 (trods_field 1 under_keyO h (T := 3) (o := 1) (n := 1) (by kernel_rfl) (by kernel_rfl))
  have e : cs = [.string s, .int .i64 n] := by
    rw [show cs = cs.drop 0 from rfl]
    rw [seg cs 0 1 1 rfl, e0]
    rw [seg cs 1 1 2 rfl, e1]
    rw [List.drop_eq_nil_of_le (by omega)]
    rfl
  exact ⟨⟨s, n⟩, e⟩

theorem under_descO : Try.prog.underlying 33 = some (.struct (Try.prog.fieldsOf 33)) := by kernel_rfl
theorem is_descO {H : Type} {enc : TypeId × Value → H} {w : World} {base : Nat} {spare : Nat → Bool} {held : Bool} {cs : List Value} (h : Trods enc Try.prog w base spare held 33 cs) : ∃ d : DI, cs = d.cs.toList ∧ d.ok ∧ 0 ≤ d.has ∧ d.has ≤ 255 := by
  have hl : cs.length = 16 := (trods_len under_descO h).trans (by kernel_rfl)
  obtain ⟨h0, e0, w0⟩ := trods_int Try.underlying5 (trods_field 0 under_descO h (T := 5) (o := 0) (n := 1) (by kernel_rfl) (by kernel_rfl))
  obtain ⟨v, e1, k1⟩ := is_valO (trods_field 1 under_descO h (T := 24) (o := 1) (n := 4) (by kernel_rfl) (by kernel_rfl))
  obtain ⟨g, e2, k2⟩ := is_valO (trods_field 2 under_descO h (T := 24) (o := 5) (n := 4) (by kernel_rfl) (by kernel_rfl))
  obtain ⟨t, e3, k3⟩ := is_valO (trods_field 3 under_descO h (T := 24) (o := 9) (n := 4) (by kernel_rfl) (by kernel_rfl))
  obtain ⟨wr, e4⟩ := trods_bool Try.underlying4 (trods_field 4 under_descO h (T := 4) (o := 13) (n := 1) (by kernel_rfl) (by kernel_rfl))
  obtain ⟨en, e5⟩ := trods_bool Try.underlying4 (trods_field 5 under_descO h (T := 4) (o := 14) (n := 1) (by kernel_rfl) (by kernel_rfl))
  obtain ⟨cf, e6⟩ := trods_bool Try.underlying4 (trods_field 6 under_descO h (T := 4) (o := 15) (n := 1) (by kernel_rfl) (by kernel_rfl))
  have e : cs = (DI.cs ⟨h0, v, g, t, wr, en, cf⟩).toList := by
    rw [show cs = cs.drop 0 from rfl]
    rw [seg cs 0 1 1 rfl, e0]
    rw [seg cs 1 4 5 rfl, e1]
    rw [seg cs 5 4 9 rfl, e2]
    rw [seg cs 9 4 13 rfl, e3]
    rw [seg cs 13 1 14 rfl, e4]
    rw [seg cs 14 1 15 rfl, e5]
    rw [seg cs 15 1 16 rfl, e6]
    rw [List.drop_eq_nil_of_le (by omega)]
    rfl
  exact ⟨⟨h0, v, g, t, wr, en, cf⟩, e, ⟨k1, k2, k3⟩, (bounds_u8 w0).1, (bounds_u8 w0).2⟩

instance : Inhabited KI := ⟨⟨⟨#[]⟩, 0⟩⟩
instance : Inhabited DI := ⟨DI.zero⟩
theorem is_keys {H : Type} {enc : TypeId × Value → H} {w : World} {base : Nat} {spare : Nat → Bool} {held : Bool} {cs : List Value} (h : Trods enc Try.prog w base spare held 34 cs) : ∃ v l, cs = [v] ∧ RdL KI.cells 2 l v w := by
  rcases trods_slice Try.underlying34 h with rfl | ⟨a, len, cap, rfl, hl, hm, hx⟩
  · exact ⟨_, [], rfl, none, 0, rfl, Nat.le_refl _, Nat.zero_le _, fun h => absurd h (by decide)⟩
  · rw [show Try.prog.cellsOf 38 = 2 by kernel_rfl] at hx
    obtain ⟨l, rfl, _, hl2⟩ := list_at (w := w) (a := a) (len := len) (n := 2) KI.cells (fun _ => True) (by decide) (fun _ => rfl) (fun i hi => by
      obtain ⟨cs', ht, hc⟩ := hx i hi
      obtain ⟨k, rfl⟩ := is_keyO ht
      exact ⟨k, trivial, hc⟩)
    exact ⟨_, l, rfl, some a, cap, rfl, hl, hm, hl2⟩
theorem under_outO : Try.prog.underlying 36 = some (.struct (Try.prog.fieldsOf 36)) := by kernel_rfl
theorem is_outO {H : Type} {enc : TypeId × Value → H} {w : World} {base : Nat} {spare : Nat → Bool} {held : Bool} {cs : List Value} (h : Trods enc Try.prog w base spare held 36 cs) : ∃ (x : OI) (lk : List KI), cs = x.cs.toList ∧ 0 ≤ x.v.k ∧ x.d.ok ∧ 0 ≤ x.d.has ∧ x.d.has ≤ 255 ∧ RdL KI.cells 2 lk x.keys w := by
  have hl : cs.length = 26 := (trods_len under_outO h).trans (by kernel_rfl)
  obtain ⟨kd, e0, w0⟩ := trods_int Try.underlying5 (trods_field 0 under_outO h (T := 5) (o := 0) (n := 1) (by kernel_rfl) (by kernel_rfl))
  obtain ⟨v, e1, k1⟩ := is_valO (trods_field 1 under_outO h (T := 24) (o := 1) (n := 4) (by kernel_rfl) (by kernel_rfl))
  obtain ⟨b, e2⟩ := trods_bool Try.underlying4 (trods_field 2 under_outO h (T := 4) (o := 5) (n := 1) (by kernel_rfl) (by kernel_rfl))
  obtain ⟨fo, e3⟩ := trods_bool Try.underlying4 (trods_field 3 under_outO h (T := 4) (o := 6) (n := 1) (by kernel_rfl) (by kernel_rfl))
  obtain ⟨d, e4, k4, b4⟩ := is_descO (trods_field 4 under_outO h (T := 33) (o := 7) (n := 16) (by kernel_rfl) (by kernel_rfl))
  obtain ⟨keys, l5, e5, r5⟩ := is_keys (trods_field 5 under_outO h (T := 34) (o := 23) (n := 1) (by kernel_rfl) (by kernel_rfl))
  obtain ⟨er, e6, w6⟩ := trods_int Try.underlying5 (trods_field 6 under_outO h (T := 5) (o := 24) (n := 1) (by kernel_rfl) (by kernel_rfl))
  obtain ⟨tx, e7, s7⟩ := trods_string Try.underlying9 (trods_field 7 under_outO h (T := 9) (o := 25) (n := 1) (by kernel_rfl) (by kernel_rfl))
  have e : cs = (OI.cs ⟨kd, v, b, fo, d, keys, er, tx⟩).toList := by
    rw [show cs = cs.drop 0 from rfl]
    rw [seg cs 0 1 1 rfl, e0]
    rw [seg cs 1 4 5 rfl, e1]
    rw [seg cs 5 1 6 rfl, e2]
    rw [seg cs 6 1 7 rfl, e3]
    rw [seg cs 7 16 23 rfl, e4]
    rw [seg cs 23 1 24 rfl, e5]
    rw [seg cs 24 1 25 rfl, e6]
    rw [seg cs 25 1 26 rfl, e7]
    rw [List.drop_eq_nil_of_le (by omega)]
    rfl
  exact ⟨⟨kd, v, b, fo, d, keys, er, tx⟩, l5, e, k1, k4, b4.1, b4.2, r5⟩


instance : Inhabited VI := ⟨VI.zero⟩
instance : Inhabited OI := ⟨OI.zero⟩
set_option maxRecDepth 100000 in
theorem open_val {H : Type} {enc : TypeId × Value → H} {w : World} {r : Reach} {b0 base : Nat} {spare : Nat → Bool} {held : Bool} {v : Value} {d : DataW H} {p : List MemPlace}
    (hv : Value.okWide Try.prog w r b0 24 v) (h : DataW.Trod enc Try.prog w base spare held 24 v d p) : ∃ x : VI, v = x.a ∧ 0 ≤ x.k := by
  obtain ⟨cs, rfl, hsz⟩ := okWide_struct under_valO hv
  obtain ⟨fuel, hf⟩ := h
  obtain ⟨x, e, hk⟩ := is_valO (cs := cs.toList) ⟨fuel, _, hf⟩
  exact ⟨x, congrArg Value.agg (Array.toList_inj.1 (e.trans rfl)), hk⟩
set_option maxRecDepth 100000 in
theorem open_vals {H : Type} {enc : TypeId × Value → H} {w : World} {r : Reach} {b0 base : Nat} {spare : Nat → Bool} {held : Bool} {v : Value} {d : DataW H} {p : List MemPlace}
    (hv : Value.okWide Try.prog w r b0 25 v) (h : DataW.Trod enc Try.prog w base spare held 25 v d p) : ∃ l : List VI, RdL VI.cells 4 l v w ∧ ∀ x ∈ l, 0 ≤ x.k := by
  obtain ⟨a0, n0, c0, rfl⟩ := okWide_slice Try.underlying25 hv
  obtain ⟨fuel, hf⟩ := h
  rcases trods_slice (cs := [.slice a0 n0 c0]) Try.underlying25 ⟨fuel, _, hf⟩ with h | ⟨a, len, cap, e, hl, hm, hx⟩
  · simp only [List.cons.injEq, and_true] at h
    rw [h]
    exact ⟨[], RdL.nil _ _ _, fun x hx => by cases hx⟩
  · rw [show Try.prog.cellsOf 24 = 4 by kernel_rfl] at hx
    obtain ⟨l, rfl, hok, hl2⟩ := list_at (w := w) (a := a) (len := len) (n := 4) VI.cells (fun x => 0 ≤ x.k) (by decide) (fun _ => rfl) (fun i hi => by
      obtain ⟨cs', ht, hc⟩ := hx i hi
      obtain ⟨x, rfl, hk⟩ := is_valO ht
      exact ⟨x, hk, hc⟩)
    simp only [List.cons.injEq, and_true] at e
    rw [e]
    exact ⟨l, ⟨some a, cap, rfl, hl, hm, hl2⟩, hok⟩
/-- An outcome that came in, with its keys. -/
def OutOk (e : OI × List KI) (w : World) : Prop := e.1.d.ok ∧ 0 ≤ e.1.v.k ∧ RdL KI.cells 2 e.2 e.1.keys w
set_option maxRecDepth 100000 in
theorem open_outs {H : Type} {enc : TypeId × Value → H} {w : World} {r : Reach} {b0 base : Nat} {spare : Nat → Bool} {held : Bool} {v : Value} {d : DataW H} {p : List MemPlace}
    (hv : Value.okWide Try.prog w r b0 26 v) (h : DataW.Trod enc Try.prog w base spare held 26 v d p) : ∃ l : List (OI × List KI), RdL (fun e : OI × List KI => e.1.cs.toList) 26 l v w ∧ ∀ e ∈ l, OutOk e w := by
  obtain ⟨a0, n0, c0, rfl⟩ := okWide_slice Try.underlying26 hv
  obtain ⟨fuel, hf⟩ := h
  rcases trods_slice (cs := [.slice a0 n0 c0]) Try.underlying26 ⟨fuel, _, hf⟩ with h | ⟨a, len, cap, e, hl, hm, hx⟩
  · simp only [List.cons.injEq, and_true] at h
    rw [h]
    exact ⟨[], RdL.nil _ _ _, fun x hx => by cases hx⟩
  · rw [show Try.prog.cellsOf 36 = 26 by kernel_rfl] at hx
    obtain ⟨l, rfl, hok, hl2⟩ := list_at (w := w) (a := a) (len := len) (n := 26) (fun e : OI × List KI => e.1.cs.toList) (fun e => OutOk e w) (by decide) (fun _ => rfl) (fun i hi => by
      obtain ⟨cs', ht, hc⟩ := hx i hi
      obtain ⟨x, lk, rfl, hk, hd, _, _, hr⟩ := is_outO ht
      exact ⟨(x, lk), ⟨hd, hk, hr⟩, hc⟩)
    simp only [List.cons.injEq, and_true] at e
    rw [e]
    exact ⟨l, ⟨some a, cap, rfl, hl, hm, hl2⟩, hok⟩

end Go.Proofs.Ytbkjbpefbdoenaa
