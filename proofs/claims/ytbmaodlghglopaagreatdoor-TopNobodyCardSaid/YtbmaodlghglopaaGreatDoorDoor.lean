/-
  What a law of layer 18 is handed, opened: a heap, an ask, a list of values.
-/
import Derived.Test.YtbmaodlghglopaaGreatDoorMxO
import Derived.Test.YtbmaodlghglopaaGreatDoorCallP
import Derived.Test.YtbmaodlghglopaaGreatDoorTie
import Derived.Test.YtbmaodlghglopaaGreatDoorCards
import Derived.Lib.SmallJoins
import Derived.Deep.Slices
import Derived.ChangeSame
import Derived.ProofKit
import Derived.OpenShut
import Derived.LaidMore
import Derived.Lay
import Derived.SevenTiedAt
import Derived.Stop.Joined
import Derived.Stop.LaidErr
namespace Go.Proofs.YtbmaodlghglopaaGreatDoor
open Go.ChangeShapes Go.WideShapes Go.ChangeAt Go.RowKit Go.Deep

section
variable {H : Type} {enc : TypeId × Value → H} {P : Program} {w : World} {base : Nat} {spare : Nat → Bool} {held : Bool}
/-- The cells read as a thing of the type. -/
def Trods (enc : TypeId × Value → H) (P : Program) (w : World) (base : Nat) (spare : Nat → Bool) (held : Bool) (t : TypeId) (cs : List Value) : Prop := ∃ fuel x, DataW.trod enc P w base spare held fuel t cs = some x
theorem trods_len {t : TypeId} {cs : List Value} (hu : P.underlying t = some (.struct (P.fieldsOf t))) (h : Trods enc P w base spare held t cs) : cs.length = P.cellsOf t := by
  obtain ⟨fuel, x, h⟩ := h
  obtain ⟨xs, n', _, _, hl, _, _⟩ := DataW.trod_struct hu h
  exact hl
theorem trods_field {t T : TypeId} {o n : Nat} {cs : List Value} (i : Nat) (hu : P.underlying t = some (.struct (P.fieldsOf t))) (h : Trods enc P w base spare held t cs) (hi : ((P.fieldsOf t)[i]?).map (fun f => (f.type, f.offset)) = some (T, o)) (hn : P.cellsOf T = n) : Trods enc P w base spare held T ((cs.drop o).take n) := by
  obtain ⟨fuel, x, h⟩ := h
  obtain ⟨xs, n', _, _, hl, hxl, hf⟩ := DataW.trod_struct hu h
  obtain ⟨f, hfi, he⟩ := Option.map_eq_some_iff.1 hi
  simp only [Prod.mk.injEq] at he
  obtain ⟨rfl, rfl⟩ := he
  subst hn
  have hlt : i < (P.fieldsOf t).size := (Array.getElem?_eq_some_iff.1 hfi).1
  have h1 := hf i f hfi
  exact ⟨n', xs[i]'(by omega), h1.trans (List.getElem?_eq_getElem (by omega))⟩
theorem seg (cs : List Value) (o n m : Nat) (hm : o + n = m) : cs.drop o = (cs.drop o).take n ++ cs.drop m := by
  subst hm
  rw [← List.drop_drop, List.take_append_drop]
theorem trods_int {t : TypeId} {cs : List Value} {k : IntKind} (ht : P.underlying t = some (.int k)) (h : Trods enc P w base spare held t cs) : ∃ n, cs = [.int k n] ∧ (Lit.int k n).wf = true := by
  obtain ⟨fuel, x, h⟩ := h
  obtain ⟨n, e, _, hw⟩ := DataW.trod_int ht h
  exact ⟨n, e, hw⟩
theorem trods_bool {t : TypeId} {cs : List Value} (ht : P.underlying t = some .bool) (h : Trods enc P w base spare held t cs) : ∃ b, cs = [.bool b] := by
  obtain ⟨fuel, x, h⟩ := h
  obtain ⟨b, e, _⟩ := DataW.trod_bool ht h
  exact ⟨b, e⟩
theorem trods_string {t : TypeId} {cs : List Value} (ht : P.underlying t = some .string) (h : Trods enc P w base spare held t cs) : ∃ s : ByteArray, cs = [.string s] ∧ s.size ≤ maxLen := by
  obtain ⟨fuel, x, h⟩ := h
  obtain ⟨s, e, _, hs⟩ := DataW.trod_string ht h
  exact ⟨s, e, hs⟩
theorem trods_float {t : TypeId} {cs : List Value} {k : FloatKind} (ht : P.underlying t = some (.float k)) (h : Trods enc P w base spare held t cs) : ∃ n, cs = [.float k n] := by
  obtain ⟨fuel, x, h⟩ := h
  cases fuel with
  | zero => simp [DataW.trod] at h
  | succ n =>
    unfold DataW.trod at h
    rw [ht] at h
    split at h <;> simp_all
/-- A slice: nil, or an array whose elements read. -/
theorem trods_slice {t e : TypeId} {cs : List Value} (ht : P.underlying t = some (.slice e)) (h : Trods enc P w base spare held t cs) :
    cs = [.slice none 0 0] ∨ ∃ (a : Addr) (len cap : Nat), cs = [.slice (some a) len cap] ∧ len ≤ cap ∧ cap ≤ maxLen ∧ ∀ i, i < len → ∃ cs', Trods enc P w base spare held e cs' ∧ ∀ j, j < P.cellsOf e → w.cell? (a.add (i * P.cellsOf e + j)) = cs'[j]? := by
  obtain ⟨fuel, x, h⟩ := h
  rcases open_slice ht h with ⟨h0, _⟩ | ⟨a, len, cap, m, n, D, Pl, hcs, hb, hl, hm, hmm, hx, hi⟩
  · exact .inl h0
  · refine .inr ⟨a, len, cap, hcs, hl, hm, fun i hlt => ?_⟩
    obtain ⟨cs', hc, ht'⟩ := hi i (by rw [hmm]; split <;> omega)
    refine ⟨cs', ⟨_, _, ht'⟩, fun j hj => ?_⟩
    obtain ⟨_, _, hat⟩ := World.cells?_some hc
    rw [← Go.Deep.add_add]; exact hat j hj
end

theorem cell_lt {w : World} {a : Addr} {v : Value} (h : w.cell? a = some v) : a.block < w.heap.size := by
  rcases Nat.lt_or_ge a.block w.heap.size with h' | h'
  · exact h'
  · simp [World.cell?, Array.getElem?_eq_none h'] at h
theorem listOf_fn {α : Type} [Inhabited α] {n : Nat} {p : Nat → α → Prop} (h : ∀ i, i < n → ∃ x, p i x) : ∃ l : List α, l.length = n ∧ ∀ i (hi : i < l.length), p i l[i] := by
  obtain ⟨f, hf⟩ := choose_lt h
  exact ⟨(List.range n).map f, by simp, fun i hi => by simpa using hf i (by simpa using hi)⟩
/-- Elements read at an address: a list of them that lies in a block. -/
theorem list_at {α : Type} [Inhabited α] {w : World} {a : Addr} {len n : Nat} (cells : α → List Value) (ok : α → Prop) (hn : 0 < n) (hc : ∀ x, (cells x).length = n) (h : ∀ i, i < len → ∃ x, ok x ∧ ∀ j, j < n → w.cell? (a.add (i * n + j)) = (cells x)[j]?) :
    ∃ l : List α, l.length = len ∧ (∀ x, x ∈ l → ok x) ∧ (0 < l.length → ∃ g o, some a = some ⟨g, o, none⟩ ∧ g < w.heap.size ∧ ∀ i (hi : i < l.length), w.rangeAt g (o + i * n) (cells l[i])) := by
  obtain ⟨l, hll, hl⟩ := listOf_fn h
  subst hll
  refine ⟨l, rfl, fun x hx => ?_, fun h0 => ?_⟩
  · obtain ⟨i, hi, rfl⟩ := List.getElem_of_mem hx
    exact (hl i hi).1
  · have hc0 : w.cell? (a.add (0 * n + 0)) = some ((cells l[0])[0]'(by rw [hc]; exact hn)) := by
      rw [(hl 0 h0).2 0 hn]; exact List.getElem?_eq_getElem _
    have hsp := World.cell?_spot hc0
    have hlt := cell_lt hc0
    obtain ⟨b, o, sp⟩ := a
    simp only [Nat.zero_mul, Nat.add_zero, Addr.add, if_true] at hsp hlt
    subst hsp
    refine ⟨b, o, rfl, hlt, fun i hi j u hj => ?_⟩
    have hjn : j < n := by rw [← hc l[i]]; exact (List.getElem?_eq_some_iff.1 hj).1
    have h5 := (hl i hi).2 j hjn
    rw [Addr.add_mid] at h5
    rw [Nat.add_assoc, h5, hj]

theorem under_valO : Tryz.prog.underlying 29 = some (.struct (Tryz.prog.fieldsOf 29)) := by kernel_rfl
theorem is_valO {H : Type} {enc : TypeId × Value → H} {w : World} {base : Nat} {spare : Nat → Bool} {held : Bool} {cs : List Value} (h : Trods enc Tryz.prog w base spare held 29 cs) : ∃ v : VI, cs = v.cells ∧ 0 ≤ v.k := by
  have hl : cs.length = 4 := (trods_len under_valO h).trans (by kernel_rfl)
  obtain ⟨k, e0, w0⟩ := trods_int Tryz.underlying5 (trods_field 0 under_valO h (T := 5) (o := 0) (n := 1) (by kernel_rfl) (by kernel_rfl))
  obtain ⟨x, e1⟩ := trods_float Tryz.underlying27 (trods_field 1 under_valO h (T := 27) (o := 1) (n := 1) (by kernel_rfl) (by kernel_rfl))
  obtain ⟨s, e2, s2⟩ := trods_string Tryz.underlying9 (trods_field 2 under_valO h (T := 9) (o := 2) (n := 1) (by kernel_rfl) (by kernel_rfl))
  obtain ⟨r, e3, w3⟩ := trods_int Tryz.underlying3 (trods_field 3 under_valO h (T := 3) (o := 3) (n := 1) (by kernel_rfl) (by kernel_rfl))
  have e : cs = [.int .u8 k, .float .f64 x, .string s, .int .i64 r] := by
    rw [show cs = cs.drop 0 from rfl]
    rw [seg cs 0 1 1 rfl, e0]
    rw [seg cs 1 1 2 rfl, e1]
    rw [seg cs 2 1 3 rfl, e2]
    rw [seg cs 3 1 4 rfl, e3]
    rw [List.drop_eq_nil_of_le (by omega)]
    rfl
  exact ⟨⟨k, x, s, r⟩, e, (bounds_u8 w0).1⟩

theorem under_keyO : Tryz.prog.underlying 26 = some (.struct (Tryz.prog.fieldsOf 26)) := by kernel_rfl
theorem is_keyO {H : Type} {enc : TypeId × Value → H} {w : World} {base : Nat} {spare : Nat → Bool} {held : Bool} {cs : List Value} (h : Trods enc Tryz.prog w base spare held 26 cs) : ∃ k : KI, cs = k.cells ∧ k.s.size ≤ maxLen := by
  have hl : cs.length = 2 := (trods_len under_keyO h).trans (by kernel_rfl)
  obtain ⟨s, e0, s0⟩ := trods_string Tryz.underlying9 (trods_field 0 under_keyO h (T := 9) (o := 0) (n := 1) (by kernel_rfl) (by kernel_rfl))
  obtain ⟨n, e1, w1⟩ := trods_int Tryz.underlying3 (trods_field 1 under_keyO h (T := 3) (o := 1) (n := 1) (by kernel_rfl) (by kernel_rfl))
  have e : cs = [.string s, .int .i64 n] := by
    rw [show cs = cs.drop 0 from rfl]
    rw [seg cs 0 1 1 rfl, e0]
    rw [seg cs 1 1 2 rfl, e1]
    rw [List.drop_eq_nil_of_le (by omega)]
    rfl
  exact ⟨⟨s, n⟩, e, s0⟩

theorem under_descO : Tryz.prog.underlying 31 = some (.struct (Tryz.prog.fieldsOf 31)) := by kernel_rfl
theorem is_descO {H : Type} {enc : TypeId × Value → H} {w : World} {base : Nat} {spare : Nat → Bool} {held : Bool} {cs : List Value} (h : Trods enc Tryz.prog w base spare held 31 cs) : ∃ d : DI, cs = d.cs.toList ∧ d.ok ∧ 0 ≤ d.has ∧ d.has ≤ 255 := by
  have hl : cs.length = 16 := (trods_len under_descO h).trans (by kernel_rfl)
  obtain ⟨h0, e0, w0⟩ := trods_int Tryz.underlying5 (trods_field 0 under_descO h (T := 5) (o := 0) (n := 1) (by kernel_rfl) (by kernel_rfl))
  obtain ⟨v, e1, k1⟩ := is_valO (trods_field 1 under_descO h (T := 29) (o := 1) (n := 4) (by kernel_rfl) (by kernel_rfl))
  obtain ⟨g, e2, k2⟩ := is_valO (trods_field 2 under_descO h (T := 29) (o := 5) (n := 4) (by kernel_rfl) (by kernel_rfl))
  obtain ⟨t, e3, k3⟩ := is_valO (trods_field 3 under_descO h (T := 29) (o := 9) (n := 4) (by kernel_rfl) (by kernel_rfl))
  obtain ⟨wr, e4⟩ := trods_bool Tryz.underlying4 (trods_field 4 under_descO h (T := 4) (o := 13) (n := 1) (by kernel_rfl) (by kernel_rfl))
  obtain ⟨en, e5⟩ := trods_bool Tryz.underlying4 (trods_field 5 under_descO h (T := 4) (o := 14) (n := 1) (by kernel_rfl) (by kernel_rfl))
  obtain ⟨cf, e6⟩ := trods_bool Tryz.underlying4 (trods_field 6 under_descO h (T := 4) (o := 15) (n := 1) (by kernel_rfl) (by kernel_rfl))
  have e : cs = (DI.cs ⟨h0, v, g, t, wr, en, cf⟩).toList := by
    rw [show cs = cs.drop 0 from rfl]
    rw [seg cs 0 1 1 rfl, e0]
    rw [seg cs 1 4 5 rfl, e1]
    rw [seg cs 5 4 9 rfl, e2]
    rw [seg cs 9 4 13 rfl, e3]
    rw [seg cs 13 1 14 rfl, e4]
    rw [seg cs 14 1 15 rfl, e5]
    rw [seg cs 15 1 16 rfl, e6]
    rw [List.drop_eq_nil_of_le (by omega)]
    rfl
  exact ⟨⟨h0, v, g, t, wr, en, cf⟩, e, ⟨k1, k2, k3⟩, (bounds_u8 w0).1, (bounds_u8 w0).2⟩

theorem under_propO : Tryz.prog.underlying 91 = some (.struct (Tryz.prog.fieldsOf 91)) := by kernel_rfl
theorem is_propO {H : Type} {enc : TypeId × Value → H} {w : World} {base : Nat} {spare : Nat → Bool} {held : Bool} {cs : List Value} (h : Trods enc Tryz.prog w base spare held 91 cs) : ∃ q : PI, cs = q.cs.toList ∧ q.d.ok ∧ q.k.s.size ≤ maxLen := by
  have hl : cs.length = 18 := (trods_len under_propO h).trans (by kernel_rfl)
  obtain ⟨k, e0, s0⟩ := is_keyO (trods_field 0 under_propO h (T := 26) (o := 0) (n := 2) (by kernel_rfl) (by kernel_rfl))
  obtain ⟨d, e1, k1, b1⟩ := is_descO (trods_field 1 under_propO h (T := 31) (o := 2) (n := 16) (by kernel_rfl) (by kernel_rfl))
  have e : cs = (PI.cs ⟨k, d⟩).toList := by
    rw [show cs = cs.drop 0 from rfl]
    rw [seg cs 0 2 2 rfl, e0]
    rw [seg cs 2 16 18 rfl, e1]
    rw [List.drop_eq_nil_of_le (by omega)]
    rfl
  exact ⟨⟨k, d⟩, e, k1, s0⟩
instance : Inhabited PI := ⟨⟨⟨⟨#[]⟩, 0⟩, DI.zero⟩⟩
theorem is_propsO {H : Type} {enc : TypeId × Value → H} {w : World} {base : Nat} {spare : Nat → Bool} {held : Bool} {cs : List Value} (h : Trods enc Tryz.prog w base spare held 40 cs) : ∃ v l, cs = [v] ∧ RdP l v w ∧ ∀ q ∈ l, q.d.ok ∧ q.k.s.size ≤ maxLen := by
  rcases trods_slice Tryz.underlying40 h with rfl | ⟨a, len, cap, rfl, hl, hm, hx⟩
  · exact ⟨_, [], rfl, ⟨none, 0, rfl, Nat.le_refl _, Nat.zero_le _, fun h => absurd h (by decide)⟩, fun q hq => by cases hq⟩
  · rw [show Tryz.prog.cellsOf 91 = 18 by kernel_rfl] at hx
    obtain ⟨l, rfl, hok, hl2⟩ := list_at (w := w) (a := a) (len := len) (n := 18) (fun q : PI => q.cs.toList) (fun q => q.d.ok ∧ q.k.s.size ≤ maxLen) (by decide) (fun _ => rfl) (fun i hi => by
      obtain ⟨cs', ht, hc⟩ := hx i hi
      obtain ⟨q, rfl, hd, hs⟩ := is_propO ht
      exact ⟨q, ⟨hd, hs⟩, hc⟩)
    exact ⟨_, l, rfl, ⟨some a, cap, rfl, hl, hm, hl2⟩, hok⟩
/-- An object that came in, with its properties. -/
def ObjOk (e : OJ × List PI) (w : World) : Prop := e.1.ok ∧ (∀ q ∈ e.2, q.d.ok ∧ q.k.s.size ≤ maxLen) ∧ RdP e.2 e.1.props w
theorem under_objO : Tryz.prog.underlying 42 = some (.struct (Tryz.prog.fieldsOf 42)) := by kernel_rfl
theorem is_objO {H : Type} {enc : TypeId × Value → H} {w : World} {base : Nat} {spare : Nat → Bool} {held : Bool} {cs : List Value} (h : Trods enc Tryz.prog w base spare held 42 cs) : ∃ e : OJ × List PI, cs = e.1.cs.toList ∧ ObjOk e w := by
  have hl : cs.length = 18 := (trods_len under_objO h).trans (by kernel_rfl)
  obtain ⟨kd, e0, w0⟩ := trods_int Tryz.underlying5 (trods_field 0 under_objO h (T := 5) (o := 0) (n := 1) (by kernel_rfl) (by kernel_rfl))
  obtain ⟨pr, e1, k1⟩ := is_valO (trods_field 1 under_objO h (T := 29) (o := 1) (n := 4) (by kernel_rfl) (by kernel_rfl))
  obtain ⟨ext, e2⟩ := trods_bool Tryz.underlying4 (trods_field 2 under_objO h (T := 4) (o := 5) (n := 1) (by kernel_rfl) (by kernel_rfl))
  obtain ⟨ps, l, e3, r3, o3⟩ := is_propsO (trods_field 3 under_objO h (T := 40) (o := 6) (n := 1) (by kernel_rfl) (by kernel_rfl))
  obtain ⟨tg, e4, k4⟩ := is_valO (trods_field 4 under_objO h (T := 29) (o := 7) (n := 4) (by kernel_rfl) (by kernel_rfl))
  obtain ⟨hd, e5, k5⟩ := is_valO (trods_field 5 under_objO h (T := 29) (o := 11) (n := 4) (by kernel_rfl) (by kernel_rfl))
  obtain ⟨tx, e6, s6⟩ := trods_string Tryz.underlying9 (trods_field 6 under_objO h (T := 9) (o := 15) (n := 1) (by kernel_rfl) (by kernel_rfl))
  obtain ⟨ca, e7⟩ := trods_bool Tryz.underlying4 (trods_field 7 under_objO h (T := 4) (o := 16) (n := 1) (by kernel_rfl) (by kernel_rfl))
  obtain ⟨ma, e8⟩ := trods_bool Tryz.underlying4 (trods_field 8 under_objO h (T := 4) (o := 17) (n := 1) (by kernel_rfl) (by kernel_rfl))
  have e : cs = (OJ.cs ⟨kd, pr, ext, ps, tg, hd, tx, ca, ma⟩).toList := by
    rw [show cs = cs.drop 0 from rfl]
    rw [seg cs 0 1 1 rfl, e0]
    rw [seg cs 1 4 5 rfl, e1]
    rw [seg cs 5 1 6 rfl, e2]
    rw [seg cs 6 1 7 rfl, e3]
    rw [seg cs 7 4 11 rfl, e4]
    rw [seg cs 11 4 15 rfl, e5]
    rw [seg cs 15 1 16 rfl, e6]
    rw [seg cs 16 1 17 rfl, e7]
    rw [seg cs 17 1 18 rfl, e8]
    rw [List.drop_eq_nil_of_le (by omega)]
    rfl
  exact ⟨(⟨kd, pr, ext, ps, tg, hd, tx, ca, ma⟩, l), e, ⟨(bounds_u8 w0).1, k1, k4, k5⟩, o3, r3⟩
instance : Inhabited OJ := ⟨⟨0, .zero, false, .slice none 0 0, .zero, .zero, ⟨#[]⟩, false, false⟩⟩
theorem is_objsO {H : Type} {enc : TypeId × Value → H} {w : World} {base : Nat} {spare : Nat → Bool} {held : Bool} {cs : List Value} (h : Trods enc Tryz.prog w base spare held 22 cs) : ∃ (v : Value) (l : HI), cs = [v] ∧ RdH l v w ∧ HOk l ∧ HKeys l := by
  rcases trods_slice Tryz.underlying22 h with rfl | ⟨a, len, cap, rfl, hl, hm, hx⟩
  · exact ⟨_, [], rfl, ⟨⟨none, 0, rfl, Nat.le_refl _, Nat.zero_le _, fun h => absurd h (by decide)⟩, fun e he => by cases he⟩, fun e he => by (cases he), fun e he => by (cases he)⟩
  · rw [show Tryz.prog.cellsOf 42 = 18 by kernel_rfl] at hx
    obtain ⟨l, rfl, hok, hl2⟩ := list_at (w := w) (a := a) (len := len) (n := 18) (fun e : OJ × List PI => e.1.cs.toList) (fun e => ObjOk e w) (by decide) (fun _ => rfl) (fun i hi => by
      obtain ⟨cs', ht, hc⟩ := hx i hi
      obtain ⟨x, rfl, ho⟩ := is_objO ht
      exact ⟨x, ho, hc⟩)
    exact ⟨_, l, rfl, ⟨⟨some a, cap, rfl, hl, hm, hl2⟩, fun e he => (hok e he).2.2⟩, fun e he => ⟨(hok e he).1, fun q hq => ((hok e he).2.1 q hq).1⟩, fun e he q hq => ((hok e he).2.1 q hq).2⟩
theorem under_heapO : Tryz.prog.underlying 24 = some (.struct (Tryz.prog.fieldsOf 24)) := by kernel_rfl
set_option maxRecDepth 100000 in
theorem open_heap {H : Type} {enc : TypeId × Value → H} {w : World} {r : Reach} {b0 base : Nat} {spare : Nat → Bool} {held : Bool} {v : Value} {d : DataW H} {p : List MemPlace}
    (hv : Value.okWide Tryz.prog w r b0 24 v) (h : DataW.Trod enc Tryz.prog w base spare held 24 v d p) : ∃ (l : HI) (x : Value), v = .agg #[x] ∧ HOk l ∧ HKeys l ∧ RdH l x w := by
  obtain ⟨cs, rfl, hsz⟩ := okWide_struct under_heapO hv
  obtain ⟨fuel, hf⟩ := h
  have ht : Trods enc Tryz.prog w base spare held 24 cs.toList := ⟨fuel, _, hf⟩
  have hl : cs.toList.length = 1 := (trods_len under_heapO ht).trans (by kernel_rfl)
  obtain ⟨x, l, e0, hr, hok, hk⟩ := is_objsO (trods_field 0 under_heapO ht (T := 22) (o := 0) (n := 1) (by kernel_rfl) (by kernel_rfl))
  have e : cs.toList = [x] := by
    rw [show cs.toList = cs.toList.drop 0 from rfl, seg cs.toList 0 1 1 rfl, e0, List.drop_eq_nil_of_le (by omega)]
    rfl
  exact ⟨l, x, congrArg Value.agg (Array.toList_inj.1 (e.trans rfl)), hok, hk, hr⟩

theorem own_door : ownKnob Tryz.prog.godebug = none := by kernel_rfl
theorem laidOut_door : laidOutB Tryz.prog = true := by kernel_rfl
instance : Inhabited VI := ⟨VI.zero⟩
theorem is_valsL {H : Type} {enc : TypeId × Value → H} {w : World} {base : Nat} {spare : Nat → Bool} {held : Bool} {cs : List Value} (h : Trods enc Tryz.prog w base spare held 32 cs) : ∃ v l, cs = [v] ∧ RdL VI.cells 4 l v w ∧ ∀ x ∈ l, 0 ≤ x.k := by
  rcases trods_slice Tryz.underlying32 h with rfl | ⟨a, len, cap, rfl, hl, hm, hx⟩
  · exact ⟨_, [], rfl, ⟨none, 0, rfl, Nat.le_refl _, Nat.zero_le _, fun h => absurd h (by decide)⟩, fun q hq => by cases hq⟩
  · rw [show Tryz.prog.cellsOf 29 = 4 by kernel_rfl] at hx
    obtain ⟨l, rfl, hok, hl2⟩ := list_at (w := w) (a := a) (len := len) (n := 4) (VI.cells) (fun q : VI => 0 ≤ q.k) (by decide) (fun _ => rfl) (fun i hi => by
      obtain ⟨cs', ht, hc⟩ := hx i hi
      obtain ⟨q, rfl, hd⟩ := is_valO ht
      exact ⟨q, hd, hc⟩)
    exact ⟨_, l, rfl, ⟨some a, cap, rfl, hl, hm, hl2⟩, hok⟩
theorem under_askL : Tryz.prog.underlying 34 = some (.struct (Tryz.prog.fieldsOf 34)) := by kernel_rfl
/-- An ask that came in. -/
def AskIn (a : AI) (args : List VI) (w : World) : Prop := 0 ≤ a.m ∧ a.d.ok ∧ 0 ≤ a.v.k ∧ 0 ≤ a.r.k ∧ a.k.s.size ≤ maxLen ∧ (∀ x ∈ args, 0 ≤ x.k) ∧ RdL VI.cells 4 args a.args w ∧ (0 ≤ a.d.has ∧ a.d.has ≤ 255)
set_option maxRecDepth 100000 in
theorem is_askL {H : Type} {enc : TypeId × Value → H} {w : World} {base : Nat} {spare : Nat → Bool} {held : Bool} {cs : List Value} (h : Trods enc Tryz.prog w base spare held 34 cs) : ∃ (a : AI) (l : List VI), cs = a.cs.toList ∧ AskIn a l w := by
  have hl : cs.length = 29 := (trods_len under_askL h).trans (by kernel_rfl)
  obtain ⟨m, e0, w0⟩ := trods_int Tryz.underlying5 (trods_field 0 under_askL h (T := 5) (o := 0) (n := 1) (by kernel_rfl) (by kernel_rfl))
  obtain ⟨ob, e1, w1⟩ := trods_int Tryz.underlying3 (trods_field 1 under_askL h (T := 3) (o := 1) (n := 1) (by kernel_rfl) (by kernel_rfl))
  obtain ⟨kk, e2, s2⟩ := is_keyO (trods_field 2 under_askL h (T := 26) (o := 2) (n := 2) (by kernel_rfl) (by kernel_rfl))
  obtain ⟨d, e3, k3, b3⟩ := is_descO (trods_field 3 under_askL h (T := 31) (o := 4) (n := 16) (by kernel_rfl) (by kernel_rfl))
  obtain ⟨v, e4, k4⟩ := is_valO (trods_field 4 under_askL h (T := 29) (o := 20) (n := 4) (by kernel_rfl) (by kernel_rfl))
  obtain ⟨r, e5, k5⟩ := is_valO (trods_field 5 under_askL h (T := 29) (o := 24) (n := 4) (by kernel_rfl) (by kernel_rfl))
  obtain ⟨args, l6, e6, r6, o6⟩ := is_valsL (trods_field 6 under_askL h (T := 32) (o := 28) (n := 1) (by kernel_rfl) (by kernel_rfl))
  have e : cs = (AI.cs ⟨m, ob, kk, d, v, r, args⟩).toList := by
    rw [show cs = cs.drop 0 from rfl]
    rw [seg cs 0 1 1 rfl, e0]
    rw [seg cs 1 1 2 rfl, e1]
    rw [seg cs 2 2 4 rfl, e2]
    rw [seg cs 4 16 20 rfl, e3]
    rw [seg cs 20 4 24 rfl, e4]
    rw [seg cs 24 4 28 rfl, e5]
    rw [seg cs 28 1 29 rfl, e6]
    rw [List.drop_eq_nil_of_le (by omega)]
    rfl
  exact ⟨⟨m, ob, kk, d, v, r, args⟩, l6, e, (bounds_u8 w0).1, k3, k4, k5, s2, o6, r6, b3⟩
set_option maxRecDepth 100000 in
theorem open_ask {H : Type} {enc : TypeId × Value → H} {w : World} {r : Reach} {b0 base : Nat} {spare : Nat → Bool} {held : Bool} {v : Value} {d : DataW H} {p : List MemPlace}
    (hv : Value.okWide Tryz.prog w r b0 34 v) (h : DataW.Trod enc Tryz.prog w base spare held 34 v d p) : ∃ (a : AI) (l : List VI), v = a.a ∧ AskIn a l w := by
  obtain ⟨cs, rfl, hsz⟩ := okWide_struct under_askL hv
  obtain ⟨fuel, hf⟩ := h
  obtain ⟨a, l, e, ok⟩ := is_askL (cs := cs.toList) ⟨fuel, _, hf⟩
  exact ⟨a, l, by rw [AI.a, ← Array.toList_inj.1 e], ok⟩

end Go.Proofs.YtbmaodlghglopaaGreatDoor
