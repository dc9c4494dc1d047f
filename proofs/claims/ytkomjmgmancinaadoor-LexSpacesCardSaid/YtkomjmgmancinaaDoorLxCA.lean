/-
  Tokens in memory: what their cells read as.
  Slices of tokens that can be read: a row of the call's own.
  The walk of the statements' own 'token'.
  Structs compared by '==', field by field.
  Two tokens compared by '=='.
-/
import Derived.Test.YtkomjmgmancinaaDoorTokensWalk
import Derived.Test.YtkomjmgmancinaaDoorRdTok
import Derived.Test.YtkomjmgmancinaaDoorCutPlain
import Derived.Test.YtkomjmgmancinaaDoorLxK
import Derived.Test.YtkomjmgmancinaaDoorTokWalk
import Derived.Test.YtkomjmgmancinaaDoorRows
import Derived.WalkKit
import Derived.Laws.StructEq
namespace Go.Proofs.YtkomjmgmancinaaDoor
open Go.RowKit

theorem ne_isT {x y : Nat} {m n : Int} (h : Fl.Is x m) (k : Fl.Is y n) : (FloatKind.f64.format.order x y != some .eq) = !decide (m = n) := by
  rw [bne, Fl.order_is h k]; exact congrArg (!·) (Fl.compare_eq_iff m n)

/-- What a token's cells read as, out of a row of them. -/
theorem tok_loads {B : Nat} {l : List TC} {g c : Nat} {w : World} (h : RowT B l (.slice (some ⟨g, 0, none⟩) l.length c) w) (k : Nat) (hk : k < l.length) :
    w.cell? ⟨g, k * 4, none⟩ = some (.int .u8 l[k].k) ∧ w.cell? ⟨g, k * 4 + 1, none⟩ = some (.int .i64 l[k].p) ∧ w.cell? ⟨g, k * 4 + 2, none⟩ = some (.string l[k].text) ∧ w.cell? ⟨g, k * 4 + 3, none⟩ = some (.float .f64 l[k].num) := by
  have hc : ∀ f, f < 4 → w.cell? ⟨g, k * 4 + f, none⟩ = l[k].cells[f]? := fun f hf => by
    rw [h.cellAt (k * 4 + f) (by omega), cellsT_get l k f hk hf]
  exact ⟨hc 0 (by omega), hc 1 (by omega), hc 2 (by omega), hc 3 (by omega)⟩
theorem rowT_form {B : Nat} {l : List TC} {v : Value} {w : World} (h : RowT B l v w) : ∃ pa c, v = .slice pa l.length c ∧ (0 < l.length → ∃ g, pa = some ⟨g, 0, none⟩) := by
  obtain ⟨_, ⟨rfl, h0⟩ | ⟨g, cap, cur, rfl, _⟩⟩ := h
  · exact ⟨none, 0, by rw [h0], fun hh => absurd hh (by omega)⟩
  · exact ⟨_, _, rfl, fun _ => ⟨g, rfl⟩⟩
theorem text_eq {a b : ByteArray} {l : List UInt8} (h : a.data.toList = l) (k : b.data.toList = l) : b = a := by
  obtain ⟨⟨a⟩⟩ := a
  obtain ⟨⟨b⟩⟩ := b
  simp only at h k
  rw [h, k]

end Go.Proofs.YtkomjmgmancinaaDoor

namespace Go.Proofs.YtkomjmgmancinaaDoor
open Go.RowKit

theorem ti_cells (l : List TC) : (l.map TC.ti).flatMap TI.cells = cellsT l := by
  induction l with
  | nil => rfl
  | cons a l ih => rw [List.map_cons, List.flatMap_cons, ih]; rfl
/-- The tokens of a row of the call's own. -/
theorem rdT_own {B : Nat} {cs : List TC} {v : Value} {w : World} (h : RowT B cs v w) : RdT (cs.map TC.ti) v w := by
  have h0 := h
  obtain ⟨hlt, hf⟩ := h
  rcases hf with ⟨rfl, hx⟩ | ⟨g, cap, cur, rfl, hb, hg, hnc, hcap, hsz, htk⟩
  · exact ⟨none, 0, by rw [List.length_map, hx], by rw [List.length_map, hx]; exact Nat.le_refl _, Nat.zero_le _, fun h => by rw [List.length_map, hx] at h; omega⟩
  · refine ⟨some ⟨g, 0, none⟩, cap, by rw [List.length_map], by rw [List.length_map]; exact hnc, hcap, fun _ => ⟨g, 0, rfl, ?_, fun i hi j u hj => ?_⟩⟩
    · rcases Nat.lt_or_ge g w.heap.size with h' | h'
      · exact h'
      · simp [Array.getElem?_eq_none h'] at hg
    · have hi2 : i < cs.length := by simpa using hi
      obtain ⟨l0, l1, l2, l3⟩ := tok_loads h0 i hi2
      rw [Nat.zero_add]
      have e : (cs.map TC.ti)[i].cells = cs[i].cells := by rw [List.getElem_map]; rfl
      rw [e] at hj
      match j, hj with
      | 0, hj => rw [← (Option.some.inj hj)]; exact l0
      | 1, hj => rw [← (Option.some.inj hj)]; exact l1
      | 2, hj => rw [← (Option.some.inj hj)]; exact l2
      | 3, hj => rw [← (Option.some.inj hj)]; exact l3
      | _ + 4, hj => simp [TC.cells] at hj

end Go.Proofs.YtkomjmgmancinaaDoor

namespace Go.Proofs.YtkomjmgmancinaaDoor
open Go.RowKit

set_option maxRecDepth 100000 in
theorem lawToken_any (k : Int) (s : ByteArray) (p : Int) (w : World) : Calls Tryd.prog 41 #[.int .u8 k, .string s, .int .i64 p] w fun e w' => e = .returned (.agg #[.int .u8 k, .int .i64 p, .string s, .float .f64 0]) ∧ Below w.heap.size w w' := by
  go_enter Tryd.func41, Tryd.ntmps41
  go_wp2_with fail
  refine bodyPost_ret (v := .agg #[.int .u8 k, .int .i64 p, .string s, .float .f64 0]) (by simp [results, Tryd.results41, go_sem]) rfl ?_
  exact ⟨rfl, box_one _ _⟩

end Go.Proofs.YtkomjmgmancinaaDoor

namespace Go.Proofs.YtkomjmgmancinaaDoor
open Go.RowKit

section
variable {P : Program}
theorem eqS_float (d : Nat) (t : TypeId) (a b : Nat) (k' : FloatKind) (h : P.underlying t = some (.float k')) (w : World) : (Op.equalIn (d + 1) t (.float .f64 a) (.float .f64 b)).run P w = .ok (FloatKind.f64.format.order a b == some .eq) w := by
  simp [Op.equalIn, run_underlying h, Op.floatEq]

/-- Is a type one cell wide, and no struct or array? -/
def plainT (P : Program) (t : TypeId) : Bool := match P.underlying t with | some (.struct _) => false | some (.array _ _) => false | none => false | _ => true
theorem part_plain {t : TypeId} (h : plainT P t = true) {cs : Array Value} {o : Nat} {v : Value} (hv : cs[o]? = some v) (w : World) : (part t cs o).run P w = .ok v w := by
  unfold plainT at h
  cases hu : P.underlying t with
  | none => rw [hu] at h; cases h
  | some d =>
    have hA : (isAgg t).run P w = .ok false w := by
      rw [hu] at h
      simp only [isAgg, Sem.run_bind, run_underlying hu, Result.andThen_ok]
      cases d <;> first | rfl | cases h
    simp only [part, Sem.run_bind, hA, Result.andThen_ok, hv]
    rfl
theorem eqF_plain {d : Nat} {xs ys : Array Value} {f : Field} {fs : List Field} {a b : Value} {r : Bool} (hn : f.name ≠ "_") (hp : plainT P f.type = true) (hx : xs[f.offset]? = some a) (hy : ys[f.offset]? = some b) (he : ∀ w, (Op.equalIn d f.type a b).run P w = .ok r w) (w : World) :
    (Op.eqFields d xs ys (f :: fs)).run P w = if r then (Op.eqFields d xs ys fs).run P w else .ok false w := by
  simp only [Op.eqFields, if_pos hn, Sem.run_bind, part_plain hp hx, part_plain hp hy, Result.andThen_ok, he, Sem.run_ite]
  cases r <;> rfl
theorem eqF_nil {d : Nat} {xs ys : Array Value} (w : World) : (Op.eqFields d xs ys []).run P w = .ok true w := rfl
end

end Go.Proofs.YtkomjmgmancinaaDoor

namespace Go.Proofs.YtkomjmgmancinaaDoor
open Go.RowKit

theorem fields_tok : ((Tryd.prog.fieldsOf 25).toList.map (fun f => (f.name, f.type, f.offset)) == [("Kind", 5, 0), ("At", 3, 1), ("Text", 9, 2), ("Num", 23, 3)]) = true := by kernel_rfl
theorem under_tok : Tryd.prog.underlying 25 = some (.struct (Tryd.prog.fieldsOf 25)) := by kernel_rfl
theorem stood_tok : Tryd.prog.stoodInHeld 25 = false := by kernel_rfl
theorem guard_tok : Tryd.prog.eqGuardType Tryd.prog.depth 25 = false := by kernel_rfl
def eqTok (k k' p p' : Int) (s s' : ByteArray) (x y : Nat) : Bool := (k == k') && ((p == p') && ((s.toList == s'.toList) && (FloatKind.f64.format.order x y == some .eq)))
theorem equal_tok (k k' p p' : Int) (s s' : ByteArray) (x y : Nat) (w : World) : (Op.equalIn 10000 25 (.agg #[.int .u8 k, .int .i64 p, .string s, .float .f64 x]) (.agg #[.int .u8 k', .int .i64 p', .string s', .float .f64 y])).run Tryd.prog w =
    .ok (eqTok k k' p p' s s' x y) w := by
  unfold eqTok
  rw [run_equalIn_struct _ _ _ _ _ under_tok stood_tok]
  have hf := eq_of_beq fields_tok
  generalize (Tryd.prog.fieldsOf 25).toList = fs at *
  rcases fs with _ | ⟨f0, _ | ⟨f1, _ | ⟨f2, _ | ⟨f3, _ | ⟨f4, fs⟩⟩⟩⟩⟩
  case cons.cons.cons.cons.nil =>
    simp only [List.map_cons, List.map_nil, List.cons.injEq, Prod.mk.injEq, and_true] at hf
    obtain ⟨⟨a0, b0, c0⟩, ⟨a1, b1, c1⟩, ⟨a2, b2, c2⟩, ⟨a3, b3, c3⟩⟩ := hf
    rw [eqF_plain (a := .int .u8 k) (b := .int .u8 k') (by rw [a0]; decide) (by rw [b0]; kernel_rfl) (by rw [c0]; rfl) (by rw [c0]; rfl) (by intro w; rw [b0]; exact run_equalIn_int w 9998 _ .u8 .u8 _ _ (by kernel_rfl)),
      eqF_plain (a := .int .i64 p) (b := .int .i64 p') (by rw [a1]; decide) (by rw [b1]; kernel_rfl) (by rw [c1]; rfl) (by rw [c1]; rfl) (by intro w; rw [b1]; exact run_equalIn_int w 9998 _ .i64 .i64 _ _ (by kernel_rfl)),
      eqF_plain (a := .string s) (b := .string s') (by rw [a2]; decide) (by rw [b2]; kernel_rfl) (by rw [c2]; rfl) (by rw [c2]; rfl) (by intro w; rw [b2]; exact run_equalIn_string w 9998 _ _ _ (by kernel_rfl)),
      eqF_plain (a := .float .f64 x) (b := .float .f64 y) (by rw [a3]; decide) (by rw [b3]; kernel_rfl) (by rw [c3]; rfl) (by rw [c3]; rfl) (by intro w; rw [b3]; exact eqS_float 9998 _ _ _ .f64 (by kernel_rfl) w), eqF_nil]
    cases k == k' <;> cases p == p' <;> cases s.toList == s'.toList <;> cases (FloatKind.f64.format.order x y == some .eq) <;> rfl
  all_goals (exfalso; simp at hf)
theorem eql_tok (k k' p p' : Int) (s s' : ByteArray) (x y : Nat) (w : World) : (binOp .eql 25 (.agg #[.int .u8 k, .int .i64 p, .string s, .float .f64 x]) (.agg #[.int .u8 k', .int .i64 p', .string s', .float .f64 y])).run Tryd.prog w =
    .ok (.bool (eqTok k k' p p' s s' x y)) w := by
  rw [run_eql_struct, equal_tok]; rfl
theorem neq_tok (k k' p p' : Int) (s s' : ByteArray) (x y : Nat) (w : World) : (binOp .neq 25 (.agg #[.int .u8 k, .int .i64 p, .string s, .float .f64 x]) (.agg #[.int .u8 k', .int .i64 p', .string s', .float .f64 y])).run Tryd.prog w =
    .ok (.bool (!eqTok k k' p p' s s' x y)) w := by
  rw [run_neq_struct, equal_tok]; rfl
theorem eqTok_same (k p : Int) (s : ByteArray) (x y : Nat) (h : (FloatKind.f64.format.order x y == some .eq) = true) : eqTok k k p p s s x y = true := by
  unfold eqTok; rw [h]; simp

end Go.Proofs.YtkomjmgmancinaaDoor
