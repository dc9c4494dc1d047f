/-
  The wrap for a law whose row lists variables, the world's shape handed on: what a library's function asks of a variable that is not listed.
  What the world's shape gives the walks: the library's variable MaxLen holds some number.
  What the laid variables give the walks: the library's table of powers of ten.
  A slice of tokens that came in, opened.
-/
import Derived.Test.YtkomjmgmancinaaDoorRows
import Derived.Handed
import Derived.HandedShaped
import Derived.ProofKit
import Derived.Test.YtkomjmgmancinaaDoorLxG
import Derived.Test.YtkomjmgmancinaaDoorTie
import Derived.Test.YtkomjmgmancinaaDoorCards
import Derived.OpenShut
import Derived.LaidMore
import Derived.Lay
import Derived.SevenTiedAt
import Derived.Stop.Joined
import Derived.Shelf.Vars
import Derived.Test.YtkomjmgmancinaaDoorLxK
import Derived.Lib.LaidTab
import Derived.Stop.LaidErr
import Derived.Test.YtkomjmgmancinaaDoorLxT
import Derived.Lib.SmallJoins
import Derived.Deep.Slices
import Derived.Deep.Fields
import Derived.ChangeSame
namespace Go.Proofs.YtkomjmgmancinaaDoor
open Go.ChangeShapes Go.WideShapes Go.ChangeAt Go.RowKit

section
variable {H : Type} {enc : TypeId × Value → H}
theorem handed_shaped {a : Assume} {C : Checked} {os : Os} {f : FuncId} {fn : Func} {s : ChangeSpec} {conds : List PathCond} {apart fresh handsOn again : Bool} {X : World → Array Value → Prop}
    (hX : ∀ (w w' : World) (args : Array Value), w.heap = w'.heap → X w args → X w' args)
    (own : ownKnob C.prog.godebug = none) (started : os.Started) (noInit : C.prog.inits.idxOf? f = none) (hfn : C.prog.funcs[f]? = some fn)
    (witness : ∃ (w : World) (tape : Tape) (i : Input), w.os = os ∧ (w.forCall tape i).Shaped C.prog ∧ i.vars = [] ∧ Input.okWide C.prog (w.forCall tape i) .any w.heap.size f i ∧
      ((s.pre enc C.prog fn conds apart (w.forCall tape i).memory i.args ∧ X (w.forCall tape i).memory i.args) ∧ sizedMet enc C.prog fn (OpenSpec.ofChange s) apart (w.forCall tape i).memory i.args) ∧ a.holds C.prog (lone (Frame.enter C.prog f i.args .normal) [] (w.forCall tape i)))
    (contract : ∀ (W : World) (base : Nat) (args : Array Value) (ds gs : List (DataW H)) (before : List MemPlace),
      (∀ (j : Nat) t v, fn.params[j]? = some t → args[j]? = some v → Value.okWide C.prog W .any base t v) →
      DataW.Whole enc C.prog fn.params.toList s.vars apart W args.toList ds gs before → X W args → W.ShapedOpen C.prog →
      Calls C.prog f args W fun e W' => ∃ v, e = .returned v ∧ s.post enc C.prog fn apart fresh handsOn again W args v W') :
    ReturnsInHanded a C os f .any (fun w args => (s.pre enc C.prog fn conds apart w args ∧ X w args) ∧ sizedMet enc C.prog fn (OpenSpec.ofChange s) apart w args) (s.post enc C.prog fn apart fresh handsOn again) := by
  refine returnsInHanded_of_calls own started noInit witness ?_
  intro w tape i _ hsh _ hok hpre _
  obtain ⟨_, _, _, fn', hfn', _, _, _, _, hval⟩ := hok
  have e : fn' = fn := Option.some.inj (hfn'.symm.trans hfn)
  subst e
  obtain ⟨⟨⟨ds, gs, before, hw, _⟩, hx⟩, _⟩ := hpre
  have hw' := DataW.Whole.of_heap (w' := w.forCall tape i) (by rfl) hw
  refine (contract (w.forCall tape i) w.heap.size i.args ds gs before hval hw' (hX _ _ _ (by rfl) hx) hsh).mono fun e W' ⟨v, he, hp⟩ => ?_
  subst he
  exact ChangeSpec.post_blind hp

/-- The same, the form's reach handed on. -/
theorem handed_sized {a : Assume} {C : Checked} {os : Os} {f : FuncId} {fn : Func} {s : ChangeSpec} {conds : List PathCond} {apart fresh handsOn again : Bool} {X : World → Array Value → Prop}
    (hX : ∀ (w w' : World) (args : Array Value), w.heap = w'.heap → X w args → X w' args)
    (own : ownKnob C.prog.godebug = none) (started : os.Started) (noInit : C.prog.inits.idxOf? f = none) (hfn : C.prog.funcs[f]? = some fn)
    (witness : ∃ (w : World) (tape : Tape) (i : Input), w.os = os ∧ (w.forCall tape i).Shaped C.prog ∧ i.vars = [] ∧ Input.okWide C.prog (w.forCall tape i) .any w.heap.size f i ∧
      ((s.pre enc C.prog fn conds apart (w.forCall tape i).memory i.args ∧ X (w.forCall tape i).memory i.args) ∧ sizedMet enc C.prog fn (OpenSpec.ofChange s) apart (w.forCall tape i).memory i.args) ∧ a.holds C.prog (lone (Frame.enter C.prog f i.args .normal) [] (w.forCall tape i)))
    (contract : ∀ (W : World) (base : Nat) (args : Array Value) (ds gs : List (DataW H)) (before : List MemPlace),
      (∀ (j : Nat) t v, fn.params[j]? = some t → args[j]? = some v → Value.okWide C.prog W .any base t v) →
      DataW.Whole enc C.prog fn.params.toList s.vars apart W args.toList ds gs before → (DataW.weightsEach C.prog (fn.params.toList ++ s.plain.varTypes C.prog) (ds ++ gs)).all (· ≤ reachBytes) = true → X W args → W.ShapedOpen C.prog →
      Calls C.prog f args W fun e W' => ∃ v, e = .returned v ∧ s.post enc C.prog fn apart fresh handsOn again W args v W') :
    ReturnsInHanded a C os f .any (fun w args => (s.pre enc C.prog fn conds apart w args ∧ X w args) ∧ sizedMet enc C.prog fn (OpenSpec.ofChange s) apart w args) (s.post enc C.prog fn apart fresh handsOn again) := by
  refine returnsInHanded_of_calls own started noInit witness ?_
  intro w tape i _ hsh _ hok hpre _
  obtain ⟨_, _, _, fn', hfn', _, _, _, _, hval⟩ := hok
  have e : fn' = fn := Option.some.inj (hfn'.symm.trans hfn)
  subst e
  obtain ⟨⟨⟨ds, gs, before, hw, _⟩, hx⟩, hz⟩ := hpre
  have hw' := DataW.Whole.of_heap (w' := w.forCall tape i) (by rfl) hw
  refine (contract (w.forCall tape i) w.heap.size i.args ds gs before hval hw' (hz.weights hw) (hX _ _ _ (by rfl) hx) hsh).mono fun e W' ⟨v, he, hp⟩ => ?_
  subst he
  exact ChangeSpec.post_blind hp
end

end Go.Proofs.YtkomjmgmancinaaDoor

namespace Go.Proofs.YtkomjmgmancinaaDoor
open Go.ChangeShapes Go.WideShapes Go.ChangeAt Go.RowKit

theorem own_door : ownKnob Tryd.prog.godebug = none := by kernel_rfl
theorem laidOut_door : laidOutB Tryd.prog = true := by kernel_rfl

theorem facts_of {W : World} (h : W.ShapedOpen Tryd.prog) : Mx W := Tryd.laysM143.s1_3 W h

end Go.Proofs.YtkomjmgmancinaaDoor

namespace Go.Proofs.YtkomjmgmancinaaDoor
open Go.ChangeShapes Go.WideShapes Go.ChangeAt Go.RowKit

theorem tabN_of {W : World} (h : laidMetH Tryd.prog Rows.lexNamesRow.laid W) : Tab W := by
  rw [MakeChecks.laidMetH_plain _ _ _ (by kernel_rfl)] at h
  have h1 := laidMet.tail h
  have h2 := laidMet.tail h1
  exact Lib.tabIs_of_head (k := .u64) (zs := Lib.pow10Tab) (show Tryd.prog.globalNamed "internal/strconv.uint64pow10" = some 2 by kernel_rfl) (show (Tryd.prog.globals[2]?).map (·.type) = some 120 by kernel_rfl) Tryd.underlying120 Tryd.underlying102 (by kernel_rfl) (by kernel_rfl) h2
theorem tabB_of {W : World} (h : laidMetH Tryd.prog Rows.lexBackRow.laid W) : Tab W := by
  rw [MakeChecks.laidMetH_plain _ _ _ (by kernel_rfl)] at h
  have h1 := laidMet.tail h
  have h2 := laidMet.tail h1
  exact Lib.tabIs_of_head (k := .u64) (zs := Lib.pow10Tab) (show Tryd.prog.globalNamed "internal/strconv.uint64pow10" = some 2 by kernel_rfl) (show (Tryd.prog.globals[2]?).map (·.type) = some 120 by kernel_rfl) Tryd.underlying120 Tryd.underlying102 (by kernel_rfl) (by kernel_rfl) h2
theorem tabS_of {W : World} (h : laidMetH Tryd.prog Rows.lexSpacesRow.laid W) : Tab W := by
  rw [MakeChecks.laidMetH_plain _ _ _ (by kernel_rfl)] at h
  have h1 := laidMet.tail h
  have h2 := laidMet.tail h1
  exact Lib.tabIs_of_head (k := .u64) (zs := Lib.pow10Tab) (show Tryd.prog.globalNamed "internal/strconv.uint64pow10" = some 2 by kernel_rfl) (show (Tryd.prog.globals[2]?).map (·.type) = some 120 by kernel_rfl) Tryd.underlying120 Tryd.underlying102 (by kernel_rfl) (by kernel_rfl) h2
theorem tabT_of {W : World} (h : laidMetH Tryd.prog Rows.lexTokensRow.laid W) : Tab W := by
  rw [MakeChecks.laidMetH_plain _ _ _ (by kernel_rfl)] at h
  have h1 := laidMet.tail h
  have h2 := laidMet.tail h1
  exact Lib.tabIs_of_head (k := .u64) (zs := Lib.pow10Tab) (show Tryd.prog.globalNamed "internal/strconv.uint64pow10" = some 2 by kernel_rfl) (show (Tryd.prog.globals[2]?).map (·.type) = some 120 by kernel_rfl) Tryd.underlying120 Tryd.underlying102 (by kernel_rfl) (by kernel_rfl) h2

end Go.Proofs.YtkomjmgmancinaaDoor

namespace Go.Proofs.YtkomjmgmancinaaDoor
open Go.ChangeShapes Go.WideShapes Go.ChangeAt Go.RowKit Go.Deep

section
variable {H : Type} {enc : TypeId × Value → H} {P : Program} {w : World} {base : Nat} {spare : Nat → Bool} {held : Bool}
theorem trodT_float {fuel : Nat} {t : TypeId} {cs : List Value} {x : DataW H × List MemPlace} {k : FloatKind} (ht : P.underlying t = some (.float k)) (h : DataW.trod enc P w base spare held fuel t cs = some x) : ∃ n, cs = [Value.float k n] := by
  cases fuel with
  | zero => simp [DataW.trod] at h
  | succ n =>
    unfold DataW.trod at h
    rw [ht] at h
    split at h <;> simp_all
theorem weightsAll_mem {e : TypeId} : ∀ {l : List (DataW H)} {d : DataW H}, d ∈ l → ∀ n, n ∈ d.weights P e → n ∈ DataW.weightsAll P e l
  | x :: l, d, hd, n, hn => by
    rw [DataW.weightsAll]
    rcases List.mem_cons.1 hd with rfl | h
    · exact List.mem_append_left _ hn
    · exact List.mem_append_right _ (weightsAll_mem h n hn)

theorem open_slice_fieldsT {t e : TypeId} {fs : Array Field} {fuel : Nat} {cs : List Value} {x : DataW H × List MemPlace} (ht : P.underlying t = some (.slice e)) (he : P.underlying e = some (.struct fs))
    (hone : oneCellFields P fs = true) (hC : P.cellsOf e = fs.size) (h : DataW.trod enc P w base spare held fuel t cs = some x) :
    (cs = [.slice none 0 0] ∧ x = (.nil, [])) ∨
    ∃ (a : Addr) (len cap m : Nat) (D : Nat → DataW H) (Pl : Nat → List MemPlace), cs = [.slice (some a) len cap] ∧ base ≤ a.block ∧ len ≤ cap ∧ cap ≤ maxLen ∧ m = (if spare a.block then cap else len) ∧
      x = (.slice ((List.range len).map D) ((List.range (m - len)).map fun j => D (len + j)), MemPlace.row a (m * fs.size) ++ (List.range m).flatMap Pl) ∧
      ∀ i, i < m → ∃ (ys : List (DataW H × List MemPlace)) (n : Nat), D i = .agg (ys.map (·.1)) ∧ Pl i = ys.flatMap (·.2) ∧ ys.length = fs.size ∧
        ∀ (j : Nat) (f : Field), fs[j]? = some f → ∃ (v : Value) (y : DataW H × List MemPlace), w.cell? (a.add (i * fs.size + j)) = some v ∧ ys[j]? = some y ∧ DataW.trod enc P w base spare held n f.type [v] = some y := by
  rcases open_slice ht h with h0 | ⟨a, len, cap, m, n, D, Pl, hcs, hb, hl, hm, hmm, hx, hi⟩
  · exact .inl h0
  · refine .inr ⟨a, len, cap, m, D, Pl, hcs, hb, hl, hm, hmm, by rw [hC] at hx; exact hx, fun i him => ?_⟩
    obtain ⟨cs', hc, ht'⟩ := hi i him
    rw [hC] at hc
    obtain ⟨ys, n', hn', hy, hlen, hyl, hf⟩ := DataW.trod_struct he ht'
    obtain ⟨_, hcl, hat⟩ := World.cells?_some hc
    simp only [Prod.mk.injEq] at hy
    refine ⟨ys, n', hy.1, hy.2, hyl, fun j f hj => ?_⟩
    obtain ⟨ho, hk⟩ := hone_of hone j f hj
    have hjl : j < fs.size := (Array.getElem?_eq_some_iff.1 hj).1
    have hcell := hat j hjl
    have hv : cs'[j]? = some (cs'[j]'(by omega)) := List.getElem?_eq_getElem (by omega)
    have h1 := hf j f hj
    rw [ho, hk] at h1
    have hone' : (cs'.drop j).take 1 = [cs'[j]'(by omega)] := by
      rw [List.drop_eq_getElem_cons (by omega)]
      rfl
    rw [hone'] at h1
    have hys : ys[j]? = some (ys[j]'(by omega)) := List.getElem?_eq_getElem (by omega)
    refine ⟨_, _, ?_, hys, h1.trans hys⟩
    rw [← Go.Deep.add_add, hcell, hv]
end

theorem cell_lt {w : World} {a : Addr} {v : Value} (h : w.cell? a = some v) : a.block < w.heap.size := by
  rcases Nat.lt_or_ge a.block w.heap.size with h' | h'
  · exact h'
  · simp [World.cell?, Array.getElem?_eq_none h'] at h

theorem listOf_fn {α : Type} [Inhabited α] {n : Nat} {p : Nat → α → Prop} (h : ∀ i, i < n → ∃ x, p i x) : ∃ l : List α, l.length = n ∧ ∀ i (hi : i < l.length), p i l[i] := by
  obtain ⟨f, hf⟩ := choose_lt h
  exact ⟨(List.range n).map f, by simp, fun i hi => by simpa using hf i (by simpa using hi)⟩

instance : Inhabited TI := ⟨⟨0, 0, ⟨#[]⟩, 0⟩⟩

theorem open_toks {H : Type} {enc : TypeId × Value → H} {w : World} {r : Reach} {b0 base : Nat} {spare : Nat → Bool} {held : Bool} {v : Value} {d : DataW H} {p : List MemPlace}
    (_ : Value.okWide Tryd.prog w r b0 22 v) (h : DataW.Trod enc Tryd.prog w base spare held 22 v d p)
    (h1 : v.cells.toList = [v]) (hz : ∀ n, n ∈ DataW.weights Tryd.prog 22 d → n ≤ reachBytes) :
    ∃ l : List TI, RdT l v w ∧ ∀ i (hi : i < l.length), l[i].text.size ≤ 140737488351232 := by
  obtain ⟨fuel, hf⟩ := h
  rw [h1] at hf
  rcases open_slice_fieldsT Tryd.underlying22 Tryd.underlying25 (by kernel_rfl) (by kernel_rfl) hf with ⟨hc, _⟩ | ⟨a, len, cap, m, D, Pl, hc, _, hl, hm, hmm, hx, hall⟩
  · simp only [List.cons.injEq, and_true] at hc
    subst hc
    exact ⟨[], ⟨none, 0, rfl, Nat.le_refl _, Nat.zero_le _, fun h => absurd h (by decide)⟩, fun i hi => absurd hi (by simp)⟩
  · simp only [List.cons.injEq, and_true] at hc
    subst hc
    simp only [Prod.mk.injEq] at hx
    obtain ⟨rfl, _⟩ := hx
    have hlm : len ≤ m := by rw [hmm]; split <;> omega
    have key : ∀ i, i < len → ∃ t : TI, (∀ j u, t.cells[j]? = some u → w.cell? (a.add (i * 4 + j)) = some u) ∧ t.text.size ≤ 140737488351232 := by
      intro i hi
      obtain ⟨ys, n, hD, _, hyl, hfs⟩ := hall i (by omega)
      obtain ⟨v0, y0, c0, g0, t0⟩ := hfs 0 _ rfl
      obtain ⟨v1, y1, c1, g1, t1⟩ := hfs 1 _ rfl
      obtain ⟨v2, y2, c2, g2, t2⟩ := hfs 2 _ rfl
      obtain ⟨v3, y3, c3, g3, t3⟩ := hfs 3 _ rfl
      obtain ⟨k, e0, _, _⟩ := DataW.trod_int Tryd.underlying5 t0
      obtain ⟨p, e1, _, _⟩ := DataW.trod_int Tryd.underlying3 t1
      obtain ⟨s, e2, q2, hs⟩ := DataW.trod_string Tryd.underlying9 t2
      obtain ⟨x, e3⟩ := trodT_float Tryd.underlying23 t3
      simp only [List.cons.injEq, and_true] at e0 e1 e2 e3
      subst e0 e1 e2 e3
      refine ⟨⟨k, p, s, x⟩, ?_, ?_⟩
      · intro j u hj
        match j, hj with
        | 0, hj => rw [← (Option.some.inj hj)]; exact c0
        | 1, hj => rw [← (Option.some.inj hj)]; exact c1
        | 2, hj => rw [← (Option.some.inj hj)]; exact c2
        | 3, hj => rw [← (Option.some.inj hj)]; exact c3
        | _ + 4, hj => simp [TI.cells] at hj
      · have hw := hz s.data.toList.length (by
          rw [DataW.weights, Tryd.underlying22]
          refine List.mem_cons_of_mem _ (List.mem_append_left _ (weightsAll_mem (d := D i) (List.mem_map.2 ⟨i, List.mem_range.2 hi, rfl⟩) _ ?_))
          rw [hD, DataW.weights, Tryd.underlying25]
          match ys, hyl, g0, g1, g2, g3 with
          | [z0, z1, z2, z3], _, g0, g1, g2, g3 =>
            simp only [List.getElem?_cons_succ, List.getElem?_cons_zero, Option.some.injEq] at g0 g1 g2 g3
            subst g0 g1 g2 g3
            subst q2
            simp [DataW.weightsEach, DataW.weights])
        have h2 : s.data.toList.length = s.size := by rw [Array.length_toList]; rfl
        have h3 : reachBytes = 140737488351232 := by decide
        show s.size ≤ _
        omega
    obtain ⟨l, hll, hl2⟩ := listOf_fn key
    subst hll
    refine ⟨l, ⟨some a, cap, rfl, hl, hm, fun h0 => ?_⟩, fun i hi => (hl2 i hi).2⟩
    have hc0 := (hl2 0 h0).1 0 _ rfl
    have hsp := World.cell?_spot hc0
    have hlt := cell_lt hc0
    obtain ⟨b, o, sp⟩ := a
    simp only [Nat.zero_mul, Nat.add_zero, Addr.add] at hsp hlt
    simp only [if_true] at hsp hlt
    subst hsp
    refine ⟨b, o, rfl, hlt, fun i hi j u hj => ?_⟩
    have h5 := (hl2 i hi).1 j u hj
    rw [Nat.add_assoc]
    by_cases h6 : i * 4 + j = 0
    · rw [h6] at h5 ⊢; exact h5
    · rw [Addr.add, if_neg h6] at h5; exact h5

/-- A slice that came in and has no array is nil. -/
theorem toks_nil {H : Type} {enc : TypeId × Value → H} {w : World} {base : Nat} {spare : Nat → Bool} {held : Bool} {v : Value} {d : DataW H} {p : List MemPlace}
    (h : DataW.Trod enc Tryd.prog w base spare held 22 v d p) : ∀ n c, v = .slice none n c → n = 0 ∧ c = 0 := by
  intro n c hv
  obtain ⟨fuel, hf⟩ := h
  subst hv
  rcases open_slice Tryd.underlying22 hf with ⟨hc, _⟩ | ⟨a, len, cap, m, n', D, Pl, hc, _⟩
  · simp [Value.cells] at hc; exact hc
  · simp [Value.cells] at hc

end Go.Proofs.YtkomjmgmancinaaDoor
