/-
  Keys, lists of keys, prototypes: the walks of key.Check, post.keys, post.holds, post.proto.
-/
import Derived.Test.YtbkjbpefbdoenaaDescWalk
import Derived.BigGuardPart
namespace Go.Proofs.Ytbkjbpefbdoenaa
open Go.RowKit

/-- A key. -/
structure KI where
  s : ByteArray
  n : Int
abbrev KI.cells (k : KI) : List Value := [.string k.s, .int .i64 k.n]
abbrev KI.a (k : KI) : Value := .agg #[.string k.s, .int .i64 k.n]
def KI.ok (k : KI) : Bool := !(decide (k.n < 0) || decide (4096 < k.s.size) || (decide (0 < k.n) && !k.s.toList.isEmpty))
def KI.eq (a b : KI) : Bool := (a.s.toList == b.s.toList) && (a.n == b.n)
def KI.err (k : KI) : Int := if k.ok then 0 else 9
/-- A slice of keys that can be read. -/
def RdK (l : List KI) (v : Value) (w : World) : Prop := ∃ pa c, v = .slice pa l.length c ∧ l.length ≤ c ∧ c ≤ maxLen ∧ (0 < l.length → ∃ g o, pa = some ⟨g, o, none⟩ ∧ g < w.heap.size ∧ ∀ i (h : i < l.length), w.rangeAt g (o + i * 2) l[i].cells)
theorem rangeOn {w w1 : World} (hb : Below w.heap.size w w1) {g o : Nat} {cs : List Value} (hg : g < w.heap.size) (h : w.rangeAt g o cs) : w1.rangeAt g o cs := by
  intro j v hj
  rw [hb.cell (p := ⟨g, o + j, none⟩) hg]
  exact h j v hj
theorem RdK.on {l : List KI} {v : Value} {w w1 : World} (h : RdK l v w) (hb : Below w.heap.size w w1) : RdK l v w1 := by
  obtain ⟨pa, c, h1, h2, h3, h4⟩ := h
  refine ⟨pa, c, h1, h2, h3, fun h0 => ?_⟩
  obtain ⟨g, o, e, hg, hx⟩ := h4 h0
  exact ⟨g, o, e, Nat.lt_of_lt_of_le hg hb.size, fun i hi => rangeOn hb hg (hx i hi)⟩
theorem KI.two {k : KI} {w : World} {g o : Nat} (h : w.rangeAt g o k.cells) : w.cell? ⟨g, o, none⟩ = some (.string k.s) ∧ w.cell? ⟨g, o + 1, none⟩ = some (.int .i64 k.n) := ⟨h 0 _ rfl, h 1 _ rfl⟩
/-- What is wrong with a list of keys. -/
def keysE (l : List KI) : Int := if 1024 < l.length then 4 else if l.all KI.ok then 0 else 9

/-! ### keys compared -/

theorem fields_key : ((Try.prog.fieldsOf 38).toList.map (fun f => (f.name, f.type, f.offset)) == [("Str", 9, 0), ("Sym", 3, 1)]) = true := by kernel_rfl
theorem under_key : Try.prog.underlying 38 = some (.struct (Try.prog.fieldsOf 38)) := by kernel_rfl
theorem stood_key : Try.prog.stoodInHeld 38 = false := by kernel_rfl
theorem equal_key (d : Nat) (a b : KI) (w : World) : (Op.equalIn (d + 2) 38 (.agg #[.string a.s, .int .i64 a.n]) (.agg #[.string b.s, .int .i64 b.n])).run Try.prog w = .ok (KI.eq a b) w := by
  unfold KI.eq
  rw [run_equalIn_struct _ _ _ _ _ under_key stood_key]
  have hf := eq_of_beq fields_key
  generalize (Try.prog.fieldsOf 38).toList = fs at *
  rcases fs with _ | ⟨f0, _ | ⟨f1, _ | ⟨f2, fs⟩⟩⟩
  case cons.cons.nil =>
    simp only [List.map_cons, List.map_nil, List.cons.injEq, Prod.mk.injEq, and_true] at hf
    obtain ⟨⟨a0, b0, c0⟩, ⟨a1, b1, c1⟩⟩ := hf
    rw [eqF_plain (a := .string a.s) (b := .string b.s) (by rw [a0]; decide) (by rw [b0]; kernel_rfl) (by rw [c0]; rfl) (by rw [c0]; rfl) (by intro w; rw [b0]; exact run_equalIn_string w d _ _ _ (by kernel_rfl)),
      eqF_plain (a := .int .i64 a.n) (b := .int .i64 b.n) (by rw [a1]; decide) (by rw [b1]; kernel_rfl) (by rw [c1]; rfl) (by rw [c1]; rfl) (by intro w; rw [b1]; exact run_equalIn_int w d _ .i64 .i64 _ _ (by kernel_rfl)), eqF_nil]
    cases a.s.toList == b.s.toList <;> cases a.n == b.n <;> rfl
  all_goals (exfalso; simp at hf)

set_option maxHeartbeats 4000000 in
set_option maxRecDepth 100000 in
theorem keyCheck_any (k : KI) (w : World) : Calls Try.prog 72 #[k.a] w fun e w' => e = .returned (.int .i64 k.err) ∧ Below w.heap.size w w' := by
  obtain ⟨s, n⟩ := k
  unfold KI.err KI.ok
  simp only
  by_cases h1 : n < 0
  · rw [decide_eq_true h1]
    go_enter Try.func72, Try.ntmps72
    go_wp2_with fail
    go_ret
    exact ⟨rfl, box_one _ _⟩
  · rw [decide_eq_false h1]
    by_cases h2 : 4096 < s.size
    · have h2i : (4096 : Int) < (s.size : Int) := by omega
      rw [decide_eq_true h2]
      go_enter Try.func72, Try.ntmps72
      go_wp2_with fail
      go_ret
      exact ⟨rfl, box_one _ _⟩
    · have h2i : ¬ (4096 : Int) < (s.size : Int) := by omega
      rw [decide_eq_false h2]
      by_cases h3 : 0 < n
      · rw [decide_eq_true h3]
        cases h4 : s.toList.isEmpty
        all_goals
          go_enter Try.func72, Try.ntmps72
          go_wp2_with fail
          go_ret
          exact ⟨rfl, box_one _ _⟩
      · rw [decide_eq_false h3]
        go_enter Try.func72, Try.ntmps72
        go_wp2_with fail
        go_ret
        exact ⟨rfl, box_one _ _⟩
  
theorem keysE_not {l : List KI} (h : ¬ 1024 < l.length) {k : Nat} (hk : k < l.length) (ho : l[k].ok = false) : keysE l = 9 := by
  unfold keysE
  rw [if_neg h, if_neg]
  intro ha
  have := List.all_eq_true.1 ha l[k] (List.getElem_mem hk)
  rw [ho] at this; cases this

/-- May a value be a prototype? -/
def VI.proto (v : VI) : Bool := v.may && (isObj v.k || (v.k == 1))
end Go.Proofs.Ytbkjbpefbdoenaa
