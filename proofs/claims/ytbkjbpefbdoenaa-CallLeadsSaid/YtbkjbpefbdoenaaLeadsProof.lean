/-
  P20.1 to P20.5 (CallLeads): calls, constructions and their bodies want, step by step, and come to, what the document says, whatever they are given. No condition.
-/
import Derived.Test.YtbkjbpefbdoenaaLeadsWalk
import Derived.Test.YtbkjbpefbdoenaaLaw
import Derived.SizedLaws
namespace Go.Proofs.Ytbkjbpefbdoenaa
open Go.ChangeShapes Go.WideShapes Go.ChangeAt Go.RowKit
open Go.ChangeMaps (open_string shut_string)

theorem wide_u8 {n : Int} (h : (Lit.int .u8 n).wf = true) : 0 ≤ n ∧ n ≤ 255 := by
  have h1 : IntKind.u8.min ≤ n ∧ n ≤ IntKind.u8.max := by simpa [Lit.wf] using h
  exact h1
/-- How many outcomes can have come in: what a form can reach. -/
theorem outs_len {H : Type} {enc : TypeId × Value → H} {w : World} {base : Nat} {spare : Nat → Bool} {held : Bool} {v : Value} {d : DataW H} {p : List MemPlace} (h : DataW.Trod enc Try.prog w base spare held 26 v d p) (hz : ∀ n, n ∈ DataW.weights Try.prog 26 d → n ≤ reachBytes) {α : Type} {f : α → List Value} {l : List α} (hr : RdL f 26 l v w) : l.length ≤ 4611686018427387904 := by
  obtain ⟨pa, c, rfl, _⟩ := hr
  obtain ⟨fuel, hf⟩ := h
  rcases DataW.trod_slice Try.underlying26 hf with ⟨h0, _⟩ | ⟨a, len, cap, elems, rest, n, _, hc, hx, _, _, _, hlen, _⟩
  · simp [Value.cells] at h0
    rw [h0.2.1]
    exact Nat.zero_le _
  · simp [Value.cells] at hc
    simp only [Prod.mk.injEq] at hx
    have hw := hz ((elems.length + rest.length) * Try.prog.bytesOf 36) (by rw [hx.1]; simp [DataW.weights, Try.underlying26])
    rw [show Try.prog.bytesOf 36 = 240 by kernel_rfl] at hw
    have h3 : reachBytes = 140737488351232 := by decide
    omega
theorem own_callLeads : ownKnob Try.prog.godebug = none := by kernel_rfl
theorem laidOut_callLeads : laidOutB Try.prog = true := by kernel_rfl
theorem read_callLeads : ∀ t, t ∈ Try.f4.params.toList → Try.prog.readableRec t = true ∧ t < Try.prog.types.size := by
  rw [Try.params4]
  intro t ht
  simp at ht
  rcases ht with rfl | rfl | rfl | rfl | rfl | rfl <;> exact ⟨by kernel_rfl, of_decide_eq_true (by kernel_rfl)⟩

set_option maxHeartbeats 2000000 in
set_option maxRecDepth 100000 in
theorem lifted_callLeads (os : Os) (started : os.Started) (H : Type) (enc : TypeId × Value → H) :
    ReturnsInHanded {} Try.checked os 4 .any (Rows.callLeadsSpec.pre6 enc Try.prog Try.f4 Rows.callLeadsRow.domain false) (Rows.callLeadsSpec.post enc Try.prog Try.f4 false true false false) := by
  refine returnsInHanded_of_change_sized (C := Try.checked) own_callLeads started (by kernel_rfl) Try.func4
    (ChangeSpec.witness6 (enc := enc) (C := Try.checked) false ⟨#[], #[.int .u8 0, .agg #[.int .u8 0, .float .f64 0, .string ⟨#[]⟩, .int .i64 0], .agg #[.int .u8 0, .float .f64 0, .string ⟨#[]⟩, .int .i64 0], .agg #[.int .u8 0, .float .f64 0, .string ⟨#[]⟩, .int .i64 0], .slice none 0 0, .slice none 0 0], []⟩ 8 (by kernel_rfl) (by kernel_rfl) (by kernel_rfl) (by kernel_rfl)) ?_
  intro W base args ds gs before hval0 hW hcnd hsz _
  have hval : ∀ (j : Nat) t v, Try.f4.params[j]? = some t → args[j]? = some v → Value.okWide Try.prog W .any base t v := hval0
  have hW' := hW
  obtain ⟨p, q, hA0, hV, rfl, hfz, hnd⟩ := hW
  have hA : DataW.TrodAll enc Try.prog W 0 (fun _ => true) true Try.f4.params.toList args.toList ds p := hA0
  rw [Try.params4] at hA hval
  obtain ⟨v0, vs0, d0, ds0, p0, q0, hargs, rfl, rfl, h0, r0⟩ := trodAll_cons hA
  obtain ⟨v1, vs1, d1, ds1, p1, q1, rfl, rfl, rfl, h1, r1⟩ := trodAll_cons r0
  obtain ⟨v2, vs2, d2, ds2, p2, q2, rfl, rfl, rfl, h2, r2⟩ := trodAll_cons r1
  obtain ⟨v3, vs3, d3, ds3, p3, q3, rfl, rfl, rfl, h3, r3⟩ := trodAll_cons r2
  obtain ⟨v4, vs4, d4, ds4, p4, q4, rfl, rfl, rfl, h4, r4⟩ := trodAll_cons r3
  obtain ⟨v5, vs5, d5, ds5, p5, q5, rfl, rfl, rfl, h5, r5⟩ := trodAll_cons r4
  obtain ⟨rfl, rfl, rfl⟩ := trodAll_nil r5
  have ha : args = #[v0, v1, v2, v3, v4, v5] := by first | exact hargs | (apply Array.toList_inj.1; simpa using hargs)
  subst ha
  obtain ⟨rfl, rfl⟩ := trodVars_none hV
  rw [Try.params4] at hsz
  obtain ⟨x0, rfl, _, _, s0⟩ := open_int Try.underlying5 (hval 0 5 v0 rfl rfl) h0
  obtain ⟨x1, rfl, k1⟩ := open_val (hval 1 24 v1 rfl rfl) h1
  obtain ⟨x2, rfl, k2⟩ := open_val (hval 2 24 v2 rfl rfl) h2
  obtain ⟨x3, rfl, k3⟩ := open_val (hval 3 24 v3 rfl rfl) h3
  obtain ⟨l4, e4, o4⟩ := open_vals (hval 4 25 v4 rfl rfl) h4
  obtain ⟨l5, e5, o5⟩ := open_outsB (hval 5 26 v5 rfl rfl) h5
  refine (law_leads x0 (wide_u8 s0).1 (wide_u8 s0).2 x1 x2 x3 l4 l5 v4 v5 W k1 k2 k3 o4 e4 e5 o5 (outs_len h5 (fun n hn => of_decide_eq_true (List.all_eq_true.1 hsz n (by simp only [List.cons_append, List.nil_append, DataW.weightsEach, List.mem_append]; exact Or.inr (Or.inr (Or.inr (Or.inr (Or.inr (Or.inl hn)))))))) e5)).mono fun e W' ⟨he, hb⟩ => ?_
  subst he
  exact ⟨_, rfl, law_post laidOut_callLeads read_callLeads rfl (by kernel_rfl) Try.underlying4 hW' rfl rfl rfl hb⟩

theorem holds_callLeads : Rows.CallLeadsSaid :=
  OpenClaim.holds_of_wide 4 Try.f4 rfl rfl rfl rfl rfl rfl rfl ⟨rfl, rfl, rfl, rfl, rfl⟩ rfl rfl rfl rfl rfl (by kernel_rfl) Try.func4 (by kernel_rfl)
    (of_decide_eq_true (by kernel_rfl)) (by unfold Func.isWrapper; first | (rw [if_pos (by decide +kernel)]; kernel_rfl) | (rw [if_neg (by decide +kernel)]; exact ⟨rfl, rfl⟩))
    (fun os started H enc _ => lifted_callLeads os started H enc)
#print axioms holds_callLeads

end Go.Proofs.Ytbkjbpefbdoenaa
