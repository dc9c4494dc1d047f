/-
  P20.1 (CallPasses): a call asks the function itself, with this and all arguments as they are, and comes to what that answers, or throws what that throws: any function, values and answer. No condition.
-/
import Derived.Test.YtbkjbpefbdoenaaPassesWalk
import Derived.Test.YtbkjbpefbdoenaaLaw
namespace Go.Proofs.Ytbkjbpefbdoenaa
open Go.ChangeShapes Go.WideShapes Go.ChangeAt Go.RowKit
open Go.ChangeMaps (open_string shut_string)

theorem own_callPasses : ownKnob Try.prog.godebug = none := by kernel_rfl
theorem laidOut_callPasses : laidOutB Try.prog = true := by kernel_rfl
theorem read_callPasses : ∀ t, t ∈ Try.f6.params.toList → Try.prog.readableRec t = true ∧ t < Try.prog.types.size := by
  rw [Try.params6]
  intro t ht
  simp at ht
  rcases ht with rfl | rfl | rfl | rfl | rfl <;> exact ⟨by kernel_rfl, of_decide_eq_true (by kernel_rfl)⟩

set_option maxHeartbeats 2000000 in
set_option maxRecDepth 100000 in
theorem lifted_callPasses (os : Os) (started : os.Started) (H : Type) (enc : TypeId × Value → H) :
    ReturnsInHanded {} Try.checked os 6 .any (Rows.callPassesSpec.pre6 enc Try.prog Try.f6 Rows.callPassesRow.domain false) (Rows.callPassesSpec.post enc Try.prog Try.f6 false true false false) := by
  refine returnsInHanded_of_change (C := Try.checked) own_callPasses started (by kernel_rfl) Try.func6
    (ChangeSpec.witness6 (enc := enc) (C := Try.checked) false ⟨#[], #[.agg #[.int .u8 0, .float .f64 0, .string ⟨#[]⟩, .int .i64 0], .agg #[.int .u8 0, .float .f64 0, .string ⟨#[]⟩, .int .i64 0], .slice none 0 0, .agg #[.int .u8 0, .float .f64 0, .string ⟨#[]⟩, .int .i64 0], .bool false], []⟩ 8 (by kernel_rfl) (by kernel_rfl) (by kernel_rfl) (by kernel_rfl)) ?_
  intro W base args ds gs before hval0 hW hcnd _
  have hval : ∀ (j : Nat) t v, Try.f6.params[j]? = some t → args[j]? = some v → Value.okWide Try.prog W .any base t v := hval0
  have hW' := hW
  obtain ⟨p, q, hA0, hV, rfl, hfz, hnd⟩ := hW
  have hA : DataW.TrodAll enc Try.prog W 0 (fun _ => true) true Try.f6.params.toList args.toList ds p := hA0
  rw [Try.params6] at hA hval
  obtain ⟨v0, vs0, d0, ds0, p0, q0, hargs, rfl, rfl, h0, r0⟩ := trodAll_cons hA
  obtain ⟨v1, vs1, d1, ds1, p1, q1, rfl, rfl, rfl, h1, r1⟩ := trodAll_cons r0
  obtain ⟨v2, vs2, d2, ds2, p2, q2, rfl, rfl, rfl, h2, r2⟩ := trodAll_cons r1
  obtain ⟨v3, vs3, d3, ds3, p3, q3, rfl, rfl, rfl, h3, r3⟩ := trodAll_cons r2
  obtain ⟨v4, vs4, d4, ds4, p4, q4, rfl, rfl, rfl, h4, r4⟩ := trodAll_cons r3
  obtain ⟨rfl, rfl, rfl⟩ := trodAll_nil r4
  have ha : args = #[v0, v1, v2, v3, v4] := by first | exact hargs | (apply Array.toList_inj.1; simpa using hargs)
  subst ha
  obtain ⟨rfl, rfl⟩ := trodVars_none hV
  obtain ⟨x0, rfl, k0⟩ := open_val (hval 0 24 v0 rfl rfl) h0
  obtain ⟨x1, rfl, k1⟩ := open_val (hval 1 24 v1 rfl rfl) h1
  obtain ⟨l2, e2, o2⟩ := open_vals (hval 2 25 v2 rfl rfl) h2
  obtain ⟨x3, rfl, k3⟩ := open_val (hval 3 24 v3 rfl rfl) h3
  obtain ⟨x4, rfl, _, _⟩ := open_bool Try.underlying4 (hval 4 4 v4 rfl rfl) h4
  refine (law_passes x0 x1 x3 l2 x4 v2 W k0 k1 k3 o2 e2).mono fun e W' ⟨he, hb⟩ => ?_
  subst he
  exact ⟨_, rfl, law_post laidOut_callPasses read_callPasses rfl (by kernel_rfl) Try.underlying4 hW' rfl rfl rfl hb⟩

theorem holds_callPasses : Rows.CallPassesSaid :=
  OpenClaim.holds_of_wide 6 Try.f6 rfl rfl rfl rfl rfl rfl rfl ⟨rfl, rfl, rfl, rfl, rfl⟩ rfl rfl rfl rfl rfl (by kernel_rfl) Try.func6 (by kernel_rfl)
    (of_decide_eq_true (by kernel_rfl)) (by unfold Func.isWrapper; first | (rw [if_pos (by decide +kernel)]; kernel_rfl) | (rw [if_neg (by decide +kernel)]; exact ⟨rfl, rfl⟩))
    (fun os started H enc _ => lifted_callPasses os started H enc)
#print axioms holds_callPasses

end Go.Proofs.Ytbkjbpefbdoenaa
