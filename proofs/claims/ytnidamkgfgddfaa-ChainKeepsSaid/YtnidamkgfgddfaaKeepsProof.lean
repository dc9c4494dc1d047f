/-
  P14.1, P14.2, P14.5 (ChainKeeps): a proxy that is made is live and one deeper than its target. No condition.
-/
import Derived.Test.YtnidamkgfgddfaaKeepsWalk
import Derived.Test.YtnidamkgfgddfaaOpenH
import Derived.Test.YtnidamkgfgddfaaLaw
namespace Go.Proofs.Ytnidamkgfgddfaa
open Go.ChangeShapes Go.WideShapes Go.ChangeAt Go.RowKit
open Go.ChangeMaps (open_string shut_string)

theorem own_chainKeeps : ownKnob Try.prog.godebug = none := by kernel_rfl
theorem laidOut_chainKeeps : laidOutB Try.prog = true := by kernel_rfl
theorem read_chainKeeps : ∀ t, t ∈ Try.f5.params.toList → Try.prog.readableRec t = true ∧ t < Try.prog.types.size := by
  rw [Try.params5]
  intro t ht
  simp at ht
  rcases ht with rfl | rfl | rfl <;> exact ⟨by kernel_rfl, of_decide_eq_true (by kernel_rfl)⟩

set_option maxHeartbeats 2000000 in
set_option maxRecDepth 100000 in
theorem lifted_chainKeeps (os : Os) (started : os.Started) (H : Type) (enc : TypeId × Value → H) :
    ReturnsInHanded {} Try.checked os 5 .any (Rows.chainKeepsSpec.pre6 enc Try.prog Try.f5 Rows.chainKeepsRow.domain false) (Rows.chainKeepsSpec.post enc Try.prog Try.f5 false true false false) := by
  refine returnsInHanded_of_change (C := Try.checked) own_chainKeeps started (by kernel_rfl) Try.func5
    (ChangeSpec.witness6 (enc := enc) (C := Try.checked) false ⟨#[], #[.agg #[.slice none 0 0], .int .i64 0, .int .i64 0], []⟩ 8 (by kernel_rfl) (by kernel_rfl) (by kernel_rfl) (by kernel_rfl)) ?_
  intro W base args ds gs before hval0 hW hcnd _
  have hval : ∀ (j : Nat) t v, Try.f5.params[j]? = some t → args[j]? = some v → Value.okWide Try.prog W .any base t v := hval0
  have hW' := hW
  obtain ⟨p, q, hA0, hV, rfl, hfz, hnd⟩ := hW
  have hA : DataW.TrodAll enc Try.prog W 0 (fun _ => true) true Try.f5.params.toList args.toList ds p := hA0
  rw [Try.params5] at hA hval
  obtain ⟨v0, vs0, d0, ds0, p0, q0, hargs, rfl, rfl, h0, r0⟩ := trodAll_cons hA
  obtain ⟨v1, vs1, d1, ds1, p1, q1, rfl, rfl, rfl, h1, r1⟩ := trodAll_cons r0
  obtain ⟨v2, vs2, d2, ds2, p2, q2, rfl, rfl, rfl, h2, r2⟩ := trodAll_cons r1
  obtain ⟨rfl, rfl, rfl⟩ := trodAll_nil r2
  have ha : args = #[v0, v1, v2] := by first | exact hargs | (apply Array.toList_inj.1; simpa using hargs)
  subst ha
  obtain ⟨rfl, rfl⟩ := trodVars_none hV
  obtain ⟨l0, y0, rfl, o0, k0, z0⟩ := open_heap (hval 0 25 v0 rfl rfl) h0
  obtain ⟨x1, rfl, _, _, s1⟩ := open_int Try.underlying3 (hval 1 3 v1 rfl rfl) h1
  obtain ⟨x2, rfl, _, _, s2⟩ := open_int Try.underlying3 (hval 2 3 v2 rfl rfl) h2
  refine (law_keeps l0 o0 k0 y0 x1 x2 W z0).mono fun e W' ⟨he, hb⟩ => ?_
  subst he
  exact ⟨_, rfl, law_post laidOut_chainKeeps read_chainKeeps rfl (by kernel_rfl) Try.underlying4 hW' rfl rfl rfl hb⟩

theorem holds_chainKeeps : Rows.ChainKeepsSaid :=
  OpenClaim.holds_of_wide 5 Try.f5 rfl rfl rfl rfl rfl rfl rfl ⟨rfl, rfl, rfl, rfl, rfl⟩ rfl rfl rfl rfl rfl (by kernel_rfl) Try.func5 (by kernel_rfl)
    (of_decide_eq_true (by kernel_rfl)) (by unfold Func.isWrapper; first | (rw [if_pos (by decide +kernel)]; kernel_rfl) | (rw [if_neg (by decide +kernel)]; exact ⟨rfl, rfl⟩))
    (fun os started H enc _ => lifted_chainKeeps os started H enc)
#print axioms holds_chainKeeps

end Go.Proofs.Ytnidamkgfgddfaa
