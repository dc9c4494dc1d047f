/-
  P7.2, P7.3, P7.5, P7.7 (ValueSame): of any three values that may be, each is the same as itself, either way round, from one by another to a third; values that are the same have one type, one truth, one text; === differs of no number alone; == is the same either way round. Condition: the listed tables of Go's library hold what the program's text lays (the card ties them).
-/
import Derived.Test.YtecadaoncpminaaDoorSameJoin
import Derived.Test.YtecadaoncpminaaDoorOpenVal
import Derived.Test.YtecadaoncpminaaDoorDoor
import Derived.Test.YtecadaoncpminaaDoorLaw
namespace Go.Proofs.YtecadaoncpminaaDoor
open Go.ChangeShapes Go.WideShapes Go.ChangeAt Go.RowKit
open Go.ChangeMaps (open_string shut_string)

theorem read_valueSame : ∀ t, t ∈ Tryd.f4.params.toList → Tryd.prog.readableRec t = true ∧ t < Tryd.prog.types.size := by
  rw [Tryd.params4]
  intro t ht
  simp at ht
  subst ht
  exact ⟨by kernel_rfl, of_decide_eq_true (by kernel_rfl)⟩

set_option maxRecDepth 100000 in
theorem lifted_valueSame (os : Os) (started : os.Started) (H : Type) (enc : TypeId × Value → H) :
    ReturnsInHanded {} Tryd.checked os 4 .any (fun w args => (Rows.valueSameSpec.pre enc Tryd.prog Tryd.f4 Rows.valueSameRow.domain false w args ∧ laidMetH Tryd.prog Rows.valueSameRow.laid w) ∧ sizedMet enc Tryd.prog Tryd.f4 (OpenSpec.ofChange Rows.valueSameSpec) false w args)
      (Rows.valueSameSpec.post enc Tryd.prog Tryd.f4 false true false false) := by
  refine returnsInHanded_of_change_and (C := Tryd.checked) (X := fun w _ => laidMetH Tryd.prog Rows.valueSameRow.laid w) (fun _ _ _ hh h => h.of_heap hh) own_door started (by kernel_rfl) Tryd.func4
    (ChangeSpec.witness_shaped (enc := enc) (C := Tryd.checked) (os := os) (X := fun w _ => laidMetH Tryd.prog Rows.valueSameRow.laid w) false (World.laidAll Tryd.prog os Rows.valueSameRow.laid) #[.agg #[.int .u8 0, .float .f64 0, .string ⟨#[]⟩, .int .i64 0], .agg #[.int .u8 0, .float .f64 0, .string ⟨#[]⟩, .int .i64 0], .agg #[.int .u8 0, .float .f64 0, .string ⟨#[]⟩, .int .i64 0]] 8 (World.laidAll_os _ _ _)
      (World.shaped_of_ZipB (by kernel_rfl) (by kernel_rfl)) (by kernel_rfl) (by kernel_rfl) (by kernel_rfl)
      (by rw [MakeChecks.laidMetH_plain _ _ _ (by kernel_rfl)]; exact laidMet_laidAll _ (by kernel_rfl) (by kernel_rfl))) ?_
  intro W base args ds gs before hval0 hW _ _ hL _
  have hval : ∀ (j : Nat) t v, Tryd.f4.params[j]? = some t → args[j]? = some v → Value.okWide Tryd.prog W .any base t v := hval0
  have hW' := hW
  obtain ⟨p, q, hA0, hV, rfl, hfz, hnd⟩ := hW
  have hA : DataW.TrodAll enc Tryd.prog W 0 (fun _ => true) true Tryd.f4.params.toList args.toList ds p := hA0
  rw [Tryd.params4] at hA hval
  obtain ⟨v0, vs0, d0, ds0, p0, q0, hargs, rfl, rfl, h0, r0⟩ := trodAll_cons hA
  obtain ⟨v1, vs1, d1, ds1, p1, q1, rfl, rfl, rfl, h1, r1⟩ := trodAll_cons r0
  obtain ⟨v2, vs2, d2, ds2, p2, q2, rfl, rfl, rfl, h2, r2⟩ := trodAll_cons r1
  obtain ⟨rfl, rfl, rfl⟩ := trodAll_nil r2
  have ha : args = #[v0, v1, v2] := by first | exact hargs | (apply Array.toList_inj.1; simpa using hargs)
  subst ha
  obtain ⟨rfl, rfl⟩ := trodVars_none hV
  obtain ⟨k0, x0, s0, n0, rfl, hk0, _, sz0, lo0, up0⟩ := open_val (hval 0 24 v0 rfl rfl) h0
  obtain ⟨k1, x1, s1, n1, rfl, hk1, _, sz1, lo1, up1⟩ := open_val (hval 1 24 v1 rfl rfl) h1
  obtain ⟨k2, x2, s2, n2, rfl, hk2, _, sz2, lo2, up2⟩ := open_val (hval 2 24 v2 rfl rfl) h2
  refine (law_same k0 x0 s0 n0 k1 x1 s1 n1 k2 x2 s2 n2 hk0 hk1 hk2 lo0 up0 lo1 up1 lo2 up2 W (facts_of hL)).mono fun e W' ⟨he, hb⟩ => ?_
  subst he
  exact ⟨_, rfl, law_post laidOut_door read_valueSame rfl (by kernel_rfl) Tryd.underlying4 hW' rfl rfl rfl hb⟩

theorem row_valueSame : Rows.ValueSameSaid :=
  OpenClaim.holds_of_wide 4 Tryd.f4 rfl rfl rfl rfl rfl rfl rfl ⟨rfl, rfl, rfl, rfl, rfl⟩ rfl rfl rfl rfl rfl (by kernel_rfl) Tryd.func4 (by kernel_rfl)
    (of_decide_eq_true (by kernel_rfl)) (by unfold Func.isWrapper; first | (rw [if_pos (by decide +kernel)]; kernel_rfl) | (rw [if_neg (by decide +kernel)]; exact ⟨rfl, rfl⟩))
    (fun os started H enc _ => lifted_valueSame os started H enc)

theorem holds_valueSame : Rows.ValueSameCardSaid :=
  Claim7.holds_tied_plain_at .later [] [.data, .data, .data, .data, .pinned] true (true, "4739f6617294bf6934c69661a81d90422a9967a66d5b79931746786b808f06aa") false row_valueSame (fun _ h => by cases h) (by kernel_rfl) (fun _ h => by cases h) valueSame_row_tie rfl ⟨rfl, rfl⟩ (by kernel_rfl) rfl
    (fun f fn hf hfn => by
      obtain rfl : f = 4 := Option.some.inj ((show Tryd.prog.funcNamed Rows.valueSameRow.func = some 4 by kernel_rfl).symm.trans hf) |>.symm
      obtain rfl : fn = Tryd.f4 := (Option.some.inj (Tryd.func4.symm.trans hfn)).symm
      exact ⟨by kernel_rfl, fun j t ht => by
        rw [Tryd.params4] at ht
        have hm : t ∈ [24, 24, 24] := by simpa using Array.mem_of_getElem? ht
        have hall : ([24, 24, 24].all fun u => !Tryd.prog.wantsStandIn u) = true := by kernel_rfl
        exact (show Tryd.prog.wantsStandIn t = false by simpa using List.all_eq_true.1 hall t hm)⟩)
    (by kernel_rfl)
#print axioms holds_valueSame

end Go.Proofs.YtecadaoncpminaaDoor
