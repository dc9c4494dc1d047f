/-
  No cell of these rows narrows 'for every input' (looked for: loops, veiled, ifaces, maps, wideKeys, modest, calm, conditions, laid).
  DERIVED. THE GIVEN ROWS OF THIS SEAT. 4 by the template 'for every input the law returns true; each argument reads behind the call as it read before'; 0 by the template 'total and deterministic' (their statements: YtchpkopeblgifaaTotals.lean).
  GIVEN WITH THE SEED: the statements are not yours to turn. If you find one false, say at which input.
  Laid BY PROGRAM, IN A SANDBOX (cutbox-rows.mjs): the forced cells as the released guide's own fill.sh prints them over the translation d1f3e6294aeeff41… (all of the seat's roots in one cut). By AI agents, Wed Nov 11 2026. No macro, syntax, notation, axiom, sorry.
-/
import Derived.Test.YtchpkopeblgifaaChecked
import GoSem.Claim
import GoSem.ClaimJoined
import GoSem.ClaimMapViews
import Derived.JoinedTies
import Derived.KernelRfl
namespace Go.Proofs.Ytchpkopeblgifaa
/- THE CELL 'sum', in the pinned program and in every row, IS THE sha256 OF THE DUMP (.gsa) THAT YtchpkopeblgifaaProg.lean LOADS. Nothing in Lean hashes anything: it is a label: what it is worth is what the hold of that sum in a sandbox is worth. -/
noncomputable def Try.pinned : Pinned := { name := "ytchpkopeblgifaa", sum := "d1f3e6294aeeff41b3af2243323602da3d2b0018ddf14cdad247c344920fddb9", checked := Try.checked }
namespace Rows
def none {H : Type} : Left H := { results := [], args := [] }

/-- 'bailifflaw24.RealmCalled': WHATEVER THE INPUT: true; the input reads as it did. -/
def realmCalledSpec : ChangeSpec := { name := "realmCalled", fn := fun _ => fun
  | [d1, d2] => { results := [.lit (.bool true)], args := [d1, d2] }
  | _ => none }
def realmCalledRow : OpenClaim := { program := "ytchpkopeblgifaa", sum := "d1f3e6294aeeff41b3af2243323602da3d2b0018ddf14cdad247c344920fddb9", func := "bailiff/bailifflaw24.RealmCalled", spec := "realmCalled", inPlace := ["math.Float64frombits"], plainKeys := false, apart := false }
def RealmCalledSaid : Prop := realmCalledRow.holds Try.pinned (OpenSpec.ofChange realmCalledSpec)

/-- ITS FALSE NEIGHBOUR: 'it returns false'. Refute it at one input. -/
def realmCalledWrong : ChangeSpec := { name := "realmCalled", fn := fun _ => fun
  | [d1, d2] => { results := [.lit (.bool false)], args := [d1, d2] }
  | _ => none }
def RealmCalledWrongFalsely : Prop := realmCalledRow.holds Try.pinned (OpenSpec.ofChange realmCalledWrong)

/-- 'bailifflaw24.RealmFirst': WHATEVER THE INPUT: true; the input reads as it did. -/
def realmFirstSpec : ChangeSpec := { name := "realmFirst", fn := fun _ => fun
  | [d] => { results := [.lit (.bool true)], args := [d] }
  | _ => none }
def realmFirstRow : OpenClaim := { program := "ytchpkopeblgifaa", sum := "d1f3e6294aeeff41b3af2243323602da3d2b0018ddf14cdad247c344920fddb9", func := "bailiff/bailifflaw24.RealmFirst", spec := "realmFirst", plainKeys := false, apart := false }
def RealmFirstSaid : Prop := realmFirstRow.holds Try.pinned (OpenSpec.ofChange realmFirstSpec)

/-- ITS FALSE NEIGHBOUR: 'it returns false'. Refute it at one input. -/
def realmFirstWrong : ChangeSpec := { name := "realmFirst", fn := fun _ => fun
  | [d] => { results := [.lit (.bool false)], args := [d] }
  | _ => none }
def RealmFirstWrongFalsely : Prop := realmFirstRow.holds Try.pinned (OpenSpec.ofChange realmFirstWrong)

/-- 'bailifflaw24.RealmNames': WHATEVER THE INPUT: true; the input reads as it did. -/
def realmNamesSpec : ChangeSpec := { name := "realmNames", fn := fun _ => fun
  | [] => { results := [.lit (.bool true)], args := [] }
  | _ => none }
def realmNamesRow : OpenClaim := { program := "ytchpkopeblgifaa", sum := "d1f3e6294aeeff41b3af2243323602da3d2b0018ddf14cdad247c344920fddb9", func := "bailiff/bailifflaw24.RealmNames", spec := "realmNames", inPlace := ["math.archTrunc", "math.Float64bits", "math.Float64frombits"], plainKeys := false, apart := false }
def RealmNamesSaid : Prop := realmNamesRow.holds Try.pinned (OpenSpec.ofChange realmNamesSpec)

/-- ITS FALSE NEIGHBOUR: 'it returns false'. Refute it at one input. -/
def realmNamesWrong : ChangeSpec := { name := "realmNames", fn := fun _ => fun
  | [] => { results := [.lit (.bool false)], args := [] }
  | _ => none }
def RealmNamesWrongFalsely : Prop := realmNamesRow.holds Try.pinned (OpenSpec.ofChange realmNamesWrong)

/-- 'bailifflaw24.RealmStands': WHATEVER THE INPUT: true; the input reads as it did. -/
def realmStandsSpec : ChangeSpec := { name := "realmStands", fn := fun _ => fun
  | [d] => { results := [.lit (.bool true)], args := [d] }
  | _ => none }
def realmStandsRow : OpenClaim := { program := "ytchpkopeblgifaa", sum := "d1f3e6294aeeff41b3af2243323602da3d2b0018ddf14cdad247c344920fddb9", func := "bailiff/bailifflaw24.RealmStands", spec := "realmStands", inPlace := ["math.archTrunc", "math.Float64bits", "math.Float64frombits"], unfollowed := true, recurses := true, plainKeys := false, apart := false }
def RealmStandsSaid : Prop := realmStandsRow.holds Try.pinned (OpenSpec.ofChange realmStandsSpec)

/-- ITS FALSE NEIGHBOUR: 'it returns false'. Refute it at one input. -/
def realmStandsWrong : ChangeSpec := { name := "realmStands", fn := fun _ => fun
  | [d] => { results := [.lit (.bool false)], args := [d] }
  | _ => none }
def RealmStandsWrongFalsely : Prop := realmStandsRow.holds Try.pinned (OpenSpec.ofChange realmStandsWrong)

/- THE SECOND FORM. 'bulk': how many values and letters a reading holds, each counted each time it is reached (what is shared counts as often as it is met; a slice's spare places count too). A statement '..UptoSaid' is the law's where the arguments, and the package variables that the reading takes, are together of bulk at most 1048576: NARROWER than '..Said'. Prove '..Said' where nothing that the law and all that it calls make is longer than what came in: it says more and counts as full. Else prove '..UptoSaid'. A law counts once. -/
mutual
def uptoBulk {H : Type} : DataW H → Nat
  | .lit (.string bytes) => bytes.length + 1
  | .lit _ => 1
  | .nil => 1
  | .ptr d => uptoBulk d + 1
  | .slice elems spare => uptoBulkAll elems + uptoBulkAll spare + 1
  | .agg parts => uptoBulkAll parts + 1
  | .iface _ d => uptoBulk d + 1
  | .map entries => uptoBulkEntries entries + 1
  | .held _ => 1
def uptoBulkAll {H : Type} : List (DataW H) → Nat
  | [] => 0
  | d :: r => uptoBulk d + uptoBulkAll r
def uptoBulkEntries {H : Type} : List (Lit × DataW H) → Nat
  | [] => 0
  | x :: r => uptoBulkEntry x + uptoBulkEntries r
def uptoBulkEntry {H : Type} : Lit × DataW H → Nat
  | (.string bytes, d) => bytes.length + uptoBulk d + 1
  | (_, d) => uptoBulk d + 1
 end
def uptoSmall : (H : Type) → List (DataW H) → Bool := fun _ ds => decide (uptoBulkAll ds ≤ 1048576)
def OpenSpec.upto (s : _root_.Go.ChangeSpec) : _root_.Go.OpenSpec := { _root_.Go.OpenSpec.ofChange s with cond := some uptoSmall }

/-- 'bailifflaw24.RealmCalled', WHERE WHAT IT READS IS OF BULK AT MOST 1048576: true; the input reads as it did. -/
def realmCalledUptoRow : OpenClaim := { program := "ytchpkopeblgifaa", sum := "d1f3e6294aeeff41b3af2243323602da3d2b0018ddf14cdad247c344920fddb9", func := "bailiff/bailifflaw24.RealmCalled", spec := "realmCalled", inPlace := ["math.Float64frombits"], plainKeys := false, apart := false, narrowed := true }
def RealmCalledUptoSaid : Prop := realmCalledUptoRow.holds Try.pinned (OpenSpec.upto realmCalledSpec)

/-- 'bailifflaw24.RealmFirst', WHERE WHAT IT READS IS OF BULK AT MOST 1048576: true; the input reads as it did. -/
def realmFirstUptoRow : OpenClaim := { program := "ytchpkopeblgifaa", sum := "d1f3e6294aeeff41b3af2243323602da3d2b0018ddf14cdad247c344920fddb9", func := "bailiff/bailifflaw24.RealmFirst", spec := "realmFirst", plainKeys := false, apart := false, narrowed := true }
def RealmFirstUptoSaid : Prop := realmFirstUptoRow.holds Try.pinned (OpenSpec.upto realmFirstSpec)

/-- 'bailifflaw24.RealmNames', WHERE WHAT IT READS IS OF BULK AT MOST 1048576: true; the input reads as it did. -/
def realmNamesUptoRow : OpenClaim := { program := "ytchpkopeblgifaa", sum := "d1f3e6294aeeff41b3af2243323602da3d2b0018ddf14cdad247c344920fddb9", func := "bailiff/bailifflaw24.RealmNames", spec := "realmNames", inPlace := ["math.archTrunc", "math.Float64bits", "math.Float64frombits"], plainKeys := false, apart := false, narrowed := true }
def RealmNamesUptoSaid : Prop := realmNamesUptoRow.holds Try.pinned (OpenSpec.upto realmNamesSpec)

/-- 'bailifflaw24.RealmStands', WHERE WHAT IT READS IS OF BULK AT MOST 1048576: true; the input reads as it did. -/
def realmStandsUptoRow : OpenClaim := { program := "ytchpkopeblgifaa", sum := "d1f3e6294aeeff41b3af2243323602da3d2b0018ddf14cdad247c344920fddb9", func := "bailiff/bailifflaw24.RealmStands", spec := "realmStands", inPlace := ["math.archTrunc", "math.Float64bits", "math.Float64frombits"], unfollowed := true, recurses := true, plainKeys := false, apart := false, narrowed := true }
def RealmStandsUptoSaid : Prop := realmStandsUptoRow.holds Try.pinned (OpenSpec.upto realmStandsSpec)

end Rows
end Go.Proofs.Ytchpkopeblgifaa
