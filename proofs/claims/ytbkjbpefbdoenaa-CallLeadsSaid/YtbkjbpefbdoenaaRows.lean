/-
  No cell of these rows narrows 'for every input' (looked for: loops, veiled, ifaces, maps, wideKeys, modest, calm, conditions, laid).
  DERIVED. THE GIVEN ROWS OF THIS SEAT. 4 by the template 'for every input the law returns true; each argument reads behind the call as it read before'; 0 by the template 'total and deterministic' (their statements: YtbkjbpefbdoenaaTotals.lean).
  GIVEN WITH THE SEED: the statements are not yours to turn. If you find one false, say at which input.
  Laid BY PROGRAM, IN A SANDBOX (cutbox-rows.mjs): the forced cells as the released guide's own fill.sh prints them over the translation 3d560fcf5c7ec370… (all of the seat's roots in one cut). By AI agents, Wed Nov 11 2026. No macro, syntax, notation, axiom, sorry.
-/
import Derived.Test.YtbkjbpefbdoenaaChecked
import GoSem.Claim
import GoSem.ClaimJoined
import GoSem.ClaimMapViews
import Derived.JoinedTies
import Derived.KernelRfl
namespace Go.Proofs.Ytbkjbpefbdoenaa
/- THE CELL 'sum', in the pinned program and in every row, IS THE sha256 OF THE DUMP (.gsa) THAT YtbkjbpefbdoenaaProg.lean LOADS. Nothing in Lean hashes anything: it is a label: what it is worth is what the hold of that sum in a sandbox is worth. -/
noncomputable def Try.pinned : Pinned := { name := "ytbkjbpefbdoenaa", sum := "3d560fcf5c7ec37057b09c0935b87f931ebd472b299dd97a13e7f2007810cca0", checked := Try.checked }
namespace Rows
def none {H : Type} : Left H := { results := [], args := [] }

/-- 'bailifflaw20.CallMakes': WHATEVER THE INPUT: true; the input reads as it did. -/
def callMakesSpec : ChangeSpec := { name := "callMakes", fn := fun _ => fun
  | [d1, d2, d3, d4, d5] => { results := [.lit (.bool true)], args := [d1, d2, d3, d4, d5] }
  | _ => none }
def callMakesRow : OpenClaim := { program := "ytbkjbpefbdoenaa", sum := "3d560fcf5c7ec37057b09c0935b87f931ebd472b299dd97a13e7f2007810cca0", func := "bailiff/bailifflaw20.CallMakes", spec := "callMakes", inPlace := ["math.archTrunc", "math.Float64bits", "math.Float64frombits"], unfollowed := true, recurses := true, apart := false }
def CallMakesSaid : Prop := callMakesRow.holds Try.pinned (OpenSpec.ofChange callMakesSpec)

/-- ITS FALSE NEIGHBOUR: 'it returns false'. Refute it at one input. -/
def callMakesWrong : ChangeSpec := { name := "callMakes", fn := fun _ => fun
  | [d1, d2, d3, d4, d5] => { results := [.lit (.bool false)], args := [d1, d2, d3, d4, d5] }
  | _ => none }
def CallMakesWrongFalsely : Prop := callMakesRow.holds Try.pinned (OpenSpec.ofChange callMakesWrong)

/-- 'bailifflaw20.CallLeads': WHATEVER THE INPUT: true; the input reads as it did. -/
def callLeadsSpec : ChangeSpec := { name := "callLeads", fn := fun _ => fun
  | [d1, d2, d3, d4, d5, d6] => { results := [.lit (.bool true)], args := [d1, d2, d3, d4, d5, d6] }
  | _ => none }
def callLeadsRow : OpenClaim := { program := "ytbkjbpefbdoenaa", sum := "3d560fcf5c7ec37057b09c0935b87f931ebd472b299dd97a13e7f2007810cca0", func := "bailiff/bailifflaw20.CallLeads", spec := "callLeads", inPlace := ["math.archTrunc", "math.Float64bits", "math.Float64frombits"], unfollowed := true, recurses := true, apart := false }
def CallLeadsSaid : Prop := callLeadsRow.holds Try.pinned (OpenSpec.ofChange callLeadsSpec)

/-- ITS FALSE NEIGHBOUR: 'it returns false'. Refute it at one input. -/
def callLeadsWrong : ChangeSpec := { name := "callLeads", fn := fun _ => fun
  | [d1, d2, d3, d4, d5, d6] => { results := [.lit (.bool false)], args := [d1, d2, d3, d4, d5, d6] }
  | _ => none }
def CallLeadsWrongFalsely : Prop := callLeadsRow.holds Try.pinned (OpenSpec.ofChange callLeadsWrong)

/-- 'bailifflaw20.CallNames': WHATEVER THE INPUT: true; the input reads as it did. -/
def callNamesSpec : ChangeSpec := { name := "callNames", fn := fun _ => fun
  | [] => { results := [.lit (.bool true)], args := [] }
  | _ => none }
def callNamesRow : OpenClaim := { program := "ytbkjbpefbdoenaa", sum := "3d560fcf5c7ec37057b09c0935b87f931ebd472b299dd97a13e7f2007810cca0", func := "bailiff/bailifflaw20.CallNames", spec := "callNames", inPlace := ["math.archTrunc", "math.Float64bits", "math.Float64frombits"], unfollowed := true, recurses := true, apart := false }
def CallNamesSaid : Prop := callNamesRow.holds Try.pinned (OpenSpec.ofChange callNamesSpec)

/-- ITS FALSE NEIGHBOUR: 'it returns false'. Refute it at one input. -/
def callNamesWrong : ChangeSpec := { name := "callNames", fn := fun _ => fun
  | [] => { results := [.lit (.bool false)], args := [] }
  | _ => none }
def CallNamesWrongFalsely : Prop := callNamesRow.holds Try.pinned (OpenSpec.ofChange callNamesWrong)

/-- 'bailifflaw20.CallPasses': WHATEVER THE INPUT: true; the input reads as it did. -/
def callPassesSpec : ChangeSpec := { name := "callPasses", fn := fun _ => fun
  | [d1, d2, d3, d4, d5] => { results := [.lit (.bool true)], args := [d1, d2, d3, d4, d5] }
  | _ => none }
def callPassesRow : OpenClaim := { program := "ytbkjbpefbdoenaa", sum := "3d560fcf5c7ec37057b09c0935b87f931ebd472b299dd97a13e7f2007810cca0", func := "bailiff/bailifflaw20.CallPasses", spec := "callPasses", inPlace := ["math.archTrunc", "math.Float64bits", "math.Float64frombits"], unfollowed := true, recurses := true, apart := false }
def CallPassesSaid : Prop := callPassesRow.holds Try.pinned (OpenSpec.ofChange callPassesSpec)

/-- ITS FALSE NEIGHBOUR: 'it returns false'. Refute it at one input. -/
def callPassesWrong : ChangeSpec := { name := "callPasses", fn := fun _ => fun
  | [d1, d2, d3, d4, d5] => { results := [.lit (.bool false)], args := [d1, d2, d3, d4, d5] }
  | _ => none }
def CallPassesWrongFalsely : Prop := callPassesRow.holds Try.pinned (OpenSpec.ofChange callPassesWrong)

/- THE SECOND FORM. 'bulk': how many values and letters a reading holds, each counted each time it is reached (what is shared counts as often as it is met; a slice's spare places count too). A statement '..UptoSaid' is the law's where the arguments, and the package variables that the reading takes, are together of bulk at most 1048576: NARROWER than '..Said'. Prove '..Said' where nothing that the law and all that it calls make is longer than what came in: it says more and counts as full. Else prove '..UptoSaid'. A law counts once. -/
mutual
def uptoBulk {H : Type} : DataW H → Nat
  | .lit (.string bytes) => bytes.length + 1
  | .lit _ => 1
  | .nil => 1
  | .ptr d => uptoBulk d + 1
  | .slice elems spare => uptoBulkAll elems + uptoBulkAll spare + 1
  | .agg parts => uptoBulkAll parts + 1
  | .iface _ d => uptoBulk d + 1
  | .map entries => uptoBulkEntries entries + 1
  | .held _ => 1
def uptoBulkAll {H : Type} : List (DataW H) → Nat
  | [] => 0
  | d :: r => uptoBulk d + uptoBulkAll r
def uptoBulkEntries {H : Type} : List (Lit × DataW H) → Nat
  | [] => 0
  | x :: r => uptoBulkEntry x + uptoBulkEntries r
def uptoBulkEntry {H : Type} : Lit × DataW H → Nat
  | (.string bytes, d) => bytes.length + uptoBulk d + 1
  | (_, d) => uptoBulk d + 1
 end
def uptoSmall : (H : Type) → List (DataW H) → Bool := fun _ ds => decide (uptoBulkAll ds ≤ 1048576)
def OpenSpec.upto (s : _root_.Go.ChangeSpec) : _root_.Go.OpenSpec := { _root_.Go.OpenSpec.ofChange s with cond := some uptoSmall }

/-- 'bailifflaw20.CallMakes', WHERE WHAT IT READS IS OF BULK AT MOST 1048576: true; the input reads as it did. -/
def callMakesUptoRow : OpenClaim := { program := "ytbkjbpefbdoenaa", sum := "3d560fcf5c7ec37057b09c0935b87f931ebd472b299dd97a13e7f2007810cca0", func := "bailiff/bailifflaw20.CallMakes", spec := "callMakes", inPlace := ["math.archTrunc", "math.Float64bits", "math.Float64frombits"], unfollowed := true, recurses := true, apart := false, narrowed := true }
def CallMakesUptoSaid : Prop := callMakesUptoRow.holds Try.pinned (OpenSpec.upto callMakesSpec)

/-- 'bailifflaw20.CallLeads', WHERE WHAT IT READS IS OF BULK AT MOST 1048576: true; the input reads as it did. -/
def callLeadsUptoRow : OpenClaim := { program := "ytbkjbpefbdoenaa", sum := "3d560fcf5c7ec37057b09c0935b87f931ebd472b299dd97a13e7f2007810cca0", func := "bailiff/bailifflaw20.CallLeads", spec := "callLeads", inPlace := ["math.archTrunc", "math.Float64bits", "math.Float64frombits"], unfollowed := true, recurses := true, apart := false, narrowed := true }
def CallLeadsUptoSaid : Prop := callLeadsUptoRow.holds Try.pinned (OpenSpec.upto callLeadsSpec)

/-- 'bailifflaw20.CallNames', WHERE WHAT IT READS IS OF BULK AT MOST 1048576: true; the input reads as it did. -/
def callNamesUptoRow : OpenClaim := { program := "ytbkjbpefbdoenaa", sum := "3d560fcf5c7ec37057b09c0935b87f931ebd472b299dd97a13e7f2007810cca0", func := "bailiff/bailifflaw20.CallNames", spec := "callNames", inPlace := ["math.archTrunc", "math.Float64bits", "math.Float64frombits"], unfollowed := true, recurses := true, apart := false, narrowed := true }
def CallNamesUptoSaid : Prop := callNamesUptoRow.holds Try.pinned (OpenSpec.upto callNamesSpec)

/-- 'bailifflaw20.CallPasses', WHERE WHAT IT READS IS OF BULK AT MOST 1048576: true; the input reads as it did. -/
def callPassesUptoRow : OpenClaim := { program := "ytbkjbpefbdoenaa", sum := "3d560fcf5c7ec37057b09c0935b87f931ebd472b299dd97a13e7f2007810cca0", func := "bailiff/bailifflaw20.CallPasses", spec := "callPasses", inPlace := ["math.archTrunc", "math.Float64bits", "math.Float64frombits"], unfollowed := true, recurses := true, apart := false, narrowed := true }
def CallPassesUptoSaid : Prop := callPassesUptoRow.holds Try.pinned (OpenSpec.upto callPassesSpec)

end Rows
end Go.Proofs.Ytbkjbpefbdoenaa
