/-
  DERIVED. GIVEN WITH THE SEED: THE CARDS: each row of YtbmaodlghglopaaGreatDoorRows.lean that lists a variable, with what it lists TIED to the program's text (the seventh form; the later family's looks); each row that meets fmt, with fmt's text TOLD by the authors' own Lean function (tested against real Go, not proved from fmt's source: count such statements apart). THE CARD IS WHAT COUNTS. Prove the row's statement (the work); the ties are given (YtbmaodlghglopaaGreatDoorTie.lean); close each card by the builder's one call (the guide's Derived/Test/ToyasCard.lean, 'card_holds'). Laid BY PROGRAM, IN A SANDBOX (cutbox-door.mjs). By AI agents, Wed Nov 11 2026. No macro, syntax, notation, axiom, sorry.
-/
import Derived.Test.YtbmaodlghglopaaGreatDoorRows
import GoSem.ClaimSeven
namespace Go.Proofs.YtbmaodlghglopaaGreatDoor
namespace Rows

/-- THE TIED CARD OF 'bailifftop.TopNobody'. -/
def topNobodyCard : Claim7 := { stood := { row := topNobodyRow, standIns := [], harness := (true, "01143b5e0a19dce2d6b9d5c0f0252a25e200208f6f59ba5d229df8dc672b27ec"), looks := false }, kinds := [], alts := [], laidByText := true, laidKinds := [.data, .data, .data], laidTests := true, laidLooks := .later }
def TopNobodyCardSaid : Prop := Claim7.holds Tryz.pinned (.plain (OpenSpec.ofChange topNobodySpec)) topNobodyCard

/-- THE TIED CARD OF 'bailifftop.TopTruth'. -/
def topTruthCard : Claim7 := { stood := { row := topTruthRow, standIns := [], harness := (true, "01143b5e0a19dce2d6b9d5c0f0252a25e200208f6f59ba5d229df8dc672b27ec"), looks := false }, kinds := [], alts := [], laidByText := true, laidKinds := [.data, .data, .data], laidTests := true, laidLooks := .later }
def TopTruthCardSaid : Prop := Claim7.holds Tryz.pinned (.plain (OpenSpec.ofChange topTruthSpec)) topTruthCard

/-- THE SECOND FORM's CARD OF 'bailifftop.TopNobody'. -/
def topNobodyUptoCard : Claim7 := { stood := { row := topNobodyUptoRow, standIns := [], harness := (true, "01143b5e0a19dce2d6b9d5c0f0252a25e200208f6f59ba5d229df8dc672b27ec"), looks := false }, kinds := [], alts := [], laidByText := true, laidKinds := [.data, .data, .data], laidTests := true, laidLooks := .later }
def TopNobodyUptoCardSaid : Prop := Claim7.holds Tryz.pinned (.plain (OpenSpec.upto topNobodySpec)) topNobodyUptoCard

/-- THE SECOND FORM's CARD OF 'bailifftop.TopTruth'. -/
def topTruthUptoCard : Claim7 := { stood := { row := topTruthUptoRow, standIns := [], harness := (true, "01143b5e0a19dce2d6b9d5c0f0252a25e200208f6f59ba5d229df8dc672b27ec"), looks := false }, kinds := [], alts := [], laidByText := true, laidKinds := [.data, .data, .data], laidTests := true, laidLooks := .later }
def TopTruthUptoCardSaid : Prop := Claim7.holds Tryz.pinned (.plain (OpenSpec.upto topTruthSpec)) topTruthUptoCard
end Rows
end Go.Proofs.YtbmaodlghglopaaGreatDoor
