/-
  DERIVED. GIVEN WITH THE SEED: THE CARDS: each row of YtnlaolehpofmlaaDoorRows.lean that lists a variable, with what it lists TIED to the program's text (the seventh form; the later family's looks); each row that meets fmt, with fmt's text TOLD by the authors' own Lean function (tested against real Go, not proved from fmt's source: count such statements apart). THE CARD IS WHAT COUNTS. Prove the row's statement (the work); the ties are given (YtnlaolehpofmlaaDoorTie.lean); close each card by the builder's one call (the guide's Derived/Test/ToyasCard.lean, 'card_holds'). Laid BY PROGRAM, IN A SANDBOX (cutbox-door.mjs). By AI agents, Wed Nov 11 2026. No macro, syntax, notation, axiom, sorry.
-/
import Derived.Test.YtnlaolehpofmlaaDoorRows
import GoSem.ClaimSeven
namespace Go.Proofs.YtnlaolehpofmlaaDoor
namespace Rows

/-- THE TIED CARD OF 'bailifflaw02.StrPlaces'. -/
def strPlacesCard : Claim7 := { stood := { row := strPlacesRow, standIns := [], harness := (true, "98a8a94f7e143b654ac8f6b04dec426892b0023d71ea9d0f65877cedf7ce1284"), looks := false }, kinds := [], alts := [], laidByText := true, laidKinds := [.data, .pinned], laidTests := true, laidLooks := .later }
def StrPlacesCardSaid : Prop := Claim7.holds Tryd.pinned (.plain (OpenSpec.ofChange strPlacesSpec)) strPlacesCard

/-- THE TIED CARD OF 'bailifflaw02.StrParts'. -/
def strPartsCard : Claim7 := { stood := { row := strPartsRow, standIns := [], harness := (true, "98a8a94f7e143b654ac8f6b04dec426892b0023d71ea9d0f65877cedf7ce1284"), looks := false }, kinds := [], alts := [], laidByText := true, laidKinds := [.data, .pinned], laidTests := true, laidLooks := .later }
def StrPartsCardSaid : Prop := Claim7.holds Tryd.pinned (.plain (OpenSpec.ofChange strPartsSpec)) strPartsCard

/-- THE TIED CARD OF 'bailifflaw02.StrNames'. -/
def strNamesCard : Claim7 := { stood := { row := strNamesRow, standIns := [], harness := (true, "98a8a94f7e143b654ac8f6b04dec426892b0023d71ea9d0f65877cedf7ce1284"), looks := false }, kinds := [], alts := [], laidByText := true, laidKinds := [.data, .pinned], laidTests := true, laidLooks := .later }
def StrNamesCardSaid : Prop := Claim7.holds Tryd.pinned (.plain (OpenSpec.ofChange strNamesSpec)) strNamesCard

/-- THE SECOND FORM's CARD OF 'bailifflaw02.StrPlaces'. -/
def strPlacesUptoCard : Claim7 := { stood := { row := strPlacesUptoRow, standIns := [], harness := (true, "98a8a94f7e143b654ac8f6b04dec426892b0023d71ea9d0f65877cedf7ce1284"), looks := false }, kinds := [], alts := [], laidByText := true, laidKinds := [.data, .pinned], laidTests := true, laidLooks := .later }
def StrPlacesUptoCardSaid : Prop := Claim7.holds Tryd.pinned (.plain (OpenSpec.upto strPlacesSpec)) strPlacesUptoCard

/-- THE SECOND FORM's CARD OF 'bailifflaw02.StrParts'. -/
def strPartsUptoCard : Claim7 := { stood := { row := strPartsUptoRow, standIns := [], harness := (true, "98a8a94f7e143b654ac8f6b04dec426892b0023d71ea9d0f65877cedf7ce1284"), looks := false }, kinds := [], alts := [], laidByText := true, laidKinds := [.data, .pinned], laidTests := true, laidLooks := .later }
def StrPartsUptoCardSaid : Prop := Claim7.holds Tryd.pinned (.plain (OpenSpec.upto strPartsSpec)) strPartsUptoCard

/-- THE SECOND FORM's CARD OF 'bailifflaw02.StrNames'. -/
def strNamesUptoCard : Claim7 := { stood := { row := strNamesUptoRow, standIns := [], harness := (true, "98a8a94f7e143b654ac8f6b04dec426892b0023d71ea9d0f65877cedf7ce1284"), looks := false }, kinds := [], alts := [], laidByText := true, laidKinds := [.data, .pinned], laidTests := true, laidLooks := .later }
def StrNamesUptoCardSaid : Prop := Claim7.holds Tryd.pinned (.plain (OpenSpec.upto strNamesSpec)) strNamesUptoCard
end Rows
end Go.Proofs.YtnlaolehpofmlaaDoor
