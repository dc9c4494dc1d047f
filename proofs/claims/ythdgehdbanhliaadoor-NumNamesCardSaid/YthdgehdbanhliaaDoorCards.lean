/-
  DERIVED. GIVEN WITH THE SEED: THE CARDS: each row of YthdgehdbanhliaaDoorRows.lean that lists a variable, with what it lists TIED to the program's text (the seventh form; the later family's looks); each row that meets fmt, with fmt's text TOLD by the authors' own Lean function (tested against real Go, not proved from fmt's source: count such statements apart). THE CARD IS WHAT COUNTS. Prove the row's statement (the work); the ties are given (YthdgehdbanhliaaDoorTie.lean); close each card by the builder's one call (the guide's Derived/Test/ToyasCard.lean, 'card_holds'). Laid BY PROGRAM, IN A SANDBOX (cutbox-door.mjs). By AI agents, Wed Nov 11 2026. No macro, syntax, notation, axiom, sorry.
-/
import Derived.Test.YthdgehdbanhliaaDoorRows
import GoSem.ClaimSeven
namespace Go.Proofs.YthdgehdbanhliaaDoor
namespace Rows

/-- THE TIED CARD OF 'bailifflaw01.NumTexts'. -/
def numTextsCard : Claim7 := { stood := { row := numTextsRow, standIns := [], harness := (true, "4523597cd04338795b6457380c19c5a9be758f99c86825815cb7e63d1b409b18"), looks := false }, kinds := [], alts := [], laidByText := true, laidKinds := [.data, .data, .data, .data, .pinned], laidTests := true, laidLooks := .later }
def NumTextsCardSaid : Prop := Claim7.holds Tryd.pinned (.plain (OpenSpec.ofChange numTextsSpec)) numTextsCard

/-- THE TIED CARD OF 'bailifflaw01.NumAgain'. -/
def numAgainCard : Claim7 := { stood := { row := numAgainRow, standIns := [], harness := (true, "4523597cd04338795b6457380c19c5a9be758f99c86825815cb7e63d1b409b18"), looks := false }, kinds := [], alts := [], laidByText := true, laidKinds := [.data, .data, .data, .data, .pinned], laidTests := true, laidLooks := .later }
def NumAgainCardSaid : Prop := Claim7.holds Tryd.pinned (.plain (OpenSpec.ofChange numAgainSpec)) numAgainCard

/-- THE TIED CARD OF 'bailifflaw01.NumNames'. -/
def numNamesCard : Claim7 := { stood := { row := numNamesRow, standIns := [], harness := (true, "4523597cd04338795b6457380c19c5a9be758f99c86825815cb7e63d1b409b18"), looks := false }, kinds := [], alts := [], laidByText := true, laidKinds := [.data, .data, .data, .data, .pinned], laidTests := true, laidLooks := .later }
def NumNamesCardSaid : Prop := Claim7.holds Tryd.pinned (.plain (OpenSpec.ofChange numNamesSpec)) numNamesCard

/-- THE SECOND FORM's CARD OF 'bailifflaw01.NumTexts'. -/
def numTextsUptoCard : Claim7 := { stood := { row := numTextsUptoRow, standIns := [], harness := (true, "4523597cd04338795b6457380c19c5a9be758f99c86825815cb7e63d1b409b18"), looks := false }, kinds := [], alts := [], laidByText := true, laidKinds := [.data, .data, .data, .data, .pinned], laidTests := true, laidLooks := .later }
def NumTextsUptoCardSaid : Prop := Claim7.holds Tryd.pinned (.plain (OpenSpec.upto numTextsSpec)) numTextsUptoCard

/-- THE SECOND FORM's CARD OF 'bailifflaw01.NumAgain'. -/
def numAgainUptoCard : Claim7 := { stood := { row := numAgainUptoRow, standIns := [], harness := (true, "4523597cd04338795b6457380c19c5a9be758f99c86825815cb7e63d1b409b18"), looks := false }, kinds := [], alts := [], laidByText := true, laidKinds := [.data, .data, .data, .data, .pinned], laidTests := true, laidLooks := .later }
def NumAgainUptoCardSaid : Prop := Claim7.holds Tryd.pinned (.plain (OpenSpec.upto numAgainSpec)) numAgainUptoCard

/-- THE SECOND FORM's CARD OF 'bailifflaw01.NumNames'. -/
def numNamesUptoCard : Claim7 := { stood := { row := numNamesUptoRow, standIns := [], harness := (true, "4523597cd04338795b6457380c19c5a9be758f99c86825815cb7e63d1b409b18"), looks := false }, kinds := [], alts := [], laidByText := true, laidKinds := [.data, .data, .data, .data, .pinned], laidTests := true, laidLooks := .later }
def NumNamesUptoCardSaid : Prop := Claim7.holds Tryd.pinned (.plain (OpenSpec.upto numNamesSpec)) numNamesUptoCard
end Rows
end Go.Proofs.YthdgehdbanhliaaDoor
