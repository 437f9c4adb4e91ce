/-
  DERIVED. GIVEN WITH THE SEED: THE CARDS: each row of YthobmednnocklaaGreatDoorRows.lean that lists a variable, with what it lists TIED to the program's text (the seventh form; the later family's looks); each row that meets fmt, with fmt's text TOLD by the authors' own Lean function (tested against real Go, not proved from fmt's source: count such statements apart). THE CARD IS WHAT COUNTS. Prove the row's statement (the work); the ties are given (YthobmednnocklaaGreatDoorTie.lean); close each card by the builder's one call (the guide's Derived/Test/ToyasCard.lean, 'card_holds'). Laid BY PROGRAM, IN A SANDBOX (cutbox-door.mjs). By AI agents, Wed Nov 11 2026. No macro, syntax, notation, axiom, sorry.
-/
import Derived.Test.YthobmednnocklaaGreatDoorRows
import GoSem.ClaimSeven
namespace Go.Proofs.YthobmednnocklaaGreatDoor
namespace Rows

/-- THE TIED CARD OF 'bedlaw2.LinesAreRead'. -/
def linesAreReadCard : Claim7 := { stood := { row := linesAreReadRow, standIns := [], harness := (true, "977c29c233082f2bdae0083966045e568118da3366fc5e4653c3ad6537fab08c"), looks := true }, kinds := [], alts := [], laidByText := true, laidKinds := [.data, .pinned], laidTests := true, laidLooks := .later }
def LinesAreReadCardSaid : Prop := Claim7.holds Tryz.pinned (.plain (OpenSpec.ofChange linesAreReadSpec)) linesAreReadCard

/-- THE TIED CARD OF 'bedlaw2.PagesAreCorrected'. -/
def pagesAreCorrectedCard : Claim7 := { stood := { row := pagesAreCorrectedRow, standIns := [], harness := (true, "977c29c233082f2bdae0083966045e568118da3366fc5e4653c3ad6537fab08c"), looks := true }, kinds := [], alts := [], laidByText := true, laidKinds := [.data, .pinned], laidTests := true, laidLooks := .later }
def PagesAreCorrectedCardSaid : Prop := Claim7.holds Tryz.pinned (.plain (OpenSpec.ofChange pagesAreCorrectedSpec)) pagesAreCorrectedCard

/-- THE TIED CARD OF 'bedlaw2.FillsMatch'. -/
def fillsMatchCard : Claim7 := { stood := { row := fillsMatchRow, standIns := [], harness := (true, "977c29c233082f2bdae0083966045e568118da3366fc5e4653c3ad6537fab08c"), looks := true }, kinds := [], alts := [], laidByText := true, laidKinds := [.data, .data, .data, .data, .sentinel, .sentinel, .listed, .data, .pinned], laidTests := true, laidLooks := .later }
def FillsMatchCardSaid : Prop := Claim7.holds Tryz.pinned (.plain (OpenSpec.ofChange fillsMatchSpec)) fillsMatchCard

/-- THE SECOND FORM's CARD OF 'bedlaw2.LinesAreRead'. -/
def linesAreReadUptoCard : Claim7 := { stood := { row := linesAreReadUptoRow, standIns := [], harness := (true, "977c29c233082f2bdae0083966045e568118da3366fc5e4653c3ad6537fab08c"), looks := true }, kinds := [], alts := [], laidByText := true, laidKinds := [.data, .pinned], laidTests := true, laidLooks := .later }
def LinesAreReadUptoCardSaid : Prop := Claim7.holds Tryz.pinned (.plain (OpenSpec.upto linesAreReadSpec)) linesAreReadUptoCard

/-- THE SECOND FORM's CARD OF 'bedlaw2.PagesAreCorrected'. -/
def pagesAreCorrectedUptoCard : Claim7 := { stood := { row := pagesAreCorrectedUptoRow, standIns := [], harness := (true, "977c29c233082f2bdae0083966045e568118da3366fc5e4653c3ad6537fab08c"), looks := true }, kinds := [], alts := [], laidByText := true, laidKinds := [.data, .pinned], laidTests := true, laidLooks := .later }
def PagesAreCorrectedUptoCardSaid : Prop := Claim7.holds Tryz.pinned (.plain (OpenSpec.upto pagesAreCorrectedSpec)) pagesAreCorrectedUptoCard

/-- THE SECOND FORM's CARD OF 'bedlaw2.FillsMatch'. -/
def fillsMatchUptoCard : Claim7 := { stood := { row := fillsMatchUptoRow, standIns := [], harness := (true, "977c29c233082f2bdae0083966045e568118da3366fc5e4653c3ad6537fab08c"), looks := true }, kinds := [], alts := [], laidByText := true, laidKinds := [.data, .data, .data, .data, .sentinel, .sentinel, .listed, .data, .pinned], laidTests := true, laidLooks := .later }
def FillsMatchUptoCardSaid : Prop := Claim7.holds Tryz.pinned (.plain (OpenSpec.upto fillsMatchSpec)) fillsMatchUptoCard
end Rows
end Go.Proofs.YthobmednnocklaaGreatDoor
