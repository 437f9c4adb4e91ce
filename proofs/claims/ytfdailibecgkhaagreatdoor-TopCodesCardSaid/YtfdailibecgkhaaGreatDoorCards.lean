/-
  DERIVED. GIVEN WITH THE SEED: THE CARDS: each row of YtfdailibecgkhaaGreatDoorRows.lean that lists a variable, with what it lists TIED to the program's text (the seventh form; the later family's looks); each row that meets fmt, with fmt's text TOLD by the authors' own Lean function (tested against real Go, not proved from fmt's source: count such statements apart). THE CARD IS WHAT COUNTS. Prove the row's statement (the work); the ties are given (YtfdailibecgkhaaGreatDoorTie.lean); close each card by the builder's one call (the guide's Derived/Test/ToyasCard.lean, 'card_holds'). Laid BY PROGRAM, IN A SANDBOX (cutbox-door.mjs). By AI agents, Wed Nov 11 2026. No macro, syntax, notation, axiom, sorry.
-/
import Derived.Test.YtfdailibecgkhaaGreatDoorRows
import GoSem.ClaimSeven
namespace Go.Proofs.YtfdailibecgkhaaGreatDoor
namespace Rows

/-- THE TIED CARD OF 'bedtop.TopCodes'. -/
def topCodesCard : Claim7 := { stood := { row := topCodesRow, standIns := [], harness := (true, "1fd8e95395c3f083941f4cb338d252d2c0e4b829e5f7855fe6ebe69bc4b8e65f"), looks := true }, kinds := [], alts := [], laidByText := true, laidKinds := [.data, .listed, .data, .pinned], laidTests := true, laidLooks := .later }
def TopCodesCardSaid : Prop := Claim7.holds Tryz.pinned (.plain (OpenSpec.ofChange topCodesSpec)) topCodesCard

/-- THE TIED CARD OF 'bedlaw2.FilesMatch'. -/
def filesMatchCard : Claim7 := { stood := { row := filesMatchRow, standIns := [], harness := (true, "1fd8e95395c3f083941f4cb338d252d2c0e4b829e5f7855fe6ebe69bc4b8e65f"), looks := true }, kinds := [], alts := [], laidByText := true, laidKinds := [.data, .data, .data, .data, .sentinel, .sentinel, .pinned], laidTests := true, laidLooks := .later }
def FilesMatchCardSaid : Prop := Claim7.holds Tryz.pinned (.plain (OpenSpec.ofChange filesMatchSpec)) filesMatchCard

/-- THE TIED CARD OF 'bedlaw2.LinesAreRead'. -/
def linesAreReadCard : Claim7 := { stood := { row := linesAreReadRow, standIns := [], harness := (true, "1fd8e95395c3f083941f4cb338d252d2c0e4b829e5f7855fe6ebe69bc4b8e65f"), looks := true }, kinds := [], alts := [], laidByText := true, laidKinds := [.data, .pinned], laidTests := true, laidLooks := .later }
def LinesAreReadCardSaid : Prop := Claim7.holds Tryz.pinned (.plain (OpenSpec.ofChange linesAreReadSpec)) linesAreReadCard

/-- THE TIED CARD OF 'bedlaw2.BarCodesMatch'. -/
def barCodesMatchCard : Claim7 := { stood := { row := barCodesMatchRow, standIns := [], harness := (true, "1fd8e95395c3f083941f4cb338d252d2c0e4b829e5f7855fe6ebe69bc4b8e65f"), looks := true }, kinds := [], alts := [], laidByText := true, laidKinds := [.data, .listed, .data, .pinned], laidTests := true, laidLooks := .later }
def BarCodesMatchCardSaid : Prop := Claim7.holds Tryz.pinned (.plain (OpenSpec.ofChange barCodesMatchSpec)) barCodesMatchCard

/-- THE SECOND FORM's CARD OF 'bedtop.TopCodes'. -/
def topCodesUptoCard : Claim7 := { stood := { row := topCodesUptoRow, standIns := [], harness := (true, "1fd8e95395c3f083941f4cb338d252d2c0e4b829e5f7855fe6ebe69bc4b8e65f"), looks := true }, kinds := [], alts := [], laidByText := true, laidKinds := [.data, .listed, .data, .pinned], laidTests := true, laidLooks := .later }
def TopCodesUptoCardSaid : Prop := Claim7.holds Tryz.pinned (.plain (OpenSpec.upto topCodesSpec)) topCodesUptoCard

/-- THE SECOND FORM's CARD OF 'bedlaw2.FilesMatch'. -/
def filesMatchUptoCard : Claim7 := { stood := { row := filesMatchUptoRow, standIns := [], harness := (true, "1fd8e95395c3f083941f4cb338d252d2c0e4b829e5f7855fe6ebe69bc4b8e65f"), looks := true }, kinds := [], alts := [], laidByText := true, laidKinds := [.data, .data, .data, .data, .sentinel, .sentinel, .pinned], laidTests := true, laidLooks := .later }
def FilesMatchUptoCardSaid : Prop := Claim7.holds Tryz.pinned (.plain (OpenSpec.upto filesMatchSpec)) filesMatchUptoCard

/-- THE SECOND FORM's CARD OF 'bedlaw2.LinesAreRead'. -/
def linesAreReadUptoCard : Claim7 := { stood := { row := linesAreReadUptoRow, standIns := [], harness := (true, "1fd8e95395c3f083941f4cb338d252d2c0e4b829e5f7855fe6ebe69bc4b8e65f"), looks := true }, kinds := [], alts := [], laidByText := true, laidKinds := [.data, .pinned], laidTests := true, laidLooks := .later }
def LinesAreReadUptoCardSaid : Prop := Claim7.holds Tryz.pinned (.plain (OpenSpec.upto linesAreReadSpec)) linesAreReadUptoCard

/-- THE SECOND FORM's CARD OF 'bedlaw2.BarCodesMatch'. -/
def barCodesMatchUptoCard : Claim7 := { stood := { row := barCodesMatchUptoRow, standIns := [], harness := (true, "1fd8e95395c3f083941f4cb338d252d2c0e4b829e5f7855fe6ebe69bc4b8e65f"), looks := true }, kinds := [], alts := [], laidByText := true, laidKinds := [.data, .listed, .data, .pinned], laidTests := true, laidLooks := .later }
def BarCodesMatchUptoCardSaid : Prop := Claim7.holds Tryz.pinned (.plain (OpenSpec.upto barCodesMatchSpec)) barCodesMatchUptoCard
end Rows
end Go.Proofs.YtfdailibecgkhaaGreatDoor
