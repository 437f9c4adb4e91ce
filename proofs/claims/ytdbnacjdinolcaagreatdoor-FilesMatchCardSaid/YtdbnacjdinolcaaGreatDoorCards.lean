/-
  DERIVED. GIVEN WITH THE SEED: THE CARDS: each row of YtdbnacjdinolcaaGreatDoorRows.lean that lists a variable, with what it lists TIED to the program's text (the seventh form; the later family's looks); each row that meets fmt, with fmt's text TOLD by the authors' own Lean function (tested against real Go, not proved from fmt's source: count such statements apart). THE CARD IS WHAT COUNTS. Prove the row's statement (the work); the ties are given (YtdbnacjdinolcaaGreatDoorTie.lean); close each card by the builder's one call (the guide's Derived/Test/ToyasCard.lean, 'card_holds'). Laid BY PROGRAM, IN A SANDBOX (cutbox-door.mjs). By AI agents, Wed Nov 11 2026. No macro, syntax, notation, axiom, sorry.
-/
import Derived.Test.YtdbnacjdinolcaaGreatDoorRows
import GoSem.ClaimSeven
namespace Go.Proofs.YtdbnacjdinolcaaGreatDoor
namespace Rows

/-- THE TIED CARD OF 'bedlaw2.FilesMatch'. -/
def filesMatchCard : Claim7 := { stood := { row := filesMatchRow, standIns := [], harness := (true, "a854714f40c300cf8fcb7c1e0c30a84415fb29ae0e91983d53c1816ffaac5cd5"), looks := true }, kinds := [], alts := [], laidByText := true, laidKinds := [.data, .data, .data, .data, .sentinel, .sentinel, .pinned], laidTests := true, laidLooks := .later }
def FilesMatchCardSaid : Prop := Claim7.holds Tryz.pinned (.plain (OpenSpec.ofChange filesMatchSpec)) filesMatchCard

/-- THE TIED CARD OF 'bedlaw2.FontsPrint'. -/
def fontsPrintCard : Claim7 := { stood := { row := fontsPrintRow, standIns := [], harness := (true, "a854714f40c300cf8fcb7c1e0c30a84415fb29ae0e91983d53c1816ffaac5cd5"), looks := true }, kinds := [], alts := [], laidByText := true, laidKinds := [.data, .data, .data, .data, .sentinel, .sentinel, .pinned], laidTests := true, laidLooks := .later }
def FontsPrintCardSaid : Prop := Claim7.holds Tryz.pinned (.plain (OpenSpec.ofChange fontsPrintSpec)) fontsPrintCard

/-- THE TIED CARD OF 'bedlaw2.BestsMatch'. -/
def bestsMatchCard : Claim7 := { stood := { row := bestsMatchRow, standIns := [], harness := (true, "a854714f40c300cf8fcb7c1e0c30a84415fb29ae0e91983d53c1816ffaac5cd5"), looks := true }, kinds := [], alts := [], laidByText := true, laidKinds := [.data, .data, .data, .data, .sentinel, .sentinel, .pinned], laidTests := true, laidLooks := .later }
def BestsMatchCardSaid : Prop := Claim7.holds Tryz.pinned (.plain (OpenSpec.ofChange bestsMatchSpec)) bestsMatchCard

/-- THE TIED CARD OF 'bedlaw2.FormRulesMatch'. -/
def formRulesMatchCard : Claim7 := { stood := { row := formRulesMatchRow, standIns := [], harness := (true, "a854714f40c300cf8fcb7c1e0c30a84415fb29ae0e91983d53c1816ffaac5cd5"), looks := true }, kinds := [], alts := [], laidByText := true, laidKinds := [.data, .data, .data, .data, .sentinel, .sentinel, .pinned], laidTests := true, laidLooks := .later }
def FormRulesMatchCardSaid : Prop := Claim7.holds Tryz.pinned (.plain (OpenSpec.ofChange formRulesMatchSpec)) formRulesMatchCard

/-- THE SECOND FORM's CARD OF 'bedlaw2.FilesMatch'. -/
def filesMatchUptoCard : Claim7 := { stood := { row := filesMatchUptoRow, standIns := [], harness := (true, "a854714f40c300cf8fcb7c1e0c30a84415fb29ae0e91983d53c1816ffaac5cd5"), looks := true }, kinds := [], alts := [], laidByText := true, laidKinds := [.data, .data, .data, .data, .sentinel, .sentinel, .pinned], laidTests := true, laidLooks := .later }
def FilesMatchUptoCardSaid : Prop := Claim7.holds Tryz.pinned (.plain (OpenSpec.upto filesMatchSpec)) filesMatchUptoCard

/-- THE SECOND FORM's CARD OF 'bedlaw2.FontsPrint'. -/
def fontsPrintUptoCard : Claim7 := { stood := { row := fontsPrintUptoRow, standIns := [], harness := (true, "a854714f40c300cf8fcb7c1e0c30a84415fb29ae0e91983d53c1816ffaac5cd5"), looks := true }, kinds := [], alts := [], laidByText := true, laidKinds := [.data, .data, .data, .data, .sentinel, .sentinel, .pinned], laidTests := true, laidLooks := .later }
def FontsPrintUptoCardSaid : Prop := Claim7.holds Tryz.pinned (.plain (OpenSpec.upto fontsPrintSpec)) fontsPrintUptoCard

/-- THE SECOND FORM's CARD OF 'bedlaw2.BestsMatch'. -/
def bestsMatchUptoCard : Claim7 := { stood := { row := bestsMatchUptoRow, standIns := [], harness := (true, "a854714f40c300cf8fcb7c1e0c30a84415fb29ae0e91983d53c1816ffaac5cd5"), looks := true }, kinds := [], alts := [], laidByText := true, laidKinds := [.data, .data, .data, .data, .sentinel, .sentinel, .pinned], laidTests := true, laidLooks := .later }
def BestsMatchUptoCardSaid : Prop := Claim7.holds Tryz.pinned (.plain (OpenSpec.upto bestsMatchSpec)) bestsMatchUptoCard

/-- THE SECOND FORM's CARD OF 'bedlaw2.FormRulesMatch'. -/
def formRulesMatchUptoCard : Claim7 := { stood := { row := formRulesMatchUptoRow, standIns := [], harness := (true, "a854714f40c300cf8fcb7c1e0c30a84415fb29ae0e91983d53c1816ffaac5cd5"), looks := true }, kinds := [], alts := [], laidByText := true, laidKinds := [.data, .data, .data, .data, .sentinel, .sentinel, .pinned], laidTests := true, laidLooks := .later }
def FormRulesMatchUptoCardSaid : Prop := Claim7.holds Tryz.pinned (.plain (OpenSpec.upto formRulesMatchSpec)) formRulesMatchUptoCard
end Rows
end Go.Proofs.YtdbnacjdinolcaaGreatDoor
