/-
  DERIVED. GIVEN WITH THE SEED: THE CARDS: each row of YtjelhdpcaileiaaGreatDoorRows.lean that lists a variable, with what it lists TIED to the program's text (the seventh form; the later family's looks); each row that meets fmt, with fmt's text TOLD by the authors' own Lean function (tested against real Go, not proved from fmt's source: count such statements apart). THE CARD IS WHAT COUNTS. Prove the row's statement (the work); the ties are given (YtjelhdpcaileiaaGreatDoorTie.lean); close each card by the builder's one call (the guide's Derived/Test/ToyasCard.lean, 'card_holds'). Laid BY PROGRAM, IN A SANDBOX (cutbox-door.mjs). By AI agents, Wed Nov 11 2026. No macro, syntax, notation, axiom, sorry.
-/
import Derived.Test.YtjelhdpcaileiaaGreatDoorRows
import GoSem.ClaimSeven
namespace Go.Proofs.YtjelhdpcaileiaaGreatDoor
namespace Rows

/-- THE TIED CARD OF 'bedtop.TopCodes'. -/
def topCodesCard : Claim7 := { stood := { row := topCodesRow, standIns := [], harness := (true, "2bfb80cf27a4d2917089121b8cc3363247b6ffdf6d60d4dbe5b9a354a8208880"), looks := true }, kinds := [], alts := [], laidByText := true, laidKinds := [.data, .listed, .data, .pinned], laidTests := true, laidLooks := .later }
def TopCodesCardSaid : Prop := Claim7.holds Tryz.pinned (.plain (OpenSpec.ofChange topCodesSpec)) topCodesCard

/-- THE TIED CARD OF 'bedlaw2.FontsPrint'. -/
def fontsPrintCard : Claim7 := { stood := { row := fontsPrintRow, standIns := [], harness := (true, "2bfb80cf27a4d2917089121b8cc3363247b6ffdf6d60d4dbe5b9a354a8208880"), looks := true }, kinds := [], alts := [], laidByText := true, laidKinds := [.data, .data, .data, .data, .sentinel, .sentinel, .pinned], laidTests := true, laidLooks := .later }
def FontsPrintCardSaid : Prop := Claim7.holds Tryz.pinned (.plain (OpenSpec.ofChange fontsPrintSpec)) fontsPrintCard

/-- THE TIED CARD OF 'bedlaw2.BestsMatch'. -/
def bestsMatchCard : Claim7 := { stood := { row := bestsMatchRow, standIns := [], harness := (true, "2bfb80cf27a4d2917089121b8cc3363247b6ffdf6d60d4dbe5b9a354a8208880"), looks := true }, kinds := [], alts := [], laidByText := true, laidKinds := [.data, .data, .data, .data, .sentinel, .sentinel, .pinned], laidTests := true, laidLooks := .later }
def BestsMatchCardSaid : Prop := Claim7.holds Tryz.pinned (.plain (OpenSpec.ofChange bestsMatchSpec)) bestsMatchCard

/-- THE TIED CARD OF 'bedlaw2.FormRulesMatch'. -/
def formRulesMatchCard : Claim7 := { stood := { row := formRulesMatchRow, standIns := [], harness := (true, "2bfb80cf27a4d2917089121b8cc3363247b6ffdf6d60d4dbe5b9a354a8208880"), looks := true }, kinds := [], alts := [], laidByText := true, laidKinds := [.data, .data, .data, .data, .sentinel, .sentinel, .pinned], laidTests := true, laidLooks := .later }
def FormRulesMatchCardSaid : Prop := Claim7.holds Tryz.pinned (.plain (OpenSpec.ofChange formRulesMatchSpec)) formRulesMatchCard

/-- THE TIED CARD OF 'bedlaw2.LinesAreRead'. -/
def linesAreReadCard : Claim7 := { stood := { row := linesAreReadRow, standIns := [], harness := (true, "2bfb80cf27a4d2917089121b8cc3363247b6ffdf6d60d4dbe5b9a354a8208880"), looks := true }, kinds := [], alts := [], laidByText := true, laidKinds := [.data, .pinned], laidTests := true, laidLooks := .later }
def LinesAreReadCardSaid : Prop := Claim7.holds Tryz.pinned (.plain (OpenSpec.ofChange linesAreReadSpec)) linesAreReadCard

/-- THE TIED CARD OF 'bedlaw2.BarCodesMatch'. -/
def barCodesMatchCard : Claim7 := { stood := { row := barCodesMatchRow, standIns := [], harness := (true, "2bfb80cf27a4d2917089121b8cc3363247b6ffdf6d60d4dbe5b9a354a8208880"), looks := true }, kinds := [], alts := [], laidByText := true, laidKinds := [.data, .listed, .data, .pinned], laidTests := true, laidLooks := .later }
def BarCodesMatchCardSaid : Prop := Claim7.holds Tryz.pinned (.plain (OpenSpec.ofChange barCodesMatchSpec)) barCodesMatchCard

/-- THE SECOND FORM's CARD OF 'bedtop.TopCodes'. -/
def topCodesUptoCard : Claim7 := { stood := { row := topCodesUptoRow, standIns := [], harness := (true, "2bfb80cf27a4d2917089121b8cc3363247b6ffdf6d60d4dbe5b9a354a8208880"), looks := true }, kinds := [], alts := [], laidByText := true, laidKinds := [.data, .listed, .data, .pinned], laidTests := true, laidLooks := .later }
def TopCodesUptoCardSaid : Prop := Claim7.holds Tryz.pinned (.plain (OpenSpec.upto topCodesSpec)) topCodesUptoCard

/-- THE SECOND FORM's CARD OF 'bedlaw2.FontsPrint'. -/
def fontsPrintUptoCard : Claim7 := { stood := { row := fontsPrintUptoRow, standIns := [], harness := (true, "2bfb80cf27a4d2917089121b8cc3363247b6ffdf6d60d4dbe5b9a354a8208880"), looks := true }, kinds := [], alts := [], laidByText := true, laidKinds := [.data, .data, .data, .data, .sentinel, .sentinel, .pinned], laidTests := true, laidLooks := .later }
def FontsPrintUptoCardSaid : Prop := Claim7.holds Tryz.pinned (.plain (OpenSpec.upto fontsPrintSpec)) fontsPrintUptoCard

/-- THE SECOND FORM's CARD OF 'bedlaw2.BestsMatch'. -/
def bestsMatchUptoCard : Claim7 := { stood := { row := bestsMatchUptoRow, standIns := [], harness := (true, "2bfb80cf27a4d2917089121b8cc3363247b6ffdf6d60d4dbe5b9a354a8208880"), looks := true }, kinds := [], alts := [], laidByText := true, laidKinds := [.data, .data, .data, .data, .sentinel, .sentinel, .pinned], laidTests := true, laidLooks := .later }
def BestsMatchUptoCardSaid : Prop := Claim7.holds Tryz.pinned (.plain (OpenSpec.upto bestsMatchSpec)) bestsMatchUptoCard

/-- THE SECOND FORM's CARD OF 'bedlaw2.FormRulesMatch'. -/
def formRulesMatchUptoCard : Claim7 := { stood := { row := formRulesMatchUptoRow, standIns := [], harness := (true, "2bfb80cf27a4d2917089121b8cc3363247b6ffdf6d60d4dbe5b9a354a8208880"), looks := true }, kinds := [], alts := [], laidByText := true, laidKinds := [.data, .data, .data, .data, .sentinel, .sentinel, .pinned], laidTests := true, laidLooks := .later }
def FormRulesMatchUptoCardSaid : Prop := Claim7.holds Tryz.pinned (.plain (OpenSpec.upto formRulesMatchSpec)) formRulesMatchUptoCard

/-- THE SECOND FORM's CARD OF 'bedlaw2.LinesAreRead'. -/
def linesAreReadUptoCard : Claim7 := { stood := { row := linesAreReadUptoRow, standIns := [], harness := (true, "2bfb80cf27a4d2917089121b8cc3363247b6ffdf6d60d4dbe5b9a354a8208880"), looks := true }, kinds := [], alts := [], laidByText := true, laidKinds := [.data, .pinned], laidTests := true, laidLooks := .later }
def LinesAreReadUptoCardSaid : Prop := Claim7.holds Tryz.pinned (.plain (OpenSpec.upto linesAreReadSpec)) linesAreReadUptoCard

/-- THE SECOND FORM's CARD OF 'bedlaw2.BarCodesMatch'. -/
def barCodesMatchUptoCard : Claim7 := { stood := { row := barCodesMatchUptoRow, standIns := [], harness := (true, "2bfb80cf27a4d2917089121b8cc3363247b6ffdf6d60d4dbe5b9a354a8208880"), looks := true }, kinds := [], alts := [], laidByText := true, laidKinds := [.data, .listed, .data, .pinned], laidTests := true, laidLooks := .later }
def BarCodesMatchUptoCardSaid : Prop := Claim7.holds Tryz.pinned (.plain (OpenSpec.upto barCodesMatchSpec)) barCodesMatchUptoCard
end Rows
end Go.Proofs.YtjelhdpcaileiaaGreatDoor
