/-
  DERIVED. GIVEN WITH THE SEED: THE CARDS: each row of YtahfkahfaiidgaaGreatDoorRows.lean that lists a variable, with what it lists TIED to the program's text (the seventh form; the later family's looks); each row that meets fmt, with fmt's text TOLD by the authors' own Lean function (tested against real Go, not proved from fmt's source: count such statements apart). THE CARD IS WHAT COUNTS. Prove the row's statement (the work); the ties are given (YtahfkahfaiidgaaGreatDoorTie.lean); close each card by the builder's one call (the guide's Derived/Test/ToyasCard.lean, 'card_holds'). Laid BY PROGRAM, IN A SANDBOX (cutbox-door.mjs). By AI agents, Wed Nov 11 2026. No macro, syntax, notation, axiom, sorry.
-/
import Derived.Test.YtahfkahfaiidgaaGreatDoorRows
import GoSem.ClaimSeven
namespace Go.Proofs.YtahfkahfaiidgaaGreatDoor
namespace Rows

/-- THE TIED CARD OF 'bedlaw2.FormRulesMatch'. -/
def formRulesMatchCard : Claim7 := { stood := { row := formRulesMatchRow, standIns := [], harness := (true, "40ffcad80d4235f9a67663f4bb7891b99aa236191225d0bf7434232fc0235aad"), looks := true }, kinds := [], alts := [], laidByText := true, laidKinds := [.data, .data, .data, .data, .sentinel, .sentinel, .pinned], laidTests := true, laidLooks := .later }
def FormRulesMatchCardSaid : Prop := Claim7.holds Tryz.pinned (.plain (OpenSpec.ofChange formRulesMatchSpec)) formRulesMatchCard

/-- THE TIED CARD OF 'bedlaw2.FormsMatch'. -/
def formsMatchCard : Claim7 := { stood := { row := formsMatchRow, standIns := [], harness := (true, "40ffcad80d4235f9a67663f4bb7891b99aa236191225d0bf7434232fc0235aad"), looks := true }, kinds := [], alts := [], laidByText := true, laidKinds := [.data, .data, .data, .data, .sentinel, .sentinel, .pinned], laidTests := true, laidLooks := .later }
def FormsMatchCardSaid : Prop := Claim7.holds Tryz.pinned (.plain (OpenSpec.ofChange formsMatchSpec)) formsMatchCard

/-- THE SECOND FORM's CARD OF 'bedlaw2.FormRulesMatch'. -/
def formRulesMatchUptoCard : Claim7 := { stood := { row := formRulesMatchUptoRow, standIns := [], harness := (true, "40ffcad80d4235f9a67663f4bb7891b99aa236191225d0bf7434232fc0235aad"), looks := true }, kinds := [], alts := [], laidByText := true, laidKinds := [.data, .data, .data, .data, .sentinel, .sentinel, .pinned], laidTests := true, laidLooks := .later }
def FormRulesMatchUptoCardSaid : Prop := Claim7.holds Tryz.pinned (.plain (OpenSpec.upto formRulesMatchSpec)) formRulesMatchUptoCard

/-- THE SECOND FORM's CARD OF 'bedlaw2.FormsMatch'. -/
def formsMatchUptoCard : Claim7 := { stood := { row := formsMatchUptoRow, standIns := [], harness := (true, "40ffcad80d4235f9a67663f4bb7891b99aa236191225d0bf7434232fc0235aad"), looks := true }, kinds := [], alts := [], laidByText := true, laidKinds := [.data, .data, .data, .data, .sentinel, .sentinel, .pinned], laidTests := true, laidLooks := .later }
def FormsMatchUptoCardSaid : Prop := Claim7.holds Tryz.pinned (.plain (OpenSpec.upto formsMatchSpec)) formsMatchUptoCard
end Rows
end Go.Proofs.YtahfkahfaiidgaaGreatDoor
