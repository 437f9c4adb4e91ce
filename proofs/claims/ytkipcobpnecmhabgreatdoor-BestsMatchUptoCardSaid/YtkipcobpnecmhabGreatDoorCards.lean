/-
  DERIVED. GIVEN WITH THE SEED: THE CARDS: each row of YtkipcobpnecmhabGreatDoorRows.lean that lists a variable, with what it lists TIED to the program's text (the seventh form; the later family's looks); each row that meets fmt, with fmt's text TOLD by the authors' own Lean function (tested against real Go, not proved from fmt's source: count such statements apart). THE CARD IS WHAT COUNTS. Prove the row's statement (the work); the ties are given (YtkipcobpnecmhabGreatDoorTie.lean); close each card by the builder's one call (the guide's Derived/Test/ToyasCard.lean, 'card_holds'). Laid BY PROGRAM, IN A SANDBOX (cutbox-door.mjs). By AI agents, Wed Nov 11 2026. No macro, syntax, notation, axiom, sorry.
-/
import Derived.Test.YtkipcobpnecmhabGreatDoorRows
import GoSem.ClaimSeven
namespace Go.Proofs.YtkipcobpnecmhabGreatDoor
namespace Rows

/-- THE TIED CARD OF 'bedlaw2.BestsMatch'. -/
def bestsMatchCard : Claim7 := { stood := { row := bestsMatchRow, standIns := [], harness := (true, "b2d3cc049d95aee944d1770eb526efce9e9994c3abaecf0d7043e4af4106cdd1"), looks := true }, kinds := [], alts := [], laidByText := true, laidKinds := [.data, .data, .data, .data, .sentinel, .sentinel, .pinned], laidTests := true, laidLooks := .later }
def BestsMatchCardSaid : Prop := Claim7.holds Tryz.pinned (.plain (OpenSpec.ofChange bestsMatchSpec)) bestsMatchCard

/-- THE TIED CARD OF 'bedlaw2.FormRulesMatch'. -/
def formRulesMatchCard : Claim7 := { stood := { row := formRulesMatchRow, standIns := [], harness := (true, "b2d3cc049d95aee944d1770eb526efce9e9994c3abaecf0d7043e4af4106cdd1"), looks := true }, kinds := [], alts := [], laidByText := true, laidKinds := [.data, .data, .data, .data, .sentinel, .sentinel, .pinned], laidTests := true, laidLooks := .later }
def FormRulesMatchCardSaid : Prop := Claim7.holds Tryz.pinned (.plain (OpenSpec.ofChange formRulesMatchSpec)) formRulesMatchCard

/-- THE SECOND FORM's CARD OF 'bedlaw2.BestsMatch'. -/
def bestsMatchUptoCard : Claim7 := { stood := { row := bestsMatchUptoRow, standIns := [], harness := (true, "b2d3cc049d95aee944d1770eb526efce9e9994c3abaecf0d7043e4af4106cdd1"), looks := true }, kinds := [], alts := [], laidByText := true, laidKinds := [.data, .data, .data, .data, .sentinel, .sentinel, .pinned], laidTests := true, laidLooks := .later }
def BestsMatchUptoCardSaid : Prop := Claim7.holds Tryz.pinned (.plain (OpenSpec.upto bestsMatchSpec)) bestsMatchUptoCard

/-- THE SECOND FORM's CARD OF 'bedlaw2.FormRulesMatch'. -/
def formRulesMatchUptoCard : Claim7 := { stood := { row := formRulesMatchUptoRow, standIns := [], harness := (true, "b2d3cc049d95aee944d1770eb526efce9e9994c3abaecf0d7043e4af4106cdd1"), looks := true }, kinds := [], alts := [], laidByText := true, laidKinds := [.data, .data, .data, .data, .sentinel, .sentinel, .pinned], laidTests := true, laidLooks := .later }
def FormRulesMatchUptoCardSaid : Prop := Claim7.holds Tryz.pinned (.plain (OpenSpec.upto formRulesMatchSpec)) formRulesMatchUptoCard
end Rows
end Go.Proofs.YtkipcobpnecmhabGreatDoor
