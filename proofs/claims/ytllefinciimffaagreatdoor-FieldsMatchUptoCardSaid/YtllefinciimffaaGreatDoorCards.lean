/-
  DERIVED. GIVEN WITH THE SEED: THE CARDS: each row of YtllefinciimffaaGreatDoorRows.lean that lists a variable, with what it lists TIED to the program's text (the seventh form; the later family's looks); each row that meets fmt, with fmt's text TOLD by the authors' own Lean function (tested against real Go, not proved from fmt's source: count such statements apart). THE CARD IS WHAT COUNTS. Prove the row's statement (the work); the ties are given (YtllefinciimffaaGreatDoorTie.lean); close each card by the builder's one call (the guide's Derived/Test/ToyasCard.lean, 'card_holds'). Laid BY PROGRAM, IN A SANDBOX (cutbox-door.mjs). By AI agents, Wed Nov 11 2026. No macro, syntax, notation, axiom, sorry.
-/
import Derived.Test.YtllefinciimffaaGreatDoorRows
import GoSem.ClaimSeven
namespace Go.Proofs.YtllefinciimffaaGreatDoor
namespace Rows

/-- THE TIED CARD OF 'bedlaw2.FormsPrint'. -/
def formsPrintCard : Claim7 := { stood := { row := formsPrintRow, standIns := [], harness := (true, "be7a90b7acd9958dd66eb90c59cb8450d1058de217cfd53aaabeff7dc345d196"), looks := true }, kinds := [], alts := [], laidByText := true, laidKinds := [.data, .data, .data, .data, .sentinel, .sentinel, .pinned], laidTests := true, laidLooks := .later }
def FormsPrintCardSaid : Prop := Claim7.holds Tryz.pinned (.plain (OpenSpec.ofChange formsPrintSpec)) formsPrintCard

/-- THE TIED CARD OF 'bedlaw2.FieldsMatch'. -/
def fieldsMatchCard : Claim7 := { stood := { row := fieldsMatchRow, standIns := [], harness := (true, "be7a90b7acd9958dd66eb90c59cb8450d1058de217cfd53aaabeff7dc345d196"), looks := true }, kinds := [], alts := [], laidByText := true, laidKinds := [.data, .data, .data, .data, .sentinel, .sentinel, .listed, .data, .pinned], laidTests := true, laidLooks := .later }
def FieldsMatchCardSaid : Prop := Claim7.holds Tryz.pinned (.plain (OpenSpec.ofChange fieldsMatchSpec)) fieldsMatchCard

/-- THE TIED CARD OF 'bedtop.TopForms'. -/
def topFormsCard : Claim7 := { stood := { row := topFormsRow, standIns := [], harness := (true, "be7a90b7acd9958dd66eb90c59cb8450d1058de217cfd53aaabeff7dc345d196"), looks := true }, kinds := [], alts := [], laidByText := true, laidKinds := [.data, .data, .data, .data, .sentinel, .sentinel, .listed, .data, .pinned], laidTests := true, laidLooks := .later }
def TopFormsCardSaid : Prop := Claim7.holds Tryz.pinned (.plain (OpenSpec.ofChange topFormsSpec)) topFormsCard

/-- THE SECOND FORM's CARD OF 'bedlaw2.FormsPrint'. -/
def formsPrintUptoCard : Claim7 := { stood := { row := formsPrintUptoRow, standIns := [], harness := (true, "be7a90b7acd9958dd66eb90c59cb8450d1058de217cfd53aaabeff7dc345d196"), looks := true }, kinds := [], alts := [], laidByText := true, laidKinds := [.data, .data, .data, .data, .sentinel, .sentinel, .pinned], laidTests := true, laidLooks := .later }
def FormsPrintUptoCardSaid : Prop := Claim7.holds Tryz.pinned (.plain (OpenSpec.upto formsPrintSpec)) formsPrintUptoCard

/-- THE SECOND FORM's CARD OF 'bedlaw2.FieldsMatch'. -/
def fieldsMatchUptoCard : Claim7 := { stood := { row := fieldsMatchUptoRow, standIns := [], harness := (true, "be7a90b7acd9958dd66eb90c59cb8450d1058de217cfd53aaabeff7dc345d196"), looks := true }, kinds := [], alts := [], laidByText := true, laidKinds := [.data, .data, .data, .data, .sentinel, .sentinel, .listed, .data, .pinned], laidTests := true, laidLooks := .later }
def FieldsMatchUptoCardSaid : Prop := Claim7.holds Tryz.pinned (.plain (OpenSpec.upto fieldsMatchSpec)) fieldsMatchUptoCard

/-- THE SECOND FORM's CARD OF 'bedtop.TopForms'. -/
def topFormsUptoCard : Claim7 := { stood := { row := topFormsUptoRow, standIns := [], harness := (true, "be7a90b7acd9958dd66eb90c59cb8450d1058de217cfd53aaabeff7dc345d196"), looks := true }, kinds := [], alts := [], laidByText := true, laidKinds := [.data, .data, .data, .data, .sentinel, .sentinel, .listed, .data, .pinned], laidTests := true, laidLooks := .later }
def TopFormsUptoCardSaid : Prop := Claim7.holds Tryz.pinned (.plain (OpenSpec.upto topFormsSpec)) topFormsUptoCard
end Rows
end Go.Proofs.YtllefinciimffaaGreatDoor
