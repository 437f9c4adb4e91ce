/-
  DERIVED. GIVEN WITH THE SEED: THE CARDS: each row of YtkipcobpnecmhaaGreatDoorRows.lean that lists a variable, with what it lists TIED to the program's text (the seventh form; the later family's looks); each row that meets fmt, with fmt's text TOLD by the authors' own Lean function (tested against real Go, not proved from fmt's source: count such statements apart). THE CARD IS WHAT COUNTS. Prove the row's statement (the work); the ties are given (YtkipcobpnecmhaaGreatDoorTie.lean); close each card by the builder's one call (the guide's Derived/Test/ToyasCard.lean, 'card_holds'). Laid BY PROGRAM, IN A SANDBOX (cutbox-door.mjs). By AI agents, Wed Nov 11 2026. No macro, syntax, notation, axiom, sorry.
-/
import Derived.Test.YtkipcobpnecmhaaGreatDoorRows
import GoSem.ClaimSeven
namespace Go.Proofs.YtkipcobpnecmhaaGreatDoor
namespace Rows

/-- THE TIED CARD OF 'bedtop.TopCodes'. -/
def topCodesCard : Claim7 := { stood := { row := topCodesRow, standIns := [], harness := (true, "e772d27aaf3074a78ac34bbd0f0a874b29d6e6ac3c1fce802e98a1efd45f04c6"), looks := false }, kinds := [], alts := [], laidByText := true, laidKinds := [.data, .listed, .data, .pinned], laidTests := true, laidLooks := .later }
def TopCodesCardSaid : Prop := Claim7.holds Tryz.pinned (.plain (OpenSpec.ofChange topCodesSpec)) topCodesCard

/-- THE TIED CARD OF 'bedlaw2.BarCodesMatch'. -/
def barCodesMatchCard : Claim7 := { stood := { row := barCodesMatchRow, standIns := [], harness := (true, "e772d27aaf3074a78ac34bbd0f0a874b29d6e6ac3c1fce802e98a1efd45f04c6"), looks := false }, kinds := [], alts := [], laidByText := true, laidKinds := [.data, .listed, .data, .pinned], laidTests := true, laidLooks := .later }
def BarCodesMatchCardSaid : Prop := Claim7.holds Tryz.pinned (.plain (OpenSpec.ofChange barCodesMatchSpec)) barCodesMatchCard

/-- THE SECOND FORM's CARD OF 'bedtop.TopCodes'. -/
def topCodesUptoCard : Claim7 := { stood := { row := topCodesUptoRow, standIns := [], harness := (true, "e772d27aaf3074a78ac34bbd0f0a874b29d6e6ac3c1fce802e98a1efd45f04c6"), looks := false }, kinds := [], alts := [], laidByText := true, laidKinds := [.data, .listed, .data, .pinned], laidTests := true, laidLooks := .later }
def TopCodesUptoCardSaid : Prop := Claim7.holds Tryz.pinned (.plain (OpenSpec.upto topCodesSpec)) topCodesUptoCard

/-- THE SECOND FORM's CARD OF 'bedlaw2.BarCodesMatch'. -/
def barCodesMatchUptoCard : Claim7 := { stood := { row := barCodesMatchUptoRow, standIns := [], harness := (true, "e772d27aaf3074a78ac34bbd0f0a874b29d6e6ac3c1fce802e98a1efd45f04c6"), looks := false }, kinds := [], alts := [], laidByText := true, laidKinds := [.data, .listed, .data, .pinned], laidTests := true, laidLooks := .later }
def BarCodesMatchUptoCardSaid : Prop := Claim7.holds Tryz.pinned (.plain (OpenSpec.upto barCodesMatchSpec)) barCodesMatchUptoCard
end Rows
end Go.Proofs.YtkipcobpnecmhaaGreatDoor
