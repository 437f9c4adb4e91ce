/-
  DERIVED. GIVEN WITH THE SEED: THE CARDS: each row of YtfdailibecgkhaaDoorRows.lean that lists a variable, with what it lists TIED to the program's text (the seventh form; the later family's looks); each row that meets fmt, with fmt's text TOLD by the authors' own Lean function (tested against real Go, not proved from fmt's source: count such statements apart). THE CARD IS WHAT COUNTS. Prove the row's statement (the work); the ties are given (YtfdailibecgkhaaDoorTie.lean); close each card by the builder's one call (the guide's Derived/Test/ToyasCard.lean, 'card_holds'). Laid BY PROGRAM, IN A SANDBOX (cutbox-door.mjs). By AI agents, Wed Nov 11 2026. No macro, syntax, notation, axiom, sorry.
-/
import Derived.Test.YtfdailibecgkhaaDoorRows
import GoSem.ClaimSeven
namespace Go.Proofs.YtfdailibecgkhaaDoor
namespace Rows

/-- THE TIED CARD OF 'bedlaw2.ShapesMatch'. -/
def shapesMatchCard : Claim7 := { stood := { row := shapesMatchRow, standIns := [], harness := (true, "b33f43718b841b9a700a2643f9b9dcf858697dea5fcd5ae542675521e8a190f3"), looks := false }, kinds := [], alts := [], laidByText := true, laidKinds := [.data, .pinned], laidTests := true, laidLooks := .later }
def ShapesMatchCardSaid : Prop := Claim7.holds Tryd.pinned (.plain (OpenSpec.ofChange shapesMatchSpec)) shapesMatchCard

/-- THE SECOND FORM's CARD OF 'bedlaw2.ShapesMatch'. -/
def shapesMatchUptoCard : Claim7 := { stood := { row := shapesMatchUptoRow, standIns := [], harness := (true, "b33f43718b841b9a700a2643f9b9dcf858697dea5fcd5ae542675521e8a190f3"), looks := false }, kinds := [], alts := [], laidByText := true, laidKinds := [.data, .pinned], laidTests := true, laidLooks := .later }
def ShapesMatchUptoCardSaid : Prop := Claim7.holds Tryd.pinned (.plain (OpenSpec.upto shapesMatchSpec)) shapesMatchUptoCard
end Rows
end Go.Proofs.YtfdailibecgkhaaDoor
