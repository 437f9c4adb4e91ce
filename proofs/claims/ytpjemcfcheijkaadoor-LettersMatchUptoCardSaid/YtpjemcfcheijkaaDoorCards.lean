/-
  DERIVED. GIVEN WITH THE SEED: THE CARDS: each row of YtpjemcfcheijkaaDoorRows.lean that lists a variable, with what it lists TIED to the program's text (the seventh form; the later family's looks); each row that meets fmt, with fmt's text TOLD by the authors' own Lean function (tested against real Go, not proved from fmt's source: count such statements apart). THE CARD IS WHAT COUNTS. Prove the row's statement (the work); the ties are given (YtpjemcfcheijkaaDoorTie.lean); close each card by the builder's one call (the guide's Derived/Test/ToyasCard.lean, 'card_holds'). Laid BY PROGRAM, IN A SANDBOX (cutbox-door.mjs). By AI agents, Wed Nov 11 2026. No macro, syntax, notation, axiom, sorry.
-/
import Derived.Test.YtpjemcfcheijkaaDoorRows
import GoSem.ClaimSeven
namespace Go.Proofs.YtpjemcfcheijkaaDoor
namespace Rows

/-- THE TIED CARD OF 'bedlaw2.ShapesMatch'. -/
def shapesMatchCard : Claim7 := { stood := { row := shapesMatchRow, standIns := [], harness := (true, "de9f9c72ef66f56d9a942de35bc493155cfd0ba014758695766b340f49bc3729"), looks := false }, kinds := [], alts := [], laidByText := true, laidKinds := [.data, .pinned], laidTests := true, laidLooks := .later }
def ShapesMatchCardSaid : Prop := Claim7.holds Tryd.pinned (.plain (OpenSpec.ofChange shapesMatchSpec)) shapesMatchCard

/-- THE TIED CARD OF 'bedlaw2.EANsMatch'. -/
def eANsMatchCard : Claim7 := { stood := { row := eANsMatchRow, standIns := [], harness := (true, "de9f9c72ef66f56d9a942de35bc493155cfd0ba014758695766b340f49bc3729"), looks := false }, kinds := [], alts := [], laidByText := true, laidKinds := [.data, .listed, .data, .pinned], laidTests := true, laidLooks := .later }
def EANsMatchCardSaid : Prop := Claim7.holds Tryd.pinned (.plain (OpenSpec.ofChange eANsMatchSpec)) eANsMatchCard

/-- THE TIED CARD OF 'bedlaw2.VotesMatch'. -/
def votesMatchCard : Claim7 := { stood := { row := votesMatchRow, standIns := [], harness := (true, "de9f9c72ef66f56d9a942de35bc493155cfd0ba014758695766b340f49bc3729"), looks := false }, kinds := [], alts := [], laidByText := true, laidKinds := [.data, .pinned], laidTests := true, laidLooks := .later }
def VotesMatchCardSaid : Prop := Claim7.holds Tryd.pinned (.plain (OpenSpec.ofChange votesMatchSpec)) votesMatchCard

/-- THE TIED CARD OF 'bedlaw2.LettersMatch'. -/
def lettersMatchCard : Claim7 := { stood := { row := lettersMatchRow, standIns := [], harness := (true, "de9f9c72ef66f56d9a942de35bc493155cfd0ba014758695766b340f49bc3729"), looks := false }, kinds := [], alts := [], laidByText := true, laidKinds := [.data, .listed, .data, .pinned], laidTests := true, laidLooks := .later }
def LettersMatchCardSaid : Prop := Claim7.holds Tryd.pinned (.plain (OpenSpec.ofChange lettersMatchSpec)) lettersMatchCard

/-- THE SECOND FORM's CARD OF 'bedlaw2.ShapesMatch'. -/
def shapesMatchUptoCard : Claim7 := { stood := { row := shapesMatchUptoRow, standIns := [], harness := (true, "de9f9c72ef66f56d9a942de35bc493155cfd0ba014758695766b340f49bc3729"), looks := false }, kinds := [], alts := [], laidByText := true, laidKinds := [.data, .pinned], laidTests := true, laidLooks := .later }
def ShapesMatchUptoCardSaid : Prop := Claim7.holds Tryd.pinned (.plain (OpenSpec.upto shapesMatchSpec)) shapesMatchUptoCard

/-- THE SECOND FORM's CARD OF 'bedlaw2.EANsMatch'. -/
def eANsMatchUptoCard : Claim7 := { stood := { row := eANsMatchUptoRow, standIns := [], harness := (true, "de9f9c72ef66f56d9a942de35bc493155cfd0ba014758695766b340f49bc3729"), looks := false }, kinds := [], alts := [], laidByText := true, laidKinds := [.data, .listed, .data, .pinned], laidTests := true, laidLooks := .later }
def EANsMatchUptoCardSaid : Prop := Claim7.holds Tryd.pinned (.plain (OpenSpec.upto eANsMatchSpec)) eANsMatchUptoCard

/-- THE SECOND FORM's CARD OF 'bedlaw2.VotesMatch'. -/
def votesMatchUptoCard : Claim7 := { stood := { row := votesMatchUptoRow, standIns := [], harness := (true, "de9f9c72ef66f56d9a942de35bc493155cfd0ba014758695766b340f49bc3729"), looks := false }, kinds := [], alts := [], laidByText := true, laidKinds := [.data, .pinned], laidTests := true, laidLooks := .later }
def VotesMatchUptoCardSaid : Prop := Claim7.holds Tryd.pinned (.plain (OpenSpec.upto votesMatchSpec)) votesMatchUptoCard

/-- THE SECOND FORM's CARD OF 'bedlaw2.LettersMatch'. -/
def lettersMatchUptoCard : Claim7 := { stood := { row := lettersMatchUptoRow, standIns := [], harness := (true, "de9f9c72ef66f56d9a942de35bc493155cfd0ba014758695766b340f49bc3729"), looks := false }, kinds := [], alts := [], laidByText := true, laidKinds := [.data, .listed, .data, .pinned], laidTests := true, laidLooks := .later }
def LettersMatchUptoCardSaid : Prop := Claim7.holds Tryd.pinned (.plain (OpenSpec.upto lettersMatchSpec)) lettersMatchUptoCard
end Rows
end Go.Proofs.YtpjemcfcheijkaaDoor
