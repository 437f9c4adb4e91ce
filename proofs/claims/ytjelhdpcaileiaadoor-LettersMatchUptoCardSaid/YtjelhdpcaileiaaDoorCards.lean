/-
  DERIVED. GIVEN WITH THE SEED: THE CARDS: each row of YtjelhdpcaileiaaDoorRows.lean that lists a variable, with what it lists TIED to the program's text (the seventh form; the later family's looks); each row that meets fmt, with fmt's text TOLD by the authors' own Lean function (tested against real Go, not proved from fmt's source: count such statements apart). THE CARD IS WHAT COUNTS. Prove the row's statement (the work); the ties are given (YtjelhdpcaileiaaDoorTie.lean); close each card by the builder's one call (the guide's Derived/Test/ToyasCard.lean, 'card_holds'). Laid BY PROGRAM, IN A SANDBOX (cutbox-door.mjs). By AI agents, Wed Nov 11 2026. No macro, syntax, notation, axiom, sorry.
-/
import Derived.Test.YtjelhdpcaileiaaDoorRows
import GoSem.ClaimSeven
namespace Go.Proofs.YtjelhdpcaileiaaDoor
namespace Rows

/-- THE TIED CARD OF 'bedlaw2.NoisesMatch'. -/
def noisesMatchCard : Claim7 := { stood := { row := noisesMatchRow, standIns := [], harness := (true, "5cebedbbd0ff11bc11e4c3ac97e4e620a6042efafa84f5e980fd2d3d68b4a300"), looks := false }, kinds := [], alts := [], laidByText := true, laidKinds := [.data, .pinned], laidTests := true, laidLooks := .later }
def NoisesMatchCardSaid : Prop := Claim7.holds Tryd.pinned (.plain (OpenSpec.ofChange noisesMatchSpec)) noisesMatchCard

/-- THE TIED CARD OF 'bedtop.TopReadsBack'. -/
def topReadsBackCard : Claim7 := { stood := { row := topReadsBackRow, standIns := [], harness := (true, "5cebedbbd0ff11bc11e4c3ac97e4e620a6042efafa84f5e980fd2d3d68b4a300"), looks := false }, kinds := [], alts := [], laidByText := true, laidKinds := [.data, .pinned], laidTests := true, laidLooks := .later }
def TopReadsBackCardSaid : Prop := Claim7.holds Tryd.pinned (.plain (OpenSpec.ofChange topReadsBackSpec)) topReadsBackCard

/-- THE TIED CARD OF 'bedlaw2.DrawsMatch'. -/
def drawsMatchCard : Claim7 := { stood := { row := drawsMatchRow, standIns := [], harness := (true, "5cebedbbd0ff11bc11e4c3ac97e4e620a6042efafa84f5e980fd2d3d68b4a300"), looks := false }, kinds := [], alts := [], laidByText := true, laidKinds := [.data, .pinned], laidTests := true, laidLooks := .later }
def DrawsMatchCardSaid : Prop := Claim7.holds Tryd.pinned (.plain (OpenSpec.ofChange drawsMatchSpec)) drawsMatchCard

/-- THE TIED CARD OF 'bedlaw2.ShapesMatch'. -/
def shapesMatchCard : Claim7 := { stood := { row := shapesMatchRow, standIns := [], harness := (true, "5cebedbbd0ff11bc11e4c3ac97e4e620a6042efafa84f5e980fd2d3d68b4a300"), looks := false }, kinds := [], alts := [], laidByText := true, laidKinds := [.data, .pinned], laidTests := true, laidLooks := .later }
def ShapesMatchCardSaid : Prop := Claim7.holds Tryd.pinned (.plain (OpenSpec.ofChange shapesMatchSpec)) shapesMatchCard

/-- THE TIED CARD OF 'bedlaw2.EANsMatch'. -/
def eANsMatchCard : Claim7 := { stood := { row := eANsMatchRow, standIns := [], harness := (true, "5cebedbbd0ff11bc11e4c3ac97e4e620a6042efafa84f5e980fd2d3d68b4a300"), looks := false }, kinds := [], alts := [], laidByText := true, laidKinds := [.data, .listed, .data, .pinned], laidTests := true, laidLooks := .later }
def EANsMatchCardSaid : Prop := Claim7.holds Tryd.pinned (.plain (OpenSpec.ofChange eANsMatchSpec)) eANsMatchCard

/-- THE TIED CARD OF 'bedlaw2.VotesMatch'. -/
def votesMatchCard : Claim7 := { stood := { row := votesMatchRow, standIns := [], harness := (true, "5cebedbbd0ff11bc11e4c3ac97e4e620a6042efafa84f5e980fd2d3d68b4a300"), looks := false }, kinds := [], alts := [], laidByText := true, laidKinds := [.data, .pinned], laidTests := true, laidLooks := .later }
def VotesMatchCardSaid : Prop := Claim7.holds Tryd.pinned (.plain (OpenSpec.ofChange votesMatchSpec)) votesMatchCard

/-- THE TIED CARD OF 'bedlaw2.LettersMatch'. -/
def lettersMatchCard : Claim7 := { stood := { row := lettersMatchRow, standIns := [], harness := (true, "5cebedbbd0ff11bc11e4c3ac97e4e620a6042efafa84f5e980fd2d3d68b4a300"), looks := false }, kinds := [], alts := [], laidByText := true, laidKinds := [.data, .listed, .data, .pinned], laidTests := true, laidLooks := .later }
def LettersMatchCardSaid : Prop := Claim7.holds Tryd.pinned (.plain (OpenSpec.ofChange lettersMatchSpec)) lettersMatchCard

/-- THE SECOND FORM's CARD OF 'bedlaw2.NoisesMatch'. -/
def noisesMatchUptoCard : Claim7 := { stood := { row := noisesMatchUptoRow, standIns := [], harness := (true, "5cebedbbd0ff11bc11e4c3ac97e4e620a6042efafa84f5e980fd2d3d68b4a300"), looks := false }, kinds := [], alts := [], laidByText := true, laidKinds := [.data, .pinned], laidTests := true, laidLooks := .later }
def NoisesMatchUptoCardSaid : Prop := Claim7.holds Tryd.pinned (.plain (OpenSpec.upto noisesMatchSpec)) noisesMatchUptoCard

/-- THE SECOND FORM's CARD OF 'bedtop.TopReadsBack'. -/
def topReadsBackUptoCard : Claim7 := { stood := { row := topReadsBackUptoRow, standIns := [], harness := (true, "5cebedbbd0ff11bc11e4c3ac97e4e620a6042efafa84f5e980fd2d3d68b4a300"), looks := false }, kinds := [], alts := [], laidByText := true, laidKinds := [.data, .pinned], laidTests := true, laidLooks := .later }
def TopReadsBackUptoCardSaid : Prop := Claim7.holds Tryd.pinned (.plain (OpenSpec.upto topReadsBackSpec)) topReadsBackUptoCard

/-- THE SECOND FORM's CARD OF 'bedlaw2.DrawsMatch'. -/
def drawsMatchUptoCard : Claim7 := { stood := { row := drawsMatchUptoRow, standIns := [], harness := (true, "5cebedbbd0ff11bc11e4c3ac97e4e620a6042efafa84f5e980fd2d3d68b4a300"), looks := false }, kinds := [], alts := [], laidByText := true, laidKinds := [.data, .pinned], laidTests := true, laidLooks := .later }
def DrawsMatchUptoCardSaid : Prop := Claim7.holds Tryd.pinned (.plain (OpenSpec.upto drawsMatchSpec)) drawsMatchUptoCard

/-- THE SECOND FORM's CARD OF 'bedlaw2.ShapesMatch'. -/
def shapesMatchUptoCard : Claim7 := { stood := { row := shapesMatchUptoRow, standIns := [], harness := (true, "5cebedbbd0ff11bc11e4c3ac97e4e620a6042efafa84f5e980fd2d3d68b4a300"), looks := false }, kinds := [], alts := [], laidByText := true, laidKinds := [.data, .pinned], laidTests := true, laidLooks := .later }
def ShapesMatchUptoCardSaid : Prop := Claim7.holds Tryd.pinned (.plain (OpenSpec.upto shapesMatchSpec)) shapesMatchUptoCard

/-- THE SECOND FORM's CARD OF 'bedlaw2.EANsMatch'. -/
def eANsMatchUptoCard : Claim7 := { stood := { row := eANsMatchUptoRow, standIns := [], harness := (true, "5cebedbbd0ff11bc11e4c3ac97e4e620a6042efafa84f5e980fd2d3d68b4a300"), looks := false }, kinds := [], alts := [], laidByText := true, laidKinds := [.data, .listed, .data, .pinned], laidTests := true, laidLooks := .later }
def EANsMatchUptoCardSaid : Prop := Claim7.holds Tryd.pinned (.plain (OpenSpec.upto eANsMatchSpec)) eANsMatchUptoCard

/-- THE SECOND FORM's CARD OF 'bedlaw2.VotesMatch'. -/
def votesMatchUptoCard : Claim7 := { stood := { row := votesMatchUptoRow, standIns := [], harness := (true, "5cebedbbd0ff11bc11e4c3ac97e4e620a6042efafa84f5e980fd2d3d68b4a300"), looks := false }, kinds := [], alts := [], laidByText := true, laidKinds := [.data, .pinned], laidTests := true, laidLooks := .later }
def VotesMatchUptoCardSaid : Prop := Claim7.holds Tryd.pinned (.plain (OpenSpec.upto votesMatchSpec)) votesMatchUptoCard

/-- THE SECOND FORM's CARD OF 'bedlaw2.LettersMatch'. -/
def lettersMatchUptoCard : Claim7 := { stood := { row := lettersMatchUptoRow, standIns := [], harness := (true, "5cebedbbd0ff11bc11e4c3ac97e4e620a6042efafa84f5e980fd2d3d68b4a300"), looks := false }, kinds := [], alts := [], laidByText := true, laidKinds := [.data, .listed, .data, .pinned], laidTests := true, laidLooks := .later }
def LettersMatchUptoCardSaid : Prop := Claim7.holds Tryd.pinned (.plain (OpenSpec.upto lettersMatchSpec)) lettersMatchUptoCard
end Rows
end Go.Proofs.YtjelhdpcaileiaaDoor
