/-
  NARROWER THAN 'FOR EVERY INPUT', by the rows' own cells (each row's printed sentence says how): CutsMatch: laid · TopStraight: laid · PagesPrint: laid · NoisesMatch: laid · ReadsMatch: laid · DrawsMatch: laid · FontsMatch: laid · ShapesMatch: laid · LinesAreSet: laid.
  DERIVED. THE GIVEN ROWS OF THIS SEAT. 9 by the template 'for every input the law returns true; each argument reads behind the call as it read before'; 0 by the template 'total and deterministic' (their statements: YtecfjdladcmhjaaDoorTotals.lean).
  GIVEN WITH THE SEED: the statements are not yours to turn. If you find one false, say at which input.
  Laid BY PROGRAM, IN A SANDBOX (cutbox-rows.mjs): the forced cells as the released guide's own fill.sh prints them over the translation 1009c30a0f8a1194… (all of the seat's roots in one cut). By AI agents, Wed Nov 11 2026. No macro, syntax, notation, axiom, sorry.
-/
import Derived.Test.YtecfjdladcmhjaaDoorChecked
import GoSem.PinnedTables
import GoSem.Claim
import GoSem.ClaimJoined
import GoSem.ClaimMapViews
import Derived.JoinedTies
import Derived.KernelRfl
namespace Go.Proofs.YtecfjdladcmhjaaDoor
/- THE CELL 'sum', in the pinned program and in every row, IS THE sha256 OF THE DUMP (.gsa) THAT YtecfjdladcmhjaaDoorProg.lean LOADS. Nothing in Lean hashes anything: it is a label: what it is worth is what the hold of that sum in a sandbox is worth. -/
noncomputable def Tryd.pinned : Pinned := { name := "ytecfjdladcmhjaadoor", sum := "1009c30a0f8a1194232ea408c02aae4c04064ccf3a7b19dc74e3334690986416", checked := Tryd.checked }
namespace Rows
def none {H : Type} : Left H := { results := [], args := [] }

/- WHAT THE LISTED PACKAGE-LEVEL VARIABLES READ AS WHEN THE CALL BEGINS. Each datum BY PROGRAM (the guide's laid-datum.mjs) off the statement by which the dump's own 'gosem.cut.vars' lays the variable. In a bare row this is a premise. The card (YtecfjdladcmhjaaDoorCards.lean) ties it to the program's text. -/
def laid_unicode_utf8_acceptRanges {H : Type} : DataW H := .agg [.agg [.lit (.int .u8 128), .lit (.int .u8 191)], .agg [.lit (.int .u8 160), .lit (.int .u8 191)], .agg [.lit (.int .u8 128), .lit (.int .u8 159)], .agg [.lit (.int .u8 144), .lit (.int .u8 191)], .agg [.lit (.int .u8 128), .lit (.int .u8 143)], .agg [.lit (.int .u8 0), .lit (.int .u8 0)], .agg [.lit (.int .u8 0), .lit (.int .u8 0)], .agg [.lit (.int .u8 0), .lit (.int .u8 0)], .agg [.lit (.int .u8 0), .lit (.int .u8 0)], .agg [.lit (.int .u8 0), .lit (.int .u8 0)], .agg [.lit (.int .u8 0), .lit (.int .u8 0)], .agg [.lit (.int .u8 0), .lit (.int .u8 0)], .agg [.lit (.int .u8 0), .lit (.int .u8 0)], .agg [.lit (.int .u8 0), .lit (.int .u8 0)], .agg [.lit (.int .u8 0), .lit (.int .u8 0)], .agg [.lit (.int .u8 0), .lit (.int .u8 0)]]
/-- One of Go's own tables, pinned by name: the form's constant. -/
def laid_unicode_utf8_first : DataW Unit := Go.Pinned.utf8First

/-- 'bedlaw2.CutsMatch': WHATEVER THE INPUT: true; the input reads as it did. -/
def cutsMatchSpec : ChangeSpec := { name := "cutsMatch", fn := fun _ => fun
  | [d1, d2, d3, d4, d5, d6] => { results := [.lit (.bool true)], args := [d1, d2, d3, d4, d5, d6] }
  | _ => none }
def cutsMatchRow : OpenClaim := { program := "ytecfjdladcmhjaadoor", sum := "1009c30a0f8a1194232ea408c02aae4c04064ccf3a7b19dc74e3334690986416", func := "flatbed/bedlaw2.CutsMatch", spec := "cutsMatch", inPlace := ["internal/bytealg.IndexByteString", "internal/bytealg.IndexString"], unfollowed := true, recurses := true, named := ["unicode/utf8.first", "unicode/utf8.acceptRanges", "internal/bytealg.MaxLen"], apart := false, laid := [("unicode/utf8.acceptRanges", laid_unicode_utf8_acceptRanges), ("unicode/utf8.first", laid_unicode_utf8_first)] }
def CutsMatchSaid : Prop := cutsMatchRow.holds Tryd.pinned (OpenSpec.ofChange cutsMatchSpec)

/-- ITS FALSE NEIGHBOUR: 'it returns false'. Refute it at one input. -/
def cutsMatchWrong : ChangeSpec := { name := "cutsMatch", fn := fun _ => fun
  | [d1, d2, d3, d4, d5, d6] => { results := [.lit (.bool false)], args := [d1, d2, d3, d4, d5, d6] }
  | _ => none }
def CutsMatchWrongFalsely : Prop := cutsMatchRow.holds Tryd.pinned (OpenSpec.ofChange cutsMatchWrong)

/-- 'bedtop.TopStraight': WHATEVER THE INPUT: true; the input reads as it did. -/
def topStraightSpec : ChangeSpec := { name := "topStraight", fn := fun _ => fun
  | [d1, d2, d3, d4] => { results := [.lit (.bool true)], args := [d1, d2, d3, d4] }
  | _ => none }
def topStraightRow : OpenClaim := { program := "ytecfjdladcmhjaadoor", sum := "1009c30a0f8a1194232ea408c02aae4c04064ccf3a7b19dc74e3334690986416", func := "flatbed/bedtop.TopStraight", spec := "topStraight", inPlace := ["internal/bytealg.IndexByteString", "internal/bytealg.IndexString"], unfollowed := true, recurses := true, named := ["unicode/utf8.first", "unicode/utf8.acceptRanges", "internal/bytealg.MaxLen"], apart := false, laid := [("unicode/utf8.acceptRanges", laid_unicode_utf8_acceptRanges), ("unicode/utf8.first", laid_unicode_utf8_first)] }
def TopStraightSaid : Prop := topStraightRow.holds Tryd.pinned (OpenSpec.ofChange topStraightSpec)

/-- ITS FALSE NEIGHBOUR: 'it returns false'. Refute it at one input. -/
def topStraightWrong : ChangeSpec := { name := "topStraight", fn := fun _ => fun
  | [d1, d2, d3, d4] => { results := [.lit (.bool false)], args := [d1, d2, d3, d4] }
  | _ => none }
def TopStraightWrongFalsely : Prop := topStraightRow.holds Tryd.pinned (OpenSpec.ofChange topStraightWrong)

/-- 'bedlaw2.PagesPrint': WHATEVER THE INPUT: true; the input reads as it did. -/
def pagesPrintSpec : ChangeSpec := { name := "pagesPrint", fn := fun _ => fun
  | [d1, d2] => { results := [.lit (.bool true)], args := [d1, d2] }
  | _ => none }
def pagesPrintRow : OpenClaim := { program := "ytecfjdladcmhjaadoor", sum := "1009c30a0f8a1194232ea408c02aae4c04064ccf3a7b19dc74e3334690986416", func := "flatbed/bedlaw2.PagesPrint", spec := "pagesPrint", inPlace := ["internal/bytealg.IndexByteString", "internal/bytealg.IndexString", "internal/abi.NoEscape"], named := ["internal/bytealg.MaxLen", "unicode/utf8.first", "unicode/utf8.acceptRanges"], apart := false, laid := [("unicode/utf8.acceptRanges", laid_unicode_utf8_acceptRanges), ("unicode/utf8.first", laid_unicode_utf8_first)] }
def PagesPrintSaid : Prop := pagesPrintRow.holds Tryd.pinned (OpenSpec.ofChange pagesPrintSpec)

/-- ITS FALSE NEIGHBOUR: 'it returns false'. Refute it at one input. -/
def pagesPrintWrong : ChangeSpec := { name := "pagesPrint", fn := fun _ => fun
  | [d1, d2] => { results := [.lit (.bool false)], args := [d1, d2] }
  | _ => none }
def PagesPrintWrongFalsely : Prop := pagesPrintRow.holds Tryd.pinned (OpenSpec.ofChange pagesPrintWrong)

/-- 'bedlaw2.NoisesMatch': WHATEVER THE INPUT: true; the input reads as it did. -/
def noisesMatchSpec : ChangeSpec := { name := "noisesMatch", fn := fun _ => fun
  | [d1, d2, d3, d4, d5, d6] => { results := [.lit (.bool true)], args := [d1, d2, d3, d4, d5, d6] }
  | _ => none }
def noisesMatchRow : OpenClaim := { program := "ytecfjdladcmhjaadoor", sum := "1009c30a0f8a1194232ea408c02aae4c04064ccf3a7b19dc74e3334690986416", func := "flatbed/bedlaw2.NoisesMatch", spec := "noisesMatch", inPlace := ["internal/bytealg.IndexByteString", "internal/bytealg.IndexString"], unfollowed := true, recurses := true, named := ["unicode/utf8.first", "unicode/utf8.acceptRanges", "internal/bytealg.MaxLen"], apart := false, laid := [("unicode/utf8.acceptRanges", laid_unicode_utf8_acceptRanges), ("unicode/utf8.first", laid_unicode_utf8_first)] }
def NoisesMatchSaid : Prop := noisesMatchRow.holds Tryd.pinned (OpenSpec.ofChange noisesMatchSpec)

/-- ITS FALSE NEIGHBOUR: 'it returns false'. Refute it at one input. -/
def noisesMatchWrong : ChangeSpec := { name := "noisesMatch", fn := fun _ => fun
  | [d1, d2, d3, d4, d5, d6] => { results := [.lit (.bool false)], args := [d1, d2, d3, d4, d5, d6] }
  | _ => none }
def NoisesMatchWrongFalsely : Prop := noisesMatchRow.holds Tryd.pinned (OpenSpec.ofChange noisesMatchWrong)

/-- 'bedlaw2.ReadsMatch': WHATEVER THE INPUT: true; the input reads as it did. -/
def readsMatchSpec : ChangeSpec := { name := "readsMatch", fn := fun _ => fun
  | [d1, d2, d3, d4] => { results := [.lit (.bool true)], args := [d1, d2, d3, d4] }
  | _ => none }
def readsMatchRow : OpenClaim := { program := "ytecfjdladcmhjaadoor", sum := "1009c30a0f8a1194232ea408c02aae4c04064ccf3a7b19dc74e3334690986416", func := "flatbed/bedlaw2.ReadsMatch", spec := "readsMatch", inPlace := ["internal/bytealg.IndexByteString", "internal/bytealg.IndexString", "internal/abi.NoEscape"], unfollowed := true, recurses := true, named := ["unicode/utf8.first", "unicode/utf8.acceptRanges", "internal/bytealg.MaxLen"], apart := false, laid := [("unicode/utf8.acceptRanges", laid_unicode_utf8_acceptRanges), ("unicode/utf8.first", laid_unicode_utf8_first)] }
def ReadsMatchSaid : Prop := readsMatchRow.holds Tryd.pinned (OpenSpec.ofChange readsMatchSpec)

/-- ITS FALSE NEIGHBOUR: 'it returns false'. Refute it at one input. -/
def readsMatchWrong : ChangeSpec := { name := "readsMatch", fn := fun _ => fun
  | [d1, d2, d3, d4] => { results := [.lit (.bool false)], args := [d1, d2, d3, d4] }
  | _ => none }
def ReadsMatchWrongFalsely : Prop := readsMatchRow.holds Tryd.pinned (OpenSpec.ofChange readsMatchWrong)

/-- 'bedlaw2.DrawsMatch': WHATEVER THE INPUT: true; the input reads as it did. -/
def drawsMatchSpec : ChangeSpec := { name := "drawsMatch", fn := fun _ => fun
  | [d1, d2, d3, d4, d5, d6, d7, d8] => { results := [.lit (.bool true)], args := [d1, d2, d3, d4, d5, d6, d7, d8] }
  | _ => none }
def drawsMatchRow : OpenClaim := { program := "ytecfjdladcmhjaadoor", sum := "1009c30a0f8a1194232ea408c02aae4c04064ccf3a7b19dc74e3334690986416", func := "flatbed/bedlaw2.DrawsMatch", spec := "drawsMatch", inPlace := ["internal/bytealg.IndexByteString", "internal/bytealg.IndexString", "internal/abi.NoEscape", "internal/bytealg.MakeNoZero"], unfollowed := true, recurses := true, named := ["unicode/utf8.first", "unicode/utf8.acceptRanges", "internal/bytealg.MaxLen"], apart := false, laid := [("unicode/utf8.acceptRanges", laid_unicode_utf8_acceptRanges), ("unicode/utf8.first", laid_unicode_utf8_first)] }
def DrawsMatchSaid : Prop := drawsMatchRow.holds Tryd.pinned (OpenSpec.ofChange drawsMatchSpec)

/-- ITS FALSE NEIGHBOUR: 'it returns false'. Refute it at one input. -/
def drawsMatchWrong : ChangeSpec := { name := "drawsMatch", fn := fun _ => fun
  | [d1, d2, d3, d4, d5, d6, d7, d8] => { results := [.lit (.bool false)], args := [d1, d2, d3, d4, d5, d6, d7, d8] }
  | _ => none }
def DrawsMatchWrongFalsely : Prop := drawsMatchRow.holds Tryd.pinned (OpenSpec.ofChange drawsMatchWrong)

/-- 'bedlaw2.FontsMatch': WHATEVER THE INPUT: true; the input reads as it did. -/
def fontsMatchSpec : ChangeSpec := { name := "fontsMatch", fn := fun _ => fun
  | [d1, d2] => { results := [.lit (.bool true)], args := [d1, d2] }
  | _ => none }
def fontsMatchRow : OpenClaim := { program := "ytecfjdladcmhjaadoor", sum := "1009c30a0f8a1194232ea408c02aae4c04064ccf3a7b19dc74e3334690986416", func := "flatbed/bedlaw2.FontsMatch", spec := "fontsMatch", inPlace := ["internal/bytealg.IndexByteString", "internal/bytealg.IndexString"], unfollowed := true, recurses := true, named := ["unicode/utf8.first", "unicode/utf8.acceptRanges", "internal/bytealg.MaxLen"], apart := false, laid := [("unicode/utf8.acceptRanges", laid_unicode_utf8_acceptRanges), ("unicode/utf8.first", laid_unicode_utf8_first)] }
def FontsMatchSaid : Prop := fontsMatchRow.holds Tryd.pinned (OpenSpec.ofChange fontsMatchSpec)

/-- ITS FALSE NEIGHBOUR: 'it returns false'. Refute it at one input. -/
def fontsMatchWrong : ChangeSpec := { name := "fontsMatch", fn := fun _ => fun
  | [d1, d2] => { results := [.lit (.bool false)], args := [d1, d2] }
  | _ => none }
def FontsMatchWrongFalsely : Prop := fontsMatchRow.holds Tryd.pinned (OpenSpec.ofChange fontsMatchWrong)

/-- 'bedlaw2.ShapesMatch': WHATEVER THE INPUT: true; the input reads as it did. -/
def shapesMatchSpec : ChangeSpec := { name := "shapesMatch", fn := fun _ => fun
  | [d1, d2, d3, d4] => { results := [.lit (.bool true)], args := [d1, d2, d3, d4] }
  | _ => none }
def shapesMatchRow : OpenClaim := { program := "ytecfjdladcmhjaadoor", sum := "1009c30a0f8a1194232ea408c02aae4c04064ccf3a7b19dc74e3334690986416", func := "flatbed/bedlaw2.ShapesMatch", spec := "shapesMatch", inPlace := ["internal/bytealg.IndexByteString", "internal/bytealg.IndexString"], unfollowed := true, recurses := true, named := ["unicode/utf8.first", "unicode/utf8.acceptRanges", "internal/bytealg.MaxLen"], apart := false, laid := [("unicode/utf8.acceptRanges", laid_unicode_utf8_acceptRanges), ("unicode/utf8.first", laid_unicode_utf8_first)] }
def ShapesMatchSaid : Prop := shapesMatchRow.holds Tryd.pinned (OpenSpec.ofChange shapesMatchSpec)

/-- ITS FALSE NEIGHBOUR: 'it returns false'. Refute it at one input. -/
def shapesMatchWrong : ChangeSpec := { name := "shapesMatch", fn := fun _ => fun
  | [d1, d2, d3, d4] => { results := [.lit (.bool false)], args := [d1, d2, d3, d4] }
  | _ => none }
def ShapesMatchWrongFalsely : Prop := shapesMatchRow.holds Tryd.pinned (OpenSpec.ofChange shapesMatchWrong)

/-- 'bedlaw2.LinesAreSet': WHATEVER THE INPUT: true; the input reads as it did. -/
def linesAreSetSpec : ChangeSpec := { name := "linesAreSet", fn := fun _ => fun
  | [d1, d2, d3, d4, d5] => { results := [.lit (.bool true)], args := [d1, d2, d3, d4, d5] }
  | _ => none }
def linesAreSetRow : OpenClaim := { program := "ytecfjdladcmhjaadoor", sum := "1009c30a0f8a1194232ea408c02aae4c04064ccf3a7b19dc74e3334690986416", func := "flatbed/bedlaw2.LinesAreSet", spec := "linesAreSet", inPlace := ["internal/bytealg.IndexByteString", "internal/bytealg.IndexString", "internal/bytealg.CountString"], unfollowed := true, recurses := true, named := ["unicode/utf8.first", "unicode/utf8.acceptRanges", "internal/bytealg.MaxLen"], apart := false, laid := [("unicode/utf8.acceptRanges", laid_unicode_utf8_acceptRanges), ("unicode/utf8.first", laid_unicode_utf8_first)] }
def LinesAreSetSaid : Prop := linesAreSetRow.holds Tryd.pinned (OpenSpec.ofChange linesAreSetSpec)

/-- ITS FALSE NEIGHBOUR: 'it returns false'. Refute it at one input. -/
def linesAreSetWrong : ChangeSpec := { name := "linesAreSet", fn := fun _ => fun
  | [d1, d2, d3, d4, d5] => { results := [.lit (.bool false)], args := [d1, d2, d3, d4, d5] }
  | _ => none }
def LinesAreSetWrongFalsely : Prop := linesAreSetRow.holds Tryd.pinned (OpenSpec.ofChange linesAreSetWrong)

/- THE SECOND FORM. 'bulk': how many values and letters a reading holds, each counted each time it is reached (what is shared counts as often as it is met; a slice's spare places count too). A statement '..UptoSaid' is the law's where the arguments, and the package variables that the reading takes, are together of bulk at most 1048576: NARROWER than '..Said'. Prove '..Said' where nothing that the law and all that it calls make is longer than what came in: it says more and counts as full. Else prove '..UptoSaid'. A law counts once. -/
mutual
def uptoBulk {H : Type} : DataW H → Nat
  | .lit (.string bytes) => bytes.length + 1
  | .lit _ => 1
  | .nil => 1
  | .ptr d => uptoBulk d + 1
  | .slice elems spare => uptoBulkAll elems + uptoBulkAll spare + 1
  | .agg parts => uptoBulkAll parts + 1
  | .iface _ d => uptoBulk d + 1
  | .map entries => uptoBulkEntries entries + 1
  | .held _ => 1
def uptoBulkAll {H : Type} : List (DataW H) → Nat
  | [] => 0
  | d :: r => uptoBulk d + uptoBulkAll r
def uptoBulkEntries {H : Type} : List (Lit × DataW H) → Nat
  | [] => 0
  | x :: r => uptoBulkEntry x + uptoBulkEntries r
def uptoBulkEntry {H : Type} : Lit × DataW H → Nat
  | (.string bytes, d) => bytes.length + uptoBulk d + 1
  | (_, d) => uptoBulk d + 1
 end
def uptoSmall : (H : Type) → List (DataW H) → Bool := fun _ ds => decide (uptoBulkAll ds ≤ 1048576)
def OpenSpec.upto (s : _root_.Go.ChangeSpec) : _root_.Go.OpenSpec := { _root_.Go.OpenSpec.ofChange s with cond := some uptoSmall }

/-- 'bedlaw2.CutsMatch', WHERE WHAT IT READS IS OF BULK AT MOST 1048576: true; the input reads as it did. -/
def cutsMatchUptoRow : OpenClaim := { program := "ytecfjdladcmhjaadoor", sum := "1009c30a0f8a1194232ea408c02aae4c04064ccf3a7b19dc74e3334690986416", func := "flatbed/bedlaw2.CutsMatch", spec := "cutsMatch", inPlace := ["internal/bytealg.IndexByteString", "internal/bytealg.IndexString"], unfollowed := true, recurses := true, named := ["unicode/utf8.first", "unicode/utf8.acceptRanges", "internal/bytealg.MaxLen"], apart := false, laid := [("unicode/utf8.acceptRanges", laid_unicode_utf8_acceptRanges), ("unicode/utf8.first", laid_unicode_utf8_first)], narrowed := true }
def CutsMatchUptoSaid : Prop := cutsMatchUptoRow.holds Tryd.pinned (OpenSpec.upto cutsMatchSpec)

/-- 'bedtop.TopStraight', WHERE WHAT IT READS IS OF BULK AT MOST 1048576: true; the input reads as it did. -/
def topStraightUptoRow : OpenClaim := { program := "ytecfjdladcmhjaadoor", sum := "1009c30a0f8a1194232ea408c02aae4c04064ccf3a7b19dc74e3334690986416", func := "flatbed/bedtop.TopStraight", spec := "topStraight", inPlace := ["internal/bytealg.IndexByteString", "internal/bytealg.IndexString"], unfollowed := true, recurses := true, named := ["unicode/utf8.first", "unicode/utf8.acceptRanges", "internal/bytealg.MaxLen"], apart := false, laid := [("unicode/utf8.acceptRanges", laid_unicode_utf8_acceptRanges), ("unicode/utf8.first", laid_unicode_utf8_first)], narrowed := true }
def TopStraightUptoSaid : Prop := topStraightUptoRow.holds Tryd.pinned (OpenSpec.upto topStraightSpec)

/-- 'bedlaw2.PagesPrint', WHERE WHAT IT READS IS OF BULK AT MOST 1048576: true; the input reads as it did. -/
def pagesPrintUptoRow : OpenClaim := { program := "ytecfjdladcmhjaadoor", sum := "1009c30a0f8a1194232ea408c02aae4c04064ccf3a7b19dc74e3334690986416", func := "flatbed/bedlaw2.PagesPrint", spec := "pagesPrint", inPlace := ["internal/bytealg.IndexByteString", "internal/bytealg.IndexString", "internal/abi.NoEscape"], named := ["internal/bytealg.MaxLen", "unicode/utf8.first", "unicode/utf8.acceptRanges"], apart := false, laid := [("unicode/utf8.acceptRanges", laid_unicode_utf8_acceptRanges), ("unicode/utf8.first", laid_unicode_utf8_first)], narrowed := true }
def PagesPrintUptoSaid : Prop := pagesPrintUptoRow.holds Tryd.pinned (OpenSpec.upto pagesPrintSpec)

/-- 'bedlaw2.NoisesMatch', WHERE WHAT IT READS IS OF BULK AT MOST 1048576: true; the input reads as it did. -/
def noisesMatchUptoRow : OpenClaim := { program := "ytecfjdladcmhjaadoor", sum := "1009c30a0f8a1194232ea408c02aae4c04064ccf3a7b19dc74e3334690986416", func := "flatbed/bedlaw2.NoisesMatch", spec := "noisesMatch", inPlace := ["internal/bytealg.IndexByteString", "internal/bytealg.IndexString"], unfollowed := true, recurses := true, named := ["unicode/utf8.first", "unicode/utf8.acceptRanges", "internal/bytealg.MaxLen"], apart := false, laid := [("unicode/utf8.acceptRanges", laid_unicode_utf8_acceptRanges), ("unicode/utf8.first", laid_unicode_utf8_first)], narrowed := true }
def NoisesMatchUptoSaid : Prop := noisesMatchUptoRow.holds Tryd.pinned (OpenSpec.upto noisesMatchSpec)

/-- 'bedlaw2.ReadsMatch', WHERE WHAT IT READS IS OF BULK AT MOST 1048576: true; the input reads as it did. -/
def readsMatchUptoRow : OpenClaim := { program := "ytecfjdladcmhjaadoor", sum := "1009c30a0f8a1194232ea408c02aae4c04064ccf3a7b19dc74e3334690986416", func := "flatbed/bedlaw2.ReadsMatch", spec := "readsMatch", inPlace := ["internal/bytealg.IndexByteString", "internal/bytealg.IndexString", "internal/abi.NoEscape"], unfollowed := true, recurses := true, named := ["unicode/utf8.first", "unicode/utf8.acceptRanges", "internal/bytealg.MaxLen"], apart := false, laid := [("unicode/utf8.acceptRanges", laid_unicode_utf8_acceptRanges), ("unicode/utf8.first", laid_unicode_utf8_first)], narrowed := true }
def ReadsMatchUptoSaid : Prop := readsMatchUptoRow.holds Tryd.pinned (OpenSpec.upto readsMatchSpec)

/-- 'bedlaw2.DrawsMatch', WHERE WHAT IT READS IS OF BULK AT MOST 1048576: true; the input reads as it did. -/
def drawsMatchUptoRow : OpenClaim := { program := "ytecfjdladcmhjaadoor", sum := "1009c30a0f8a1194232ea408c02aae4c04064ccf3a7b19dc74e3334690986416", func := "flatbed/bedlaw2.DrawsMatch", spec := "drawsMatch", inPlace := ["internal/bytealg.IndexByteString", "internal/bytealg.IndexString", "internal/abi.NoEscape", "internal/bytealg.MakeNoZero"], unfollowed := true, recurses := true, named := ["unicode/utf8.first", "unicode/utf8.acceptRanges", "internal/bytealg.MaxLen"], apart := false, laid := [("unicode/utf8.acceptRanges", laid_unicode_utf8_acceptRanges), ("unicode/utf8.first", laid_unicode_utf8_first)], narrowed := true }
def DrawsMatchUptoSaid : Prop := drawsMatchUptoRow.holds Tryd.pinned (OpenSpec.upto drawsMatchSpec)

/-- 'bedlaw2.FontsMatch', WHERE WHAT IT READS IS OF BULK AT MOST 1048576: true; the input reads as it did. -/
def fontsMatchUptoRow : OpenClaim := { program := "ytecfjdladcmhjaadoor", sum := "1009c30a0f8a1194232ea408c02aae4c04064ccf3a7b19dc74e3334690986416", func := "flatbed/bedlaw2.FontsMatch", spec := "fontsMatch", inPlace := ["internal/bytealg.IndexByteString", "internal/bytealg.IndexString"], unfollowed := true, recurses := true, named := ["unicode/utf8.first", "unicode/utf8.acceptRanges", "internal/bytealg.MaxLen"], apart := false, laid := [("unicode/utf8.acceptRanges", laid_unicode_utf8_acceptRanges), ("unicode/utf8.first", laid_unicode_utf8_first)], narrowed := true }
def FontsMatchUptoSaid : Prop := fontsMatchUptoRow.holds Tryd.pinned (OpenSpec.upto fontsMatchSpec)

/-- 'bedlaw2.ShapesMatch', WHERE WHAT IT READS IS OF BULK AT MOST 1048576: true; the input reads as it did. -/
def shapesMatchUptoRow : OpenClaim := { program := "ytecfjdladcmhjaadoor", sum := "1009c30a0f8a1194232ea408c02aae4c04064ccf3a7b19dc74e3334690986416", func := "flatbed/bedlaw2.ShapesMatch", spec := "shapesMatch", inPlace := ["internal/bytealg.IndexByteString", "internal/bytealg.IndexString"], unfollowed := true, recurses := true, named := ["unicode/utf8.first", "unicode/utf8.acceptRanges", "internal/bytealg.MaxLen"], apart := false, laid := [("unicode/utf8.acceptRanges", laid_unicode_utf8_acceptRanges), ("unicode/utf8.first", laid_unicode_utf8_first)], narrowed := true }
def ShapesMatchUptoSaid : Prop := shapesMatchUptoRow.holds Tryd.pinned (OpenSpec.upto shapesMatchSpec)

/-- 'bedlaw2.LinesAreSet', WHERE WHAT IT READS IS OF BULK AT MOST 1048576: true; the input reads as it did. -/
def linesAreSetUptoRow : OpenClaim := { program := "ytecfjdladcmhjaadoor", sum := "1009c30a0f8a1194232ea408c02aae4c04064ccf3a7b19dc74e3334690986416", func := "flatbed/bedlaw2.LinesAreSet", spec := "linesAreSet", inPlace := ["internal/bytealg.IndexByteString", "internal/bytealg.IndexString", "internal/bytealg.CountString"], unfollowed := true, recurses := true, named := ["unicode/utf8.first", "unicode/utf8.acceptRanges", "internal/bytealg.MaxLen"], apart := false, laid := [("unicode/utf8.acceptRanges", laid_unicode_utf8_acceptRanges), ("unicode/utf8.first", laid_unicode_utf8_first)], narrowed := true }
def LinesAreSetUptoSaid : Prop := linesAreSetUptoRow.holds Tryd.pinned (OpenSpec.upto linesAreSetSpec)

end Rows
end Go.Proofs.YtecfjdladcmhjaaDoor
