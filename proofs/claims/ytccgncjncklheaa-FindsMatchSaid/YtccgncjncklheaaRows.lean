/-
  No cell of these rows narrows 'for every input' (looked for: loops, veiled, ifaces, maps, wideKeys, modest, calm, conditions, laid).
  DERIVED. THE GIVEN ROWS OF THIS SEAT. 8 by the template 'for every input the law returns true; each argument reads behind the call as it read before'; 0 by the template 'total and deterministic' (their statements: YtccgncjncklheaaTotals.lean).
  GIVEN WITH THE SEED: the statements are not yours to turn. If you find one false, say at which input.
  Laid BY PROGRAM, IN A SANDBOX (cutbox-rows.mjs): the forced cells as the released guide's own fill.sh prints them over the translation fba6b4842da3cd98… (all of the seat's roots in one cut). By AI agents, Wed Nov 11 2026. No macro, syntax, notation, axiom, sorry.
-/
import Derived.Test.YtccgncjncklheaaChecked
import GoSem.Claim
import GoSem.ClaimJoined
import GoSem.ClaimMapViews
import Derived.JoinedTies
import Derived.KernelRfl
namespace Go.Proofs.Ytccgncjncklheaa
/- THE CELL 'sum', in the pinned program and in every row, IS THE sha256 OF THE DUMP (.gsa) THAT YtccgncjncklheaaProg.lean LOADS. Nothing in Lean hashes anything: it is a label: what it is worth is what the hold of that sum in a sandbox is worth. -/
noncomputable def Try.pinned : Pinned := { name := "ytccgncjncklheaa", sum := "fba6b4842da3cd9834c2fec1bdce55df002c3b2db65d1ce501ad5f0759d30e74", checked := Try.checked }
namespace Rows
def none {H : Type} : Left H := { results := [], args := [] }

/-- 'bedlaw2.MeansMatch': WHATEVER THE INPUT: true; the input reads as it did. -/
def meansMatchSpec : ChangeSpec := { name := "meansMatch", fn := fun _ => fun
  | [d1, d2] => { results := [.lit (.bool true)], args := [d1, d2] }
  | _ => none }
def meansMatchRow : OpenClaim := { program := "ytccgncjncklheaa", sum := "fba6b4842da3cd9834c2fec1bdce55df002c3b2db65d1ce501ad5f0759d30e74", func := "flatbed/bedlaw2.MeansMatch", spec := "meansMatch", unfollowed := true, recurses := true, apart := false }
def MeansMatchSaid : Prop := meansMatchRow.holds Try.pinned (OpenSpec.ofChange meansMatchSpec)

/-- ITS FALSE NEIGHBOUR: 'it returns false'. Refute it at one input. -/
def meansMatchWrong : ChangeSpec := { name := "meansMatch", fn := fun _ => fun
  | [d1, d2] => { results := [.lit (.bool false)], args := [d1, d2] }
  | _ => none }
def MeansMatchWrongFalsely : Prop := meansMatchRow.holds Try.pinned (OpenSpec.ofChange meansMatchWrong)

/-- 'bedlaw2.MixesMatch': WHATEVER THE INPUT: true; the input reads as it did. -/
def mixesMatchSpec : ChangeSpec := { name := "mixesMatch", fn := fun _ => fun
  | [d1, d2, d3, d4, d5] => { results := [.lit (.bool true)], args := [d1, d2, d3, d4, d5] }
  | _ => none }
def mixesMatchRow : OpenClaim := { program := "ytccgncjncklheaa", sum := "fba6b4842da3cd9834c2fec1bdce55df002c3b2db65d1ce501ad5f0759d30e74", func := "flatbed/bedlaw2.MixesMatch", spec := "mixesMatch", unfollowed := true, recurses := true, apart := false }
def MixesMatchSaid : Prop := mixesMatchRow.holds Try.pinned (OpenSpec.ofChange mixesMatchSpec)

/-- ITS FALSE NEIGHBOUR: 'it returns false'. Refute it at one input. -/
def mixesMatchWrong : ChangeSpec := { name := "mixesMatch", fn := fun _ => fun
  | [d1, d2, d3, d4, d5] => { results := [.lit (.bool false)], args := [d1, d2, d3, d4, d5] }
  | _ => none }
def MixesMatchWrongFalsely : Prop := mixesMatchRow.holds Try.pinned (OpenSpec.ofChange mixesMatchWrong)

/-- 'bedlaw2.TurnsMatch': WHATEVER THE INPUT: true; the input reads as it did. -/
def turnsMatchSpec : ChangeSpec := { name := "turnsMatch", fn := fun _ => fun
  | [d1, d2, d3, d4] => { results := [.lit (.bool true)], args := [d1, d2, d3, d4] }
  | _ => none }
def turnsMatchRow : OpenClaim := { program := "ytccgncjncklheaa", sum := "fba6b4842da3cd9834c2fec1bdce55df002c3b2db65d1ce501ad5f0759d30e74", func := "flatbed/bedlaw2.TurnsMatch", spec := "turnsMatch", unfollowed := true, recurses := true, apart := false }
def TurnsMatchSaid : Prop := turnsMatchRow.holds Try.pinned (OpenSpec.ofChange turnsMatchSpec)

/-- ITS FALSE NEIGHBOUR: 'it returns false'. Refute it at one input. -/
def turnsMatchWrong : ChangeSpec := { name := "turnsMatch", fn := fun _ => fun
  | [d1, d2, d3, d4] => { results := [.lit (.bool false)], args := [d1, d2, d3, d4] }
  | _ => none }
def TurnsMatchWrongFalsely : Prop := turnsMatchRow.holds Try.pinned (OpenSpec.ofChange turnsMatchWrong)

/-- 'bedlaw2.AlignsMatch': WHATEVER THE INPUT: true; the input reads as it did. -/
def alignsMatchSpec : ChangeSpec := { name := "alignsMatch", fn := fun _ => fun
  | [d1, d2, d3] => { results := [.lit (.bool true)], args := [d1, d2, d3] }
  | _ => none }
def alignsMatchRow : OpenClaim := { program := "ytccgncjncklheaa", sum := "fba6b4842da3cd9834c2fec1bdce55df002c3b2db65d1ce501ad5f0759d30e74", func := "flatbed/bedlaw2.AlignsMatch", spec := "alignsMatch", unfollowed := true, recurses := true, apart := false }
def AlignsMatchSaid : Prop := alignsMatchRow.holds Try.pinned (OpenSpec.ofChange alignsMatchSpec)

/-- ITS FALSE NEIGHBOUR: 'it returns false'. Refute it at one input. -/
def alignsMatchWrong : ChangeSpec := { name := "alignsMatch", fn := fun _ => fun
  | [d1, d2, d3] => { results := [.lit (.bool false)], args := [d1, d2, d3] }
  | _ => none }
def AlignsMatchWrongFalsely : Prop := alignsMatchRow.holds Try.pinned (OpenSpec.ofChange alignsMatchWrong)

/-- 'bedlaw2.LeansMatch': WHATEVER THE INPUT: true; the input reads as it did. -/
def leansMatchSpec : ChangeSpec := { name := "leansMatch", fn := fun _ => fun
  | [d1, d2] => { results := [.lit (.bool true)], args := [d1, d2] }
  | _ => none }
def leansMatchRow : OpenClaim := { program := "ytccgncjncklheaa", sum := "fba6b4842da3cd9834c2fec1bdce55df002c3b2db65d1ce501ad5f0759d30e74", func := "flatbed/bedlaw2.LeansMatch", spec := "leansMatch", unfollowed := true, recurses := true, apart := false }
def LeansMatchSaid : Prop := leansMatchRow.holds Try.pinned (OpenSpec.ofChange leansMatchSpec)

/-- ITS FALSE NEIGHBOUR: 'it returns false'. Refute it at one input. -/
def leansMatchWrong : ChangeSpec := { name := "leansMatch", fn := fun _ => fun
  | [d1, d2] => { results := [.lit (.bool false)], args := [d1, d2] }
  | _ => none }
def LeansMatchWrongFalsely : Prop := leansMatchRow.holds Try.pinned (OpenSpec.ofChange leansMatchWrong)

/-- 'bedlaw2.CountsMatch': WHATEVER THE INPUT: true; the input reads as it did. -/
def countsMatchSpec : ChangeSpec := { name := "countsMatch", fn := fun _ => fun
  | [d1, d2, d3, d4, d5] => { results := [.lit (.bool true)], args := [d1, d2, d3, d4, d5] }
  | _ => none }
def countsMatchRow : OpenClaim := { program := "ytccgncjncklheaa", sum := "fba6b4842da3cd9834c2fec1bdce55df002c3b2db65d1ce501ad5f0759d30e74", func := "flatbed/bedlaw2.CountsMatch", spec := "countsMatch", unfollowed := true, recurses := true, apart := false }
def CountsMatchSaid : Prop := countsMatchRow.holds Try.pinned (OpenSpec.ofChange countsMatchSpec)

/-- ITS FALSE NEIGHBOUR: 'it returns false'. Refute it at one input. -/
def countsMatchWrong : ChangeSpec := { name := "countsMatch", fn := fun _ => fun
  | [d1, d2, d3, d4, d5] => { results := [.lit (.bool false)], args := [d1, d2, d3, d4, d5] }
  | _ => none }
def CountsMatchWrongFalsely : Prop := countsMatchRow.holds Try.pinned (OpenSpec.ofChange countsMatchWrong)

/-- 'bedlaw2.FindsMatch': WHATEVER THE INPUT: true; the input reads as it did. -/
def findsMatchSpec : ChangeSpec := { name := "findsMatch", fn := fun _ => fun
  | [d1, d2] => { results := [.lit (.bool true)], args := [d1, d2] }
  | _ => none }
def findsMatchRow : OpenClaim := { program := "ytccgncjncklheaa", sum := "fba6b4842da3cd9834c2fec1bdce55df002c3b2db65d1ce501ad5f0759d30e74", func := "flatbed/bedlaw2.FindsMatch", spec := "findsMatch", unfollowed := true, recurses := true, apart := false }
def FindsMatchSaid : Prop := findsMatchRow.holds Try.pinned (OpenSpec.ofChange findsMatchSpec)

/-- ITS FALSE NEIGHBOUR: 'it returns false'. Refute it at one input. -/
def findsMatchWrong : ChangeSpec := { name := "findsMatch", fn := fun _ => fun
  | [d1, d2] => { results := [.lit (.bool false)], args := [d1, d2] }
  | _ => none }
def FindsMatchWrongFalsely : Prop := findsMatchRow.holds Try.pinned (OpenSpec.ofChange findsMatchWrong)

/-- 'bedlaw2.SheetsMatch': WHATEVER THE INPUT: true; the input reads as it did. -/
def sheetsMatchSpec : ChangeSpec := { name := "sheetsMatch", fn := fun _ => fun
  | [d1, d2, d3, d4, d5, d6] => { results := [.lit (.bool true)], args := [d1, d2, d3, d4, d5, d6] }
  | _ => none }
def sheetsMatchRow : OpenClaim := { program := "ytccgncjncklheaa", sum := "fba6b4842da3cd9834c2fec1bdce55df002c3b2db65d1ce501ad5f0759d30e74", func := "flatbed/bedlaw2.SheetsMatch", spec := "sheetsMatch", unfollowed := true, recurses := true, apart := false }
def SheetsMatchSaid : Prop := sheetsMatchRow.holds Try.pinned (OpenSpec.ofChange sheetsMatchSpec)

/-- ITS FALSE NEIGHBOUR: 'it returns false'. Refute it at one input. -/
def sheetsMatchWrong : ChangeSpec := { name := "sheetsMatch", fn := fun _ => fun
  | [d1, d2, d3, d4, d5, d6] => { results := [.lit (.bool false)], args := [d1, d2, d3, d4, d5, d6] }
  | _ => none }
def SheetsMatchWrongFalsely : Prop := sheetsMatchRow.holds Try.pinned (OpenSpec.ofChange sheetsMatchWrong)

/- THE SECOND FORM. 'bulk': how many values and letters a reading holds, each counted each time it is reached (what is shared counts as often as it is met; a slice's spare places count too). A statement '..UptoSaid' is the law's where the arguments, and the package variables that the reading takes, are together of bulk at most 1048576: NARROWER than '..Said'. Prove '..Said' where nothing that the law and all that it calls make is longer than what came in: it says more and counts as full. Else prove '..UptoSaid'. A law counts once. -/
mutual
def uptoBulk {H : Type} : DataW H → Nat
  | .lit (.string bytes) => bytes.length + 1
  | .lit _ => 1
  | .nil => 1
  | .ptr d => uptoBulk d + 1
  | .slice elems spare => uptoBulkAll elems + uptoBulkAll spare + 1
  | .agg parts => uptoBulkAll parts + 1
  | .iface _ d => uptoBulk d + 1
  | .map entries => uptoBulkEntries entries + 1
  | .held _ => 1
def uptoBulkAll {H : Type} : List (DataW H) → Nat
  | [] => 0
  | d :: r => uptoBulk d + uptoBulkAll r
def uptoBulkEntries {H : Type} : List (Lit × DataW H) → Nat
  | [] => 0
  | x :: r => uptoBulkEntry x + uptoBulkEntries r
def uptoBulkEntry {H : Type} : Lit × DataW H → Nat
  | (.string bytes, d) => bytes.length + uptoBulk d + 1
  | (_, d) => uptoBulk d + 1
 end
def uptoSmall : (H : Type) → List (DataW H) → Bool := fun _ ds => decide (uptoBulkAll ds ≤ 1048576)
def OpenSpec.upto (s : _root_.Go.ChangeSpec) : _root_.Go.OpenSpec := { _root_.Go.OpenSpec.ofChange s with cond := some uptoSmall }

/-- 'bedlaw2.MeansMatch', WHERE WHAT IT READS IS OF BULK AT MOST 1048576: true; the input reads as it did. -/
def meansMatchUptoRow : OpenClaim := { program := "ytccgncjncklheaa", sum := "fba6b4842da3cd9834c2fec1bdce55df002c3b2db65d1ce501ad5f0759d30e74", func := "flatbed/bedlaw2.MeansMatch", spec := "meansMatch", unfollowed := true, recurses := true, apart := false, narrowed := true }
def MeansMatchUptoSaid : Prop := meansMatchUptoRow.holds Try.pinned (OpenSpec.upto meansMatchSpec)

/-- 'bedlaw2.MixesMatch', WHERE WHAT IT READS IS OF BULK AT MOST 1048576: true; the input reads as it did. -/
def mixesMatchUptoRow : OpenClaim := { program := "ytccgncjncklheaa", sum := "fba6b4842da3cd9834c2fec1bdce55df002c3b2db65d1ce501ad5f0759d30e74", func := "flatbed/bedlaw2.MixesMatch", spec := "mixesMatch", unfollowed := true, recurses := true, apart := false, narrowed := true }
def MixesMatchUptoSaid : Prop := mixesMatchUptoRow.holds Try.pinned (OpenSpec.upto mixesMatchSpec)

/-- 'bedlaw2.TurnsMatch', WHERE WHAT IT READS IS OF BULK AT MOST 1048576: true; the input reads as it did. -/
def turnsMatchUptoRow : OpenClaim := { program := "ytccgncjncklheaa", sum := "fba6b4842da3cd9834c2fec1bdce55df002c3b2db65d1ce501ad5f0759d30e74", func := "flatbed/bedlaw2.TurnsMatch", spec := "turnsMatch", unfollowed := true, recurses := true, apart := false, narrowed := true }
def TurnsMatchUptoSaid : Prop := turnsMatchUptoRow.holds Try.pinned (OpenSpec.upto turnsMatchSpec)

/-- 'bedlaw2.AlignsMatch', WHERE WHAT IT READS IS OF BULK AT MOST 1048576: true; the input reads as it did. -/
def alignsMatchUptoRow : OpenClaim := { program := "ytccgncjncklheaa", sum := "fba6b4842da3cd9834c2fec1bdce55df002c3b2db65d1ce501ad5f0759d30e74", func := "flatbed/bedlaw2.AlignsMatch", spec := "alignsMatch", unfollowed := true, recurses := true, apart := false, narrowed := true }
def AlignsMatchUptoSaid : Prop := alignsMatchUptoRow.holds Try.pinned (OpenSpec.upto alignsMatchSpec)

/-- 'bedlaw2.LeansMatch', WHERE WHAT IT READS IS OF BULK AT MOST 1048576: true; the input reads as it did. -/
def leansMatchUptoRow : OpenClaim := { program := "ytccgncjncklheaa", sum := "fba6b4842da3cd9834c2fec1bdce55df002c3b2db65d1ce501ad5f0759d30e74", func := "flatbed/bedlaw2.LeansMatch", spec := "leansMatch", unfollowed := true, recurses := true, apart := false, narrowed := true }
def LeansMatchUptoSaid : Prop := leansMatchUptoRow.holds Try.pinned (OpenSpec.upto leansMatchSpec)

/-- 'bedlaw2.CountsMatch', WHERE WHAT IT READS IS OF BULK AT MOST 1048576: true; the input reads as it did. -/
def countsMatchUptoRow : OpenClaim := { program := "ytccgncjncklheaa", sum := "fba6b4842da3cd9834c2fec1bdce55df002c3b2db65d1ce501ad5f0759d30e74", func := "flatbed/bedlaw2.CountsMatch", spec := "countsMatch", unfollowed := true, recurses := true, apart := false, narrowed := true }
def CountsMatchUptoSaid : Prop := countsMatchUptoRow.holds Try.pinned (OpenSpec.upto countsMatchSpec)

/-- 'bedlaw2.FindsMatch', WHERE WHAT IT READS IS OF BULK AT MOST 1048576: true; the input reads as it did. -/
def findsMatchUptoRow : OpenClaim := { program := "ytccgncjncklheaa", sum := "fba6b4842da3cd9834c2fec1bdce55df002c3b2db65d1ce501ad5f0759d30e74", func := "flatbed/bedlaw2.FindsMatch", spec := "findsMatch", unfollowed := true, recurses := true, apart := false, narrowed := true }
def FindsMatchUptoSaid : Prop := findsMatchUptoRow.holds Try.pinned (OpenSpec.upto findsMatchSpec)

/-- 'bedlaw2.SheetsMatch', WHERE WHAT IT READS IS OF BULK AT MOST 1048576: true; the input reads as it did. -/
def sheetsMatchUptoRow : OpenClaim := { program := "ytccgncjncklheaa", sum := "fba6b4842da3cd9834c2fec1bdce55df002c3b2db65d1ce501ad5f0759d30e74", func := "flatbed/bedlaw2.SheetsMatch", spec := "sheetsMatch", unfollowed := true, recurses := true, apart := false, narrowed := true }
def SheetsMatchUptoSaid : Prop := sheetsMatchUptoRow.holds Try.pinned (OpenSpec.upto sheetsMatchSpec)

end Rows
end Go.Proofs.Ytccgncjncklheaa
