/- PROVED: LinesAreRead answers true for every input, and leaves the arguments as they were; the listed variables are tied to the program's text. No condition. -/
import Derived.Test.YthobmednnocklaaGreatDoorHeldLinesAreRead
namespace Go.Proofs.YthobmednnocklaaGreatDoor
open Go.ChangeShapes Go.WideShapes Go.ChangeAt Go.RowKit Go.Joins

theorem linesAreRead_card : Rows.LinesAreReadCardSaid :=
 Claim7.holds_tied_plain_at .later [] [.data, .pinned] true (true, "977c29c233082f2bdae0083966045e568118da3366fc5e4653c3ad6537fab08c") true linesAreRead_holds (fun _ h => by cases h) (by as_aux_lemma => kernel_rfl) (fun _ h => by cases h) linesAreRead_row_tie rfl ⟨rfl, rfl⟩ (by as_aux_lemma => kernel_rfl) rfl
  (fun f fn hf hfn => by
    obtain rfl : f = 3 := Option.some.inj ((show Tryz.prog.funcNamed "flatbed/bedlaw2.LinesAreRead" = some 3 by kernel_rfl).symm.trans hf) |>.symm
    obtain rfl : fn = Tryz.f3 := (Option.some.inj (Tryz.func3.symm.trans hfn)).symm
    exact ⟨by kernel_rfl, fun j t ht => by
     rw [Tryz.params3] at ht
     have hm : t ∈ [24, 26, 29, 3] := by simpa using Array.mem_of_getElem? ht
     have hall : ([24, 26, 29, 3].all fun u => !Tryz.prog.wantsStandIn u) = true := by kernel_rfl
     exact (show Tryz.prog.wantsStandIn t = false by simpa using List.all_eq_true.1 hall t hm)⟩)
  (by as_aux_lemma => kernel_rfl)
#print axioms linesAreRead_card

end Go.Proofs.YthobmednnocklaaGreatDoor
