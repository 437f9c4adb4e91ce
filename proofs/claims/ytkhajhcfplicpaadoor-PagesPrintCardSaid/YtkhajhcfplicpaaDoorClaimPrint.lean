/- PROVED: PagesPrint answers true for every input, and leaves the arguments as they were; the listed variables are tied to the program's text. No condition. -/
import Derived.Test.YtkhajhcfplicpaaDoorHeldPrint
namespace Go.Proofs.YtkhajhcfplicpaaDoor
open Go.ChangeShapes Go.WideShapes Go.ChangeAt Go.RowKit Go.Joins

theorem pagesPrint_card : Rows.PagesPrintCardSaid :=
  Claim7.holds_tied_plain_at .later [] _ _ _ _ pagesPrint_holds (fun _ h => by cases h) (by as_aux_lemma => kernel_rfl) (fun _ h => by cases h) pagesPrint_row_tie rfl ⟨rfl, rfl⟩ (by as_aux_lemma => kernel_rfl) rfl
    (fun f fn hf hfn => by
      obtain rfl : f = 5 := Option.some.inj ((show Tryd.prog.funcNamed "flatbed/bedlaw2.PagesPrint" = some 5 by kernel_rfl).symm.trans hf) |>.symm
      obtain rfl : fn = Tryd.f5 := (Option.some.inj (Tryd.func5.symm.trans hfn)).symm
      exact ⟨by kernel_rfl, fun j t ht => by
        rw [Tryd.params5] at ht
        have hm : t ∈ [24, 9] := by simpa using Array.mem_of_getElem? ht
        have hall : ([24, 9].all fun u => !Tryd.prog.wantsStandIn u) = true := by kernel_rfl
        exact (show Tryd.prog.wantsStandIn t = false by simpa using List.all_eq_true.1 hall t hm)⟩)
    (by as_aux_lemma => kernel_rfl)
#print axioms pagesPrint_card

end Go.Proofs.YtkhajhcfplicpaaDoor
