/- PROVED: FormsMatch answers true for every input of bulk at most 1048576, and leaves the arguments as they were; the listed variables are tied to the program's text. The bulk is the only condition. -/
import Derived.Test.YtahfkahfaiidgaaGreatDoorHeldForms
namespace Go.Proofs.YtahfkahfaiidgaaGreatDoor
open Go.ChangeShapes Go.WideShapes Go.ChangeAt Go.RowKit Go.Joins Go.Shelf

theorem formsMatchUpto_card : Rows.FormsMatchUptoCardSaid :=
  Claim7.holds_tied_plain_at .later [] _ _ _ _ formsMatch_holds (fun _ h => by cases h) (by as_aux_lemma => kernel_rfl) (fun _ h => by cases h) formsMatchUpto_row_tie rfl ⟨rfl, rfl⟩ (by as_aux_lemma => kernel_rfl) rfl
    (fun f fn hf hfn => by
      obtain rfl : f = 4 := Option.some.inj ((show Tryz.prog.funcNamed "flatbed/bedlaw2.FormsMatch" = some 4 by kernel_rfl).symm.trans hf) |>.symm
      obtain rfl : fn = Tryz.f4 := (Option.some.inj (Tryz.func4.symm.trans hfn)).symm
      exact ⟨by kernel_rfl, fun j t ht => by
        rw [Tryz.params4] at ht
        have hm : t ∈ [26, 42] := by simpa using Array.mem_of_getElem? ht
        have hall : ([26, 42].all fun u => !Tryz.prog.wantsStandIn u) = true := by kernel_rfl
        exact (show Tryz.prog.wantsStandIn t = false by simpa using List.all_eq_true.1 hall t hm)⟩)
    (by as_aux_lemma => kernel_rfl)
#print axioms formsMatchUpto_card

end Go.Proofs.YtahfkahfaiidgaaGreatDoor
