/- PROVED: VotesMatch answers true for every input, and leaves the arguments as they were; the listed variables are tied to the program's text. No condition. -/
import Derived.Test.YtjelhdpcaileiaaDoorHeldVotes
namespace Go.Proofs.YtjelhdpcaileiaaDoor
open Go.ChangeShapes Go.WideShapes Go.ChangeAt Go.RowKit Go.Joins

theorem votesMatch_card : Rows.VotesMatchCardSaid :=
  Claim7.holds_tied_plain_at .later [] _ _ _ _ votesMatch_holds (fun _ h => by cases h) (by as_aux_lemma => kernel_rfl) (fun _ h => by cases h) votesMatch_row_tie rfl ⟨rfl, rfl⟩ (by as_aux_lemma => kernel_rfl) rfl
    (fun f fn hf hfn => by
      obtain rfl : f = 8 := Option.some.inj ((show Tryd.prog.funcNamed "flatbed/bedlaw2.VotesMatch" = some 8 by kernel_rfl).symm.trans hf) |>.symm
      obtain rfl : fn = Tryd.f8 := (Option.some.inj (Tryd.func8.symm.trans hfn)).symm
      exact ⟨by kernel_rfl, fun j t ht => by
        rw [Tryd.params8] at ht
        have hm : t ∈ [100] := by simpa using Array.mem_of_getElem? ht
        have hall : ([100].all fun u => !Tryd.prog.wantsStandIn u) = true := by kernel_rfl
        exact (show Tryd.prog.wantsStandIn t = false by simpa using List.all_eq_true.1 hall t hm)⟩)
    (by as_aux_lemma => kernel_rfl)
#print axioms votesMatch_card

end Go.Proofs.YtjelhdpcaileiaaDoor
