import Derived.Test.YtllefinciimffaaGreatDoorHeldFields
set_option maxHeartbeats 20000000
namespace Go.Proofs.YtllefinciimffaaGreatDoor
open Go.ChangeShapes Go.WideShapes Go.ChangeAt Go.RowKit Go.Joins Go.Shelf
theorem fieldsMatchUpto_card:Rows.FieldsMatchUptoCardSaid:=
 Claim7.holds_tied_plain_at .later [] _ _ _ _ t6 (fun _ h => by cases h) (by as_aux_lemma => kernel_rfl) (fun _ h => by cases h) fieldsMatchUpto_row_tie rfl ⟨rfl, rfl⟩ (by as_aux_lemma => kernel_rfl) rfl
  (fun f fn hf hfn=>by
    obtain rfl:f=4:=aIw ((show Tryz.prog.funcNamed "flatbed/bedlaw2.FieldsMatch" = some 4 by kernel_rfl).symm.trans hf) |>.symm;obtain rfl:fn=Tryz.f4:=(aIw (Tryz.func4.symm.trans hfn)).symm;exact ⟨by kernel_rfl,fun j t ht=>by
     rw[Tryz.params4] at ht;have hm:t∈[26,43,46,9]:=(by simpa using Array.mem_of_getElem? ht);have iG:([26,43,46,9].all fun u => !Tryz.prog.wantsStandIn u)=true:=(by kernel_rfl);exact (show Tryz.prog.wantsStandIn t=false by simpa using aIl.1 iG t hm)⟩)
  (by as_aux_lemma=>kernel_rfl)
#print axioms fieldsMatchUpto_card
end Go.Proofs.YtllefinciimffaaGreatDoor
