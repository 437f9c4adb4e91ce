import Derived.Test.YtllefinciimffaaGreatDoorHeldTopForms
set_option maxHeartbeats 20000000
namespace Go.Proofs.YtllefinciimffaaGreatDoor
open Go.ChangeShapes Go.WideShapes Go.ChangeAt Go.RowKit Go.Joins Go.Shelf
theorem topFormsUpto_card:Rows.TopFormsUptoCardSaid:=
 Claim7.holds_tied_plain_at .later [] _ _ _ _ BV (fun _ h => by cases h) (by as_aux_lemma => kernel_rfl) (fun _ h => by cases h) topFormsUpto_row_tie rfl ⟨rfl, rfl⟩ (by as_aux_lemma => kernel_rfl) rfl
  (fun f fn hf hfn=>by
    obtain rfl:f=5:=aLZ ((show Tryz.prog.funcNamed "flatbed/bedtop.TopForms" = some 5 by kernel_rfl).symm.trans hf) |>.symm;obtain rfl:fn=Tryz.f5:=(aLZ (Tryz.func5.symm.trans hfn)).symm;exact ⟨by kernel_rfl,fun j t ht=>by
     rw[Tryz.params5] at ht;have hm:t∈[26,50,46,3,3]:=(by simpa using Array.mem_of_getElem? ht);have gA:([26,50,46,3,3].all fun u => !Tryz.prog.wantsStandIn u)=true:=(by kernel_rfl);exact (show Tryz.prog.wantsStandIn t=false by simpa using aLO.1 gA t hm)⟩)
  (by as_aux_lemma=>kernel_rfl)
#print axioms topFormsUpto_card
end Go.Proofs.YtllefinciimffaaGreatDoor
