import Derived.Test.YtllefinciimffaaGreatDoorMClaimTopForms37
import Derived.ChangeMaps5
import Derived.Test.YtllefinciimffaaGreatDoorTie
import Derived.Test.YtllefinciimffaaGreatDoorCards
import Derived.LaidOnce
import Derived.SevenTiedAt
import Derived.Deep.DeepHandedRow
set_option maxHeartbeats 20000000
set_option maxRecDepth 100000
namespace Go.Proofs.YtllefinciimffaaGreatDoor
open Go.ChangeShapes Go.WideShapes Go.ChangeAt Go.RowKit Go.Joins Go.Shelf
theorem BR {W:World} (h:W.ShapedOpen Tryz.prog):SubOk W:=
 cell_of_shapedOpen_int (P:=Tryz.prog) (g:=Tryz.lays144_ren.g 1) (t:=3) (zero:=#[.int .i64 0]) h (aLY (by kernel_rfl)) (by kernel_rfl) rfl (by kernel_rfl) (by kernel_rfl) Tryz.underlying3
theorem xB {W:World} (h:W.ShapedOpen Tryz.prog):SplitOk W:=
 cell_of_shapedOpen_int (P:=Tryz.prog) (g:=Tryz.laysSplitW_ren.g 1) (t:=3) (zero:=#[.int .i64 0]) h (aLY (by kernel_rfl)) (by kernel_rfl) rfl (by kernel_rfl) (by kernel_rfl) Tryz.underlying3
theorem upto_string {H:Type} (l:List UInt8):Rows.uptoBulk (DataW.lit (H:=H) (.string l))=l.length+1:=by simp[Rows.uptoBulk]
theorem t7 {H:Type} {d:DataW H} {l:List (DataW H)} (h:d∈l):Rows.uptoBulk d≤Rows.uptoBulkAll l:=by
 induction l with
 |nil=>cases h
 |cons x r ih=>
  simp only[Rows.uptoBulkAll];cases aLN.1 h with
  |inl e=>subst e;omega
  |inr e=>have:=ih e;omega
theorem UC {H:Type} {l:List (DataW H)} (h:Rows.uptoSmall H l=true):Rows.uptoBulkAll l≤1048576:=aLY h
theorem t8 {H : Type} {enc : TypeId × Value → H} {C : Checked} {os : Os} {f : FuncId} {fn : Func} {s : OpenSpec} {conds : List PathCond} {apart : Bool} {laid : List (String × DataW Unit)} (modest : Bool) (w0 : World) (args : Array Value) (hos : w0.os = os)
 (hsh:(w0.forCall (fun _ _=>0) ⟨#[],args,[]⟩).Shaped C.prog) (hok:Input.okWideB C.prog (w0.forCall (fun _ _=>0) ⟨#[],args,[]⟩) f ⟨#[],args,[]⟩=true)
 (xC:s.preRow enc C.prog fn conds apart laid (w0.forCall (fun _ _=>0) ⟨#[],args,[]⟩).memory args) :
 ∃ (w : World) (tape : Tape) (i : Input), w.os = os ∧ (w.forCall tape i).Shaped C.prog ∧ i.vars = [] ∧ Input.okWide C.prog (w.forCall tape i) .any w.heap.size f i ∧
  s.preRow enc C.prog fn conds apart laid (w.forCall tape i).memory i.args∧({ modest:=modest }:Assume).holds C.prog (lone (Frame.enter C.prog f i.args .normal) [] (w.forCall tape i)):=
 ⟨w0,fun _ _=>0,⟨#[],args,[]⟩,hos,hsh,(Input.okWide_of_okWideB (base:=0) hok).1,(Input.okWide_of_okWideB hok).2,xC,by
  simp only[Assume.holds];exact ⟨by simp,by simp,fun _=>Modest.zero,by simp,by simp⟩⟩
theorem vJ (H : Type) (enc : TypeId × Value → H) (W : World) (base : Nat) (args : Array Value) (ds gs : List (DataW H)) (before : List MemPlace)
 (aCD:∀(j:Nat) t v,Tryz.f5.params[j]? = some t→args[j]? = some v→Value.okWide Tryz.prog W .any base t v)
 (hW:DataW.Whole enc Tryz.prog Tryz.f5.params.toList Rows.topFormsSpec.vars false W args.toList ds gs before) (hk:Rows.uptoSmall H (ds++gs)=true) (hL:laidMetH Tryz.prog Rows.topFormsUptoRow.laid W) (hsh:W.ShapedOpen Tryz.prog) :
 Calls Tryz.prog 5 args W fun e W'=>∃v,e=.returned v∧Rows.topFormsSpec.post enc Tryz.prog Tryz.f5 false true false false W args v W':=by
 have ZR:=UC hk;have hW':=hW;obtain ⟨p,q,hA,hV,rfl,hfz,hnd⟩:=hW;have hA:DataW.TrodAll enc Tryz.prog W 0 (fun _=>true) true Tryz.f5.params.toList args.toList ds p:=hA;rw[Tryz.params5] at hA aCD;obtain ⟨v0,vs0,d0,ds0,p0,q0,hargs,rfl,rfl,h0,hA0⟩:=trodAll_cons hA;obtain ⟨v1,vs1,d1,ds1,p1,q1,rfl,rfl,rfl,h1,hA1⟩:=trodAll_cons hA0;obtain ⟨v2,vs2,d2,ds2,p2,q2,rfl,rfl,rfl,h2,hA2⟩:=trodAll_cons hA1;obtain ⟨v3,vs3,d3,ds3,p3,q3,rfl,rfl,rfl,h3,hA3⟩:=trodAll_cons hA2;obtain ⟨v4,vs4,d4,ds4,p4,q4,rfl,rfl,rfl,h4,hA4⟩:=trodAll_cons hA3;obtain ⟨rfl,rfl,rfl⟩:=trodAll_nil hA4;obtain rfl:args=#[v0,v1,v2,v3,v4]:=(by cases args;simp_all);obtain ⟨rfl,rfl⟩:=trodVars_none hV;have hu0:Rows.uptoBulk d0≤1048576:=aMb (t7 (by simp)) ZR;obtain ⟨f0,rfl,hF0,hs0⟩:=SQ (aCD 0 26 v0 rfl rfl) h0;have hS0:f0.small 1048576:=fun r hr=>aMb (hs0 r hr) hu0;have hu1:Rows.uptoBulk d1≤1048576:=aMb (t7 (by simp)) ZR;obtain ⟨L1,c1,l1,rfl,hL1,hn1,hc1,hs1⟩:=MR (aCD 1 50 v1 rfl rfl) h1;have hT1:∀v∈l1,v.text.length≤1048576:=fun v hv=>aMb (hs1 v hv) hu1;have hu2:Rows.uptoBulk d2≤1048576:=aMb (t7 (by simp)) ZR;obtain ⟨nm2,ht2,gp2,sp2,L2,c2,ls2,rfl,hL2,aK9,hn2,hc2⟩:=V4 (aCD 2 46 v2 rfl rfl) h2;have hu3:Rows.uptoBulk d3≤1048576:=aMb (t7 (by simp)) ZR;obtain ⟨r3,rfl,rfl,rfl,wr3⟩:=open_int Tryz.underlying3 (aCD 3 3 v3 rfl rfl) h3;have hu4:Rows.uptoBulk d4≤1048576:=aMb (t7 (by simp)) ZR;obtain ⟨r4,rfl,rfl,rfl,wr4⟩:=open_int Tryz.underlying3 (aCD 4 3 v4 rfl rfl) h4;have hN:=FU (by kernel_rfl) (by kernel_rfl) (by kernel_rfl) hL;have hCo:=xB hsh;have aF9:=BR hsh;refine (AR f0 L1 c1 l1 nm2 ht2 gp2 sp2 L2 c2 ls2 r3 r4 W hF0 hS0 hL1 hn1 hT1 hL2 aK9 hn2 hc2 (IK wr3) (IK wr4) hN hCo aF9 (J4 (by kernel_rfl) hL)).mono fun e W' ⟨he,hb⟩ => ?_;subst he;exact ⟨_,rfl,aAr Tryz.laidOut Tryz.underlying4 rfl rfl (by rw[Tryz.params5];intro t ht;simp at ht;rcases ht with rfl|rfl|rfl|rfl<;>exact ⟨by kernel_rfl,aLY (by kernel_rfl)⟩) hW' rfl rfl rfl hb⟩
theorem BU (os:Os) {H:Type} (enc:TypeId × Value→H):∃I6,DataW.whole enc Tryz.prog ((World.laidAll Tryz.prog os Rows.topFormsUptoRow.laid).forCall (fun _ _=>0) ⟨#[],#[.agg #[.string ⟨#[]⟩,.int .i64 0,.int .i64 0,.int .i64 0,.int .i64 0,.slice none 0 0,.slice none 0 0,.slice none 0 0],.slice none 0 0,.agg #[.string ⟨#[]⟩,.int .i64 0,.int .i64 0,.int .i64 0,.slice none 0 0],.int .i64 0,.int .i64 0],[]⟩).memory Tryz.f5.params.toList Rows.topFormsSpec.vars false (#[.agg #[.string ⟨#[]⟩,.int .i64 0,.int .i64 0,.int .i64 0,.int .i64 0,.slice none 0 0,.slice none 0 0,.slice none 0 0],.slice none 0 0,.agg #[.string ⟨#[]⟩,.int .i64 0,.int .i64 0,.int .i64 0,.slice none 0 0],.int .i64 0,.int .i64 0]:Array Value).toList 8=some ([.agg [.lit (.string []),.lit (.int .i64 0),.lit (.int .i64 0),.lit (.int .i64 0),.lit (.int .i64 0),.nil,.nil,.nil],.nil,.agg [.lit (.string []),.lit (.int .i64 0),.lit (.int .i64 0),.lit (.int .i64 0),.nil],.lit (.int .i64 0),.lit (.int .i64 0)],[],I6):=
 ⟨[],by kernel_rfl⟩
theorem AS (os:Os) (started:os.Started) (H:Type) (enc:TypeId × Value→H) (F:Stop.Interp) :
 ReturnsInHanded {} Tryz.checked os 5 .any ((Rows.OpenSpec.upto Rows.topFormsSpec).preRow enc Tryz.prog Tryz.f5 Rows.topFormsUptoRow.domain false Rows.topFormsUptoRow.laid) (((Rows.OpenSpec.upto Rows.topFormsSpec).at F).post enc Tryz.prog Tryz.f5 false true false false):=by
 obtain ⟨I6,hx⟩:=BU os enc
 refine returnsInHanded_of_row (C := Tryz.checked) (s := Rows.OpenSpec.upto Rows.topFormsSpec) Tryz.own started (by kernel_rfl) Tryz.func5
  (t8 (enc := enc) (C := Tryz.checked) false (World.laidAll Tryz.prog os Rows.topFormsUptoRow.laid) #[.agg #[.string ⟨#[]⟩, .int .i64 0, .int .i64 0, .int .i64 0, .int .i64 0, .slice none 0 0, .slice none 0 0, .slice none 0 0], .slice none 0 0, .agg #[.string ⟨#[]⟩, .int .i64 0, .int .i64 0, .int .i64 0, .slice none 0 0], .int .i64 0, .int .i64 0] (World.laidAll_os _ _ _)
    (World.shaped_of_ZipB (by kernel_rfl) (by kernel_rfl)) (by kernel_rfl)
    (OpenSpec.preRow_of_cond 8 hx (by kernel_rfl) (fun k hk=>by cases hk;kernel_rfl) (by kernel_rfl) (by rw[MakeChecks.laidMetH_plain _ _ _ (by kernel_rfl)];exact laidMet_laidAll _ (by kernel_rfl) (by kernel_rfl)))) ?_
 intro W base args ds gs before aCD hW _ aH4 _ hL hsh _;exact vJ H enc W base args ds gs before aCD hW (aH4 _ rfl) hL hsh
theorem AT:joinedFacts Tryz.prog 5 Tryz.f5 (Rows.OpenSpec.upto Rows.topFormsSpec).bare Rows.topFormsUptoRow=true:=by
 simp only[joinedFacts,aLV]
 repeat' apply And.intro
 all_goals as_aux_lemma=>kernel_rfl
theorem BV:Rows.TopFormsUptoSaid:=
 OpenClaim.holds_of_cond 5 Tryz.f5 rfl rfl rfl rfl rfl rfl rfl ⟨rfl, rfl, rfl, rfl, rfl⟩ rfl rfl rfl rfl rfl (by kernel_rfl) Tryz.func5 AT
  (aLY (by kernel_rfl)) (by unfold Func.isWrapper;first|(rw[if_pos (by decide +kernel)];kernel_rfl)|(rw[if_neg (by decide +kernel)];exact ⟨rfl,rfl⟩))
  (fun os started H enc _ F=>by rw[OpenClaim.pre_eq_preRow];exact AS os started H enc F)
end Go.Proofs.YtllefinciimffaaGreatDoor
