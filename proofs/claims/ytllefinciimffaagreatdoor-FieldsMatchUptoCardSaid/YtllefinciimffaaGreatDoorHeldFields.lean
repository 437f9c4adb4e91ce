import Derived.Test.YtllefinciimffaaGreatDoorMClaimFields41
import Derived.ChangeMaps5
import Derived.Test.YtllefinciimffaaGreatDoorTie
import Derived.Test.YtllefinciimffaaGreatDoorCards
import Derived.LaidOnce
import Derived.SevenTiedAt
import Derived.Deep.DeepHandedRow
set_option maxHeartbeats 20000000
set_option maxRecDepth 100000
namespace Go.Proofs.YtllefinciimffaaGreatDoor
open Go.ChangeShapes Go.WideShapes Go.ChangeAt Go.RowKit Go.Joins Go.Shelf
theorem vE {W:World} (h:W.ShapedOpen Tryz.prog):SplitOk W:=
 cell_of_shapedOpen_int (P:=Tryz.prog) (g:=Tryz.laysSplitW_ren.g 1) (t:=3) (zero:=#[.int .i64 0]) h (aIv (by kernel_rfl)) (by kernel_rfl) rfl (by kernel_rfl) (by kernel_rfl) Tryz.underlying3
theorem upto_string {H:Type} (l:List UInt8):Rows.uptoBulk (DataW.lit (H:=H) (.string l))=l.length+1:=by simp[Rows.uptoBulk]
theorem wD {H:Type} {d:DataW H} {l:List (DataW H)} (h:d∈l):Rows.uptoBulk d≤Rows.uptoBulkAll l:=by
 induction l with
 |nil=>cases h
 |cons x r ih=>
  simp only[Rows.uptoBulkAll];cases aIk.1 h with
  |inl e=>subst e;omega
  |inr e=>have:=ih e;omega
theorem Q7 {H:Type} {l:List (DataW H)} (h:Rows.uptoSmall H l=true):Rows.uptoBulkAll l≤1048576:=aIv h
theorem sP {H : Type} {enc : TypeId × Value → H} {C : Checked} {os : Os} {f : FuncId} {fn : Func} {s : OpenSpec} {conds : List PathCond} {apart : Bool} {laid : List (String × DataW Unit)} (modest : Bool) (w0 : World) (args : Array Value) (hos : w0.os = os)
 (hsh:(w0.forCall (fun _ _=>0) ⟨#[],args,[]⟩).Shaped C.prog) (hok:Input.okWideB C.prog (w0.forCall (fun _ _=>0) ⟨#[],args,[]⟩) f ⟨#[],args,[]⟩=true)
 (qY:s.preRow enc C.prog fn conds apart laid (w0.forCall (fun _ _=>0) ⟨#[],args,[]⟩).memory args) :
 ∃ (w : World) (tape : Tape) (i : Input), w.os = os ∧ (w.forCall tape i).Shaped C.prog ∧ i.vars = [] ∧ Input.okWide C.prog (w.forCall tape i) .any w.heap.size f i ∧
  s.preRow enc C.prog fn conds apart laid (w.forCall tape i).memory i.args∧({ modest:=modest }:Assume).holds C.prog (lone (Frame.enter C.prog f i.args .normal) [] (w.forCall tape i)):=
 ⟨w0,fun _ _=>0,⟨#[],args,[]⟩,hos,hsh,(Input.okWide_of_okWideB (base:=0) hok).1,(Input.okWide_of_okWideB hok).2,qY,by
  simp only[Assume.holds];exact ⟨by simp,by simp,fun _=>Modest.zero,by simp,by simp⟩⟩
theorem pU (H : Type) (enc : TypeId × Value → H) (W : World) (base : Nat) (args : Array Value) (ds gs : List (DataW H)) (before : List MemPlace)
 (aA8:∀(j:Nat) t v,Tryz.f4.params[j]? = some t→args[j]? = some v→Value.okWide Tryz.prog W .any base t v)
 (hW:DataW.Whole enc Tryz.prog Tryz.f4.params.toList Rows.fieldsMatchSpec.vars false W args.toList ds gs before) (hk:Rows.uptoSmall H (ds++gs)=true) (hL:laidMetH Tryz.prog Rows.fieldsMatchUptoRow.laid W) (hsh:W.ShapedOpen Tryz.prog) :
 Calls Tryz.prog 4 args W fun e W'=>∃v,e=.returned v∧Rows.fieldsMatchSpec.post enc Tryz.prog Tryz.f4 false true false false W args v W':=by
 have YU:=Q7 hk;have hW':=hW;obtain ⟨p,q,hA,hV,rfl,hfz,hnd⟩:=hW;have hA:DataW.TrodAll enc Tryz.prog W 0 (fun _=>true) true Tryz.f4.params.toList args.toList ds p:=hA;rw[Tryz.params4] at hA aA8;obtain ⟨v0,vs0,d0,ds0,p0,q0,hargs,rfl,rfl,h0,hA0⟩:=trodAll_cons hA;obtain ⟨v1,vs1,d1,ds1,p1,q1,rfl,rfl,rfl,h1,hA1⟩:=trodAll_cons hA0;obtain ⟨v2,vs2,d2,ds2,p2,q2,rfl,rfl,rfl,h2,hA2⟩:=trodAll_cons hA1;obtain ⟨v3,vs3,d3,ds3,p3,q3,rfl,rfl,rfl,h3,hA3⟩:=trodAll_cons hA2;obtain ⟨rfl,rfl,rfl⟩:=trodAll_nil hA3;obtain rfl:args=#[v0,v1,v2,v3]:=(by cases args;simp_all);obtain ⟨rfl,rfl⟩:=trodVars_none hV;have hu0:Rows.uptoBulk d0≤1048576:=aII (wD (by simp)) YU;obtain ⟨f0,rfl,hF0,hs0⟩:=P7 (aA8 0 26 v0 rfl rfl) h0;have hS0:f0.small 1048576:=fun r hr=>aII (hs0 r hr) hu0;have hu1:Rows.uptoBulk d1≤1048576:=aII (wD (by simp)) YU;obtain ⟨W1,H1,A1,n1,c1,z1,rfl,hl1,hr1,hm1,wW1,wH1⟩:=SR (aA8 1 43 v1 rfl rfl) h1;have hu2:Rows.uptoBulk d2≤1048576:=aII (wD (by simp)) YU;obtain ⟨nm2,ht2,gp2,sp2,L2,c2,ls2,rfl,hL2,aC5,hn2,hc2⟩:=TG (aA8 2 46 v2 rfl rfl) h2;have hu3:Rows.uptoBulk d3≤1048576:=aII (wD (by simp)) YU;obtain ⟨s3,rfl,rfl,rfl,ws3⟩:=Go.ChangeMaps.open_string Tryz.underlying9 (aA8 3 9 v3 rfl rfl) h3;obtain ⟨l3,rfl⟩:=jG s3;have hN:=DX (by kernel_rfl) (by kernel_rfl) (by kernel_rfl) hL;have hCo:=vE hsh;refine (EQ f0 W1 H1 A1 n1 c1 z1 nm2 ht2 gp2 sp2 L2 c2 ls2 l3 W hF0 hS0 hN hCo (IS (by kernel_rfl) hL) hL2 aC5 hn2 hc2 hr1).mono fun e W' ⟨he,hb⟩ => ?_;subst he;exact ⟨_,rfl,WN Tryz.laidOut Tryz.underlying4 rfl rfl (by rw[Tryz.params4];intro t ht;simp at ht;rcases ht with rfl|rfl|rfl|rfl<;>exact ⟨by kernel_rfl,aIv (by kernel_rfl)⟩) hW' rfl rfl rfl hb⟩
theorem tZ (os:Os) {H:Type} (enc:TypeId × Value→H):∃BD,DataW.whole enc Tryz.prog ((World.laidAll Tryz.prog os Rows.fieldsMatchUptoRow.laid).forCall (fun _ _=>0) ⟨#[],#[.agg #[.string ⟨#[]⟩,.int .i64 0,.int .i64 0,.int .i64 0,.int .i64 0,.slice none 0 0,.slice none 0 0,.slice none 0 0],.agg #[.int .i64 0,.int .i64 0,.slice none 0 0],.agg #[.string ⟨#[]⟩,.int .i64 0,.int .i64 0,.int .i64 0,.slice none 0 0],.string ⟨#[]⟩],[]⟩).memory Tryz.f4.params.toList Rows.fieldsMatchSpec.vars false (#[.agg #[.string ⟨#[]⟩,.int .i64 0,.int .i64 0,.int .i64 0,.int .i64 0,.slice none 0 0,.slice none 0 0,.slice none 0 0],.agg #[.int .i64 0,.int .i64 0,.slice none 0 0],.agg #[.string ⟨#[]⟩,.int .i64 0,.int .i64 0,.int .i64 0,.slice none 0 0],.string ⟨#[]⟩]:Array Value).toList 8=some ([.agg [.lit (.string []),.lit (.int .i64 0),.lit (.int .i64 0),.lit (.int .i64 0),.lit (.int .i64 0),.nil,.nil,.nil],.agg [.lit (.int .i64 0),.lit (.int .i64 0),.nil],.agg [.lit (.string []),.lit (.int .i64 0),.lit (.int .i64 0),.lit (.int .i64 0),.nil],.lit (.string [])],[],BD):=
 ⟨[],by kernel_rfl⟩
theorem sQ (os:Os) (started:os.Started) (H:Type) (enc:TypeId × Value→H) (F:Stop.Interp) :
 ReturnsInHanded {} Tryz.checked os 4 .any ((Rows.OpenSpec.upto Rows.fieldsMatchSpec).preRow enc Tryz.prog Tryz.f4 Rows.fieldsMatchUptoRow.domain false Rows.fieldsMatchUptoRow.laid) (((Rows.OpenSpec.upto Rows.fieldsMatchSpec).at F).post enc Tryz.prog Tryz.f4 false true false false):=by
 obtain ⟨BD,hx⟩:=tZ os enc
 refine returnsInHanded_of_row (C := Tryz.checked) (s := Rows.OpenSpec.upto Rows.fieldsMatchSpec) Tryz.own started (by kernel_rfl) Tryz.func4
  (sP (enc := enc) (C := Tryz.checked) false (World.laidAll Tryz.prog os Rows.fieldsMatchUptoRow.laid) #[.agg #[.string ⟨#[]⟩, .int .i64 0, .int .i64 0, .int .i64 0, .int .i64 0, .slice none 0 0, .slice none 0 0, .slice none 0 0], .agg #[.int .i64 0, .int .i64 0, .slice none 0 0], .agg #[.string ⟨#[]⟩, .int .i64 0, .int .i64 0, .int .i64 0, .slice none 0 0], .string ⟨#[]⟩] (World.laidAll_os _ _ _)
    (World.shaped_of_ZipB (by kernel_rfl) (by kernel_rfl)) (by kernel_rfl)
    (OpenSpec.preRow_of_cond 8 hx (by kernel_rfl) (fun k hk=>by cases hk;kernel_rfl) (by kernel_rfl) (by rw[MakeChecks.laidMetH_plain _ _ _ (by kernel_rfl)];exact laidMet_laidAll _ (by kernel_rfl) (by kernel_rfl)))) ?_
 intro W base args ds gs before aA8 hW _ aE8 _ hL hsh _;exact pU H enc W base args ds gs before aA8 hW (aE8 _ rfl) hL hsh
theorem sR:joinedFacts Tryz.prog 4 Tryz.f4 (Rows.OpenSpec.upto Rows.fieldsMatchSpec).bare Rows.fieldsMatchUptoRow=true:=by
 simp only[joinedFacts,aIs]
 repeat' apply And.intro
 all_goals as_aux_lemma=>kernel_rfl
theorem t6:Rows.FieldsMatchUptoSaid:=
 OpenClaim.holds_of_cond 4 Tryz.f4 rfl rfl rfl rfl rfl rfl rfl ⟨rfl, rfl, rfl, rfl, rfl⟩ rfl rfl rfl rfl rfl (by kernel_rfl) Tryz.func4 sR
  (aIv (by kernel_rfl)) (by unfold Func.isWrapper;first|(rw[if_pos (by decide +kernel)];kernel_rfl)|(rw[if_neg (by decide +kernel)];exact ⟨rfl,rfl⟩))
  (fun os started H enc _ F=>by rw[OpenClaim.pre_eq_preRow];exact sQ os started H enc F)
end Go.Proofs.YtllefinciimffaaGreatDoor
