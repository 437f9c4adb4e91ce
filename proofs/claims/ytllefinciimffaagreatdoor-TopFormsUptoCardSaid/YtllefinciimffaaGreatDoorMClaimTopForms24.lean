import Derived.Test.YtllefinciimffaaGreatDoorMClaimTopForms23
import Derived.Test.YtllefinciimffaaGreatDoorMClaimTopForms18
import Derived.Shelf.Strings.Fields
import Derived.Shelf.SlicesG.Turned
import Derived.Shelf.GgClosure.StringsIndexFuncTop
import Derived.Laws.RangeAny
import Derived.Ground.GgwProg
set_option maxHeartbeats 20000000
set_option maxRecDepth 100000
namespace Go.Proofs.YtllefinciimffaaGreatDoor
open Go.RowKit Go.Shelf
theorem W4 (f:Frm) (W H r:Nat) (w:World) (cM:Fits f W H r) (hF:FrmAt w f) :
 Calls Tryz.prog 97 #[f.val] w fun e w'=>∃v,e=.returned v∧BPage w.heap.size w' v W H (cO W H f.la f.la.length)∧Bl w w':=by
 have hat:=fun (a:Anc) (ha:a∈f.la)=>cM.at_ ha;have aFc:f.la.length≤10:=cM.hla;have e1:=cM.fW;have e2:=cM.fH;have hW:=cM.hW;have hH:=cM.hH;have hWH:=cM.hWH;have hs0:aE (W:Int) (H:Int)=0:=by
  have:=aL9 W H;unfold aE;rw[if_pos (by omega),if_neg (by omega)]
 obtain ⟨nm,fW,fH,reach,dark,AL,ac,la,FL,fc,lf,RL,rc,lr⟩:=f;simp only at e1 e2 aFc;subst e1 e2;have aIG:∀a∈la,∃BW BH:Nat,a.W=(BW:Int)∧a.H=(BH:Int)∧a.m=BW*BH∧aE (BW:Int) (BH:Int)=0∧(0≤a.X∧a.X≤4000)∧(0≤a.Y∧a.Y≤4000):=fun a ha=>by
  obtain ⟨BW,BH,q1,q2,q3,q4,q5,q6,q7,q8⟩:=hat a ha;have hin:=aLY (show decide (0≤a.X∧a.X<(W:Int)∧0≤a.Y∧a.Y<(H:Int)∧1≤a.W∧a.W≤(W:Int)-a.X∧1≤a.H∧a.H≤(H:Int)-a.Y)=true from q4);have:=aL9 BW BH;exact ⟨BW,BH,q1,q2,q3,by unfold aE;rw[if_pos (by omega),if_neg (by omega)],by omega,by omega⟩
 let w1:=((w).alloc (.cells #[nm,W,H,reach,dark,.slice AL la.length ac,.slice FL lf.length fc,.slice RL lr.length rc] 26)).alloc (.cells #[.int .i64 0,.int .i64 0,.slice none 0 0] 43);obtain ⟨w1b,w11,w12⟩:=aLi (x:=w1) w _ _ _ _ rfl;have sz1:w1.heap.size=w.heap.size+2:=(by simp[w1]);obtain ⟨HFA,Hat,Hs0⟩:=aLb (hF.ancs.bl w1b) aIG hs0;have k1:=w11.all8;have dV:=aLa w1b;have Hbk:=aLa (fun wx=>yK W H wx hs0);unfold Frm.val;clear hF hat aIG cM w1b hs0
 go_in
 go_upto_region 1 with fail;rw[show (w.alloc (.cells #[nm,W,H,reach,dark,.slice AL la.length ac,.slice FL lf.length fc,.slice RL lr.length rc] 26)).alloc (.cells #[.int .i64 0,.int .i64 0,.slice none 0 0] 43)=w1 from rfl];clear_value w1;go_upto_region 2 with (go_at_call 34;refine (Hbk.out _).mono ?_;rintro e w2 ⟨v0,rfl,⟨g0,rfl,hg0,aFd,aFe⟩,hb2⟩);obtain ⟨p,hp⟩:=aLt w2.heap.size;obtain ⟨w3,hw3⟩:=aLt (w2.alloc (.cells #[W,H,.slice (some ⟨g0,0,none⟩) (W*H) (W*H)] 43));have b3:=aLp hw3 hp;have hb3:=aLn hw3;rw[←hw3,←hp];have k1:=(w11.bl (hb2.trans hb3)).all8;have hpw:w1.heap.size≤p:=(by rw[hp];exact hb2.le);have H0:=aLa (show Bl w1 w3∧Blk w3 g0 4 ((cO W H la 0).map Value.bool).toArray∧(cO W H la 0).length=W*H∧w1.heap.size≤g0∧g0≠p from
  ⟨hb2.trans hb3,hg0.bl hb3,aFd,aFe,by have:=hg0.lt;omega⟩)
 have B3:=aLa b3;clear hw3 b3 hb3 hb2 hg0 aFd aFe hp;go_wp2_with fail;go_loopw [18] (fun u wr=>∃i g:Nat,i≤la.length∧u=.int .i64 i∧Bl w1 wr∧Blk wr p 43 #[W,H,.slice (some ⟨g,0,none⟩) (W*H) (W*H)]∧Blk wr g 4 ((cO W H la i).map Value.bool).toArray∧(cO W H la i).length=W*H∧w1.heap.size≤g∧g≠p) (fun u _=>la.length-(RowKit.intOf u).toNat);case atStart=>exact ⟨0,g0,Nat.zero_le _,rfl,H0.out.1,B3.out,H0.out.2⟩
 case round=>
  clear k1;obtain ⟨i,g,hi,rfl,hbr,hbp,hbg,hgl,hgn,hgp⟩:=hrel;by_cases hlt:i<la.length
  ·have hg:la[i]? = some la[i]:=aLv hlt;obtain ⟨a,ha2⟩:=aLt (la[i]);rw[←ha2] at hg;obtain ⟨ad,e1,j1,j2,j3,j4,j5⟩:=(HFA.out.bl hbr).at_ hg;subst e1;obtain ⟨BW,BH,q1,q2,q3,q4,q5,q6⟩:=Hat.out a (List.mem_of_getElem? hg);obtain ⟨HAr,Hst,Hbr,Hq4⟩:=aLc (HFA.out.2 a (List.mem_of_getElem? hg)) (wG (W:=W) (H:=H) hg q1 q2) hbr q4;obtain ⟨BS,hBS⟩:=aLt (cO W H la i);rw[←hBS] at hbg hgl Hst;have HG:=aLa hbg;have Hgl:=aLa hgl;rw[q1] at j1;rw[q2] at j2;rw[q3] at j3;clear hg ha2 hbr q1 q2 q4 hBS hbg hgl;go_upto_region 5 with fail;obtain ⟨w5,hw5⟩:=aLt (wr.alloc (.cells #[BW,BH,.slice a.A (BW*BH) a.c,.int .i64 a.X,.int .i64 a.Y] 85));have b5:=aLo hw5;have hb5:=aLn hw5;rw[←hw5];have k1:=(w11.bl (Hbr.out.trans hb5)).all8;have k2:=(hbp.bl hb5).all3;have k3:=b5.all5;have Hb5:=aLa (Hbr.out.trans hb5);have HP:=aLa (hbp.bl hb5);have dF:=qI W H BW BH _ _ BS a.bs a.X a.Y w5 (BPage.is ⟨g,rfl,HG.out.bl hb5,Hgl.out,Nat.zero_le _⟩) ⟨a.A,a.c,rfl,by rw[←q3];exact HAr.out.bl Hb5.out⟩ Hs0.out Hq4.out (by omega) (by omega);have m8:=aLa dF;have hple:p<w5.heap.size:=HP.out.lt;clear hw5 b5 hb5 j1 j2 j3 j4 j5 dF hbp;go_wp2_with fail;refine m8.out.mono ?_;rintro e w6 ⟨v6,rfl,⟨g6,rfl,hg6,aDS,aEf⟩,hb6⟩;have HP6:=aLa (HP.out.bl hb6);have k2:=HP6.out.all3;obtain ⟨Hb6,HG6,aKg,aFf⟩:=aLc (Hb5.out.trans hb6) hg6 aDS (show g6≠p∧w1.heap.size≤g6 from ⟨by omega,by have:=Hb5.out.le;omega⟩);clear hg6 aDS hb6;go_wp2_with fail;refine ⟨⟨i+1,g6,hlt,by go_num,((Hb6.out.setCell hpw _).setCell hpw _).setCell hpw _,((HP6.out.set_ 0 _).set_ 1 _).set_ 2 _,?_,?_,aFf.out.2,aFf.out.1⟩,by simp[RowKit.intOf];omega⟩
   ·rw[Hst.out];exact ((HG6.out.far aFf.out.1 _).far aFf.out.1 _).far aFf.out.1 _
   ·rw[Hst.out];exact aKg.out
  ·obtain rfl:i=la.length:=(by omega);have k2:=hbp.all3;have B2:=aLa (w12.bl hbr);have k3:=B2.out.all3;obtain ⟨Hbr,HG,Hgl⟩:=aLb (dV.out.trans hbr) hbg hgl;have wU:=w12.lt;have LD:g≠w.heap.size+1:=(by omega);clear hbr hbp hbg hgl;go_wp2_with fail;obtain ⟨wS,hwS⟩:=aLt (((wr.setCell ⟨w.heap.size+1,0,none⟩ (.int .i64 W)).setCell ⟨w.heap.size+1,1,none⟩ (.int .i64 H)).setCell ⟨w.heap.size+1,2,none⟩ (.slice (some ⟨g,0,none⟩) (W*H) (W*H)));have bS:Blk wS (w.heap.size+1) 43 #[W,H,.slice (some ⟨g,0,none⟩) (W*H) (W*H)]:=(by rw[hwS];exact ((B2.out.set_ 0 _).set_ 1 _).set_ 2 _);have bG:Blk wS g 4 ((cO W H la la.length).map Value.bool).toArray:=(by rw[hwS];exact ((HG.out.far LD _).far LD _).far LD _);have hS:Bl w wS:=(by rw[hwS];exact ((Hbr.out.setCell (Nat.le_succ _) _).setCell (Nat.le_succ _) _).setCell (Nat.le_succ _) _);rw[←hwS];have kF:=bS.all3;refine aL0 (v:=.agg #[W,H,.slice (some ⟨g,0,none⟩) (W*H) (W*H)]) (by simp[results,Tryz.results97,go_sem,kF]) rfl ⟨_,rfl,⟨g,rfl,bG,Hgl.out,by omega⟩,hS⟩
end Go.Proofs.YtllefinciimffaaGreatDoor
namespace Go.Proofs
open Go.Shelf
def Tryz.lays157_ren:Go.Shelf.Ren:=⟨fun|157=>267|229=>311|199=>312|261=>337|311=>345|312=>346|n=>n,fun|9=>9|31=>105|3=>3|5=>5|4=>4|119=>333|0=>0|40=>181|152=>355|21=>21|154=>357|51=>277|141=>359|196=>377|193=>374|198=>380|49=>378|194=>375|201=>383|226=>385|46=>233|227=>386|n=>n,fun|0=>2|6=>7|n=>n⟩
theorem Tryz.lays157 : Go.Proofs.Lays.n157 Tryz.prog Tryz.lays157_ren := {
 mixed:=by kernel_rfl
 f157:=Tryz.func267.trans (congrArg some (by kernel_rfl))
 f199:=Tryz.func312.trans (congrArg some (by kernel_rfl))
 f229:=Tryz.func311.trans (congrArg some (by kernel_rfl))
 f261:=Tryz.func337.trans (congrArg some (by kernel_rfl))
 f311:=Tryz.func345.trans (congrArg some (by kernel_rfl))
 f312:=Tryz.func346.trans (congrArg some (by kernel_rfl))
 t0:=Tryz.underlying0
 a0:=Tryz.isAgg0
 z0:=Tryz.sizeOf0
 v0:=Tryz.zeroValue0
 t3:=Tryz.underlying3
 a3:=Tryz.isAgg3
 z3:=Tryz.sizeOf3
 v3:=Tryz.zeroValue3
 t4:=Tryz.underlying4
 a4:=Tryz.isAgg4
 z4:=Tryz.sizeOf4
 v4:=Tryz.zeroValue4
 t5:=Tryz.underlying5
 a5:=Tryz.isAgg5
 z5:=Tryz.sizeOf5
 v5:=Tryz.zeroValue5
 t9:=Tryz.underlying9
 a9:=Tryz.isAgg9
 z9:=Tryz.sizeOf9
 v9:=Tryz.zeroValue9
 t21:=Tryz.underlying21
 a21:=Tryz.isAgg21
 z21:=Tryz.sizeOf21
 v21:=Tryz.zeroValue21
 t31:=Tryz.underlying105
 a31:=Tryz.isAgg105
 z31:=Tryz.sizeOf105
 v31:=Tryz.zeroValue105
 t40:=Tryz.underlying181
 a40:=Tryz.isAgg181
 z40:=Tryz.sizeOf181
 v40:=Tryz.zeroValue181
 t46:=Tryz.underlying233
 a46:=Tryz.isAgg233
 z46:=Tryz.sizeOf233
 v46:=Tryz.zeroValue233
 t49:=Tryz.underlying378
 a49:=Tryz.isAgg378
 z49:=Tryz.sizeOf378
 v49:=Tryz.zeroValue378
 t51:=Tryz.underlying277
 a51:=Tryz.isAgg277
 z51:=Tryz.sizeOf277
 v51:=Tryz.zeroValue277
 t119:=Tryz.underlying333
 a119:=Tryz.isAgg333
 z119:=Tryz.sizeOf333
 t141:=Tryz.underlying359
 a141:=Tryz.isAgg359
 z141:=Tryz.sizeOf359
 v141:=Tryz.zeroValue359
 t152:=Tryz.underlying355
 a152:=Tryz.isAgg355
 z152:=Tryz.sizeOf355
 v152:=Tryz.zeroValue355
 t154:=Tryz.underlying357
 a154:=Tryz.isAgg357
 z154:=Tryz.sizeOf357
 v154:=Tryz.zeroValue357
 t193:=Tryz.underlying374
 a193:=Tryz.isAgg374
 z193:=Tryz.sizeOf374
 v193:=Tryz.zeroValue374
 t194:=Tryz.underlying375
 a194:=Tryz.isAgg375
 z194:=Tryz.sizeOf375
 v194:=Tryz.zeroValue375
 t196:=Tryz.underlying377
 a196:=Tryz.isAgg377
 z196:=Tryz.sizeOf377
 v196:=Tryz.zeroValue377
 t198:=Tryz.underlying380
 a198:=Tryz.isAgg380
 z198:=Tryz.sizeOf380
 v198:=Tryz.zeroValue380
 t201:=Tryz.underlying383
 a201:=Tryz.isAgg383
 z201:=Tryz.sizeOf383
 v201:=Tryz.zeroValue383
 t226:=Tryz.underlying385
 a226:=Tryz.isAgg385
 z226:=Tryz.sizeOf385
 v226:=Tryz.zeroValue385
 t227:=Tryz.underlying386
 a227:=Tryz.isAgg386
 z227:=Tryz.sizeOf386
 v227:=Tryz.zeroValue386
 g0:=by kernel_rfl
 g6:=by kernel_rfl }
def Tryz.laysIdxS_ren:Go.Shelf.Ren:=⟨fun|30=>166|n=>n,fun|25=>105|26=>9|3=>3|0=>0|4=>4|n=>n,fun|n=>n⟩
theorem Tryz.laysIdxS : Go.Proofs.SlLaysN.n30 Tryz.prog Tryz.laysIdxS_ren := {
 mixed:=by kernel_rfl
 f30:=⟨Tryz.f166.name,by decide,Tryz.func166.trans (congrArg some (by kernel_rfl))⟩
 t0:=Tryz.underlying0
 a0:=Tryz.isAgg0
 z0:=Tryz.sizeOf0
 v0:=Tryz.zeroValue0
 t3:=Tryz.underlying3
 a3:=Tryz.isAgg3
 z3:=Tryz.sizeOf3
 v3:=Tryz.zeroValue3
 t4:=Tryz.underlying4
 a4:=Tryz.isAgg4
 z4:=Tryz.sizeOf4
 v4:=Tryz.zeroValue4
 t25:=Tryz.underlying105
 a25:=Tryz.isAgg105
 z25:=Tryz.sizeOf105
 v25:=Tryz.zeroValue105
 t26:=Tryz.underlying9
 a26:=Tryz.isAgg9
 z26:=Tryz.sizeOf9
 v26:=Tryz.zeroValue9 }
end Go.Proofs
namespace Go.Proofs.YtllefinciimffaaGreatDoor
open Go.RowKit Go.Shelf
theorem W5 (c:UInt8) (hc:c=48∨c=49):(97:Int)-(c.toNat:Int)=((97-c).toNat:Int):=by rcases hc with rfl|rfl<;>rfl
theorem BM (c:UInt8) (w:World) (hc:c=48∨c=49):Calls Tryz.prog 272 #[.int .i32 (c.toNat:Int)] w fun e w'=>e=.returned (.int .i32 ((97-c).toNat:Int))∧w=w':=by
 have HE:=aLa (W5 c hc);have h0:48≤(c.toNat:Int):=(by rcases hc with rfl|rfl<;>decide);have h1:(c.toNat:Int)≤49:=(by rcases hc with rfl|rfl<;>decide);clear hc
 go_in
 go_wp2_with fail;go_ret;exact ⟨congrArg (fun z=>Ending.returned (Value.int .i32 z)) HE.out,rfl⟩
theorem tP (d:Nat) (hd:d<10) (w:World):Calls Tryz.prog 219 #[.string ⟨(fA.getD d []).toArray⟩] w fun e w'=>e=.returned (.string ⟨(exB (fA.getD d [])).toArray⟩)∧Bl w w':=by
 obtain ⟨c,l,hcl⟩:∃c l,fA.getD d []=c :: l:=by
  cases h:fA.getD d [] with
  |nil=>have:∀d<10,fA.getD d []≠[]:=(by decide);exact absurd h (this d hd)
  |cons c l=>exact ⟨c,l,rfl⟩
 have hm:aM (c :: l) [48,49]=true:=by
  rw[←hcl];have:∀d<10,aM (fA.getD d []) [48,49]=true:=(by decide +kernel);exact this d hd
 have hl:l.length≤1000:=by
  have h1:∀d<10,(fA.getD d []).length=7:=(by decide);have:=h1 d hd;rw[hcl,aLB] at this;omega
 rw[hcl];have H:=aLa (aDb 272 (pD Tryz.func272 (by kernel_rfl) rfl) (fun c W hc=>BM c W hc) c l hm hl w);clear hcl hm
 go_in
 go_wp2_with fail;refine H.out.mono ?_;rintro e w1 ⟨rfl,hb⟩;go_wp2_with fail;go_ret;exact ⟨rfl,hb⟩
def TxtRes (ts:List (List UInt8)) (w:World) (e:Ending) (w':World):Prop:=∃g:Nat,e=.returned (.slice (some ⟨g,0,none⟩) ts.length ts.length)∧Reads w' 1 (some ⟨g,0,none⟩) ts.length (bE ts)∧Bl w w'
theorem kY (w:World):Calls Tryz.prog 218 #[] w (TxtRes fA w):=by
 go_in
 go_wp2_with fail;go_ret;exact ⟨_,rfl,(Blk.new w 9 (bE fA).toArray).reads 10 1 rfl,(Bl.refl w).alloc _⟩
theorem mU (w:World):Calls Tryz.prog 217 #[] w (TxtRes dL w):=by
 go_in
 go_wp2_with fail;go_ret;exact ⟨_,rfl,(Blk.new w 9 (bE dL).toArray).reads 10 1 rfl,(Bl.refl w).alloc _⟩
def SpOk (w:World):Prop:=∀c:Nat,c<256→w.cell? ⟨Tryz.lays157_ren.g 0,c,none⟩=some (.int .u8 (if Lib.isSp (UInt8.ofNat c) then 1 else 0))
theorem SpOk.bl {w w':World} (h:SpOk w) (hb:Bl w w'):SpOk w':=fun c hc=>hb.at (h c hc)
theorem S2 (s:List UInt8) (ts:List (List UInt8)) (hs:s.length<4294967281) (aFg:∀b∈s,b.toNat<128) (hts:Lib.fields s=ts) (w:World) (hT:SpOk w):Calls Tryz.prog 267 #[s] w (TxtRes ts w):=by
 have h:=Any.strings_Fields_core Tryz.lays157 (by kernel_rfl) ⟨s.toArray⟩ w (by rw[Lib.size_mk];exact hs) (fun j b hb=>aFg b (List.mem_of_getElem? hb)) hT;refine Calls.mono (R:=fun e w'=>e=.returned (.slice (some ⟨w.heap.size,0,none⟩) (Lib.fields s).length (Lib.fields s).length)∧w'=w.alloc (.cells ((Lib.fields s).map fun l=>Value.string ⟨l.toArray⟩).toArray 9)) h ?_;rintro e w' ⟨rfl,rfl⟩;rw[hts];exact ⟨_,rfl,(Blk.new w 9 (bE ts).toArray).reads ts.length 1 (by unfold bE;simp),(Bl.refl w).alloc _⟩
theorem tQ (x : List UInt8) : ∀ (zs : List (List UInt8)) (i : Nat), Lib.idxFromS (zs.map fun l => (⟨l.toArray⟩ : ByteArray)) ⟨x.toArray⟩ i = match zs.findIdx? (· == x) with | some k => ((i + k : Nat) : Int) | none => -1
 |[],i=>rfl
 |y :: l,i=>by
  rw[List.map_cons,List.findIdx?_cons];unfold Lib.idxFromS;by_cases hp:y=x
  ·subst hp;simp
  ·have h1:(⟨y.toArray⟩:ByteArray)≠⟨x.toArray⟩:=fun e=>hp (by simpa using e);have h2:(y==x)=false:=(by simpa using hp);rw[if_neg h1,h2];simp only[Bool.false_eq_true,if_false];rw[tQ x l (i+1)];cases l.findIdx? (·==x) with
   |none=>rfl
   |some k=>simp only[Option.map_some];congr 1;omega
theorem W6 (zs:List (List UInt8)) (x:List UInt8):Lib.idxOfS (zs.map fun l=>(⟨l.toArray⟩:ByteArray)) ⟨x.toArray⟩=match zs.findIdx? (·==x) with|some k=>(k:Int)|none => -1:=by
 unfold Lib.idxOfS;rw[tQ];cases zs.findIdx? (·==x) with
 |none=>rfl
 |some k=>simp
theorem JV (g:Nat) (zs:List (List UInt8)) (x:List UInt8) (w:World) (hr:Reads w 1 (some ⟨g,0,none⟩) zs.length (bE zs)) (hn:zs.length≤1000) :
 Calls Tryz.prog 166 #[.slice (some ⟨g,0,none⟩) zs.length zs.length,x] w fun e w'=>e=.returned (.int .i64 (match zs.findIdx? (·==x) with|some k=>(k:Int)|none => -1))∧w=w':=by
 have h:=AnyG.slices_Index_string Tryz.laysIdxS g 0 zs.length zs.length (zs.map fun l=>(⟨l.toArray⟩:ByteArray)) ⟨x.toArray⟩ w (by simp) (by omega) (fun j hj=>by
  rw[aLz] at hj;obtain ⟨t,ht⟩:∃t,zs[j]? = some t:=⟨_,aLv hj⟩;obtain ⟨ad,e,hc⟩:=kS hr ht;obtain rfl:=aLZ e;rw[aLx,aLG,ht,Nat.zero_add];rw[iT] at hc;exact hc)
 rw[show (zs.map fun l=>(⟨l.toArray⟩:ByteArray)).take zs.length=zs.map fun l=>(⟨l.toArray⟩:ByteArray) from aL6 (by simp),W6] at h;refine Calls.mono (R:=fun e w'=>e=.returned (.int .i64 (match zs.findIdx? (·==x) with|some k=>(k:Int)|none => -1))∧w'=w) h ?_;rintro e w' ⟨rfl,rfl⟩;exact ⟨rfl,rfl⟩
theorem aA5 {ds:List UInt8} (hm:aM ds bJ=true) {i:Nat} (hi:i<ds.length):∃b,ds[i]? = some b∧48≤b.toNat∧b.toNat≤57∧aS ds i=b.toNat-48:=by
 have hg:ds[i]? = some ds[i]:=aLv hi;obtain ⟨h1,h2⟩:=FB hm hg;refine ⟨_,hg,h1,h2,?_⟩;unfold aS;rw[aLx,hg];rfl
theorem qR {ds:List UInt8} (hm:aM ds bJ=true) {i:Nat} (hi:i<ds.length):∃b,ds[i]? = some b∧(b.toNat:Int)=48+(aS ds i:Int)∧aS ds i≤9:=by
 obtain ⟨b,h1,h2,h3,h4⟩:=aA5 hm hi;exact ⟨b,h1,by omega,by omega⟩
def nL (l:List UInt8):Int:=if uR l 13=true then (if i8 (l.take 12)=aS l 12 then 0 else 14) else 2
def oW (l:List UInt8):List UInt8:=if nL l=0 then jU l else []
theorem kC (l:List UInt8) (a b:Nat):(⟨l.toArray⟩:ByteArray).extract a b=⟨((l.drop a).take (b-a)).toArray⟩:=by
 apply ByteArray.ext;rw[ByteArray.data_extract];apply Array.toList_inj.1;simp only[Array.toList_extract,List.extract_eq_take_drop]
theorem cE (a b:List UInt8):(⟨a.toArray⟩:ByteArray)++⟨b.toArray⟩=⟨(a++b).toArray⟩:=by
 apply ByteArray.ext;simp[ByteArray.data_append]
theorem zN (ds : List UInt8) (hd : ∀ i, aS ds i ≤ 9) : ∀ i, (iD ds i).length ≤ 3 + 12 * i
 |0=>Nat.le_refl _
 |i+1=>by
  have ih:=zN ds hd i;have h1:=nI (cX ds (i+1)) (aS ds (i+1)) (by have:=hd (i+1);omega);show (iD ds i++(if i=6 then IU else [])++aK (cX ds (i+1)) (aS ds (i+1))).length≤_;rw[aLy,aLy,h1];have:(if i=6 then IU else []).length≤5:=(by split<;>decide);omega
theorem O8 (d:Nat) (h:d<10):fA[d]? = some (fA.getD d []):=by
 rw[aLx,aLv (show d<fA.length from h)];rfl
theorem W7 (d:Nat) (h:d<10):dL[d]? = some (dL.getD d []):=by
 rw[aLx,aLv (show d<dL.length from h)];rfl
theorem aEB (ds:List UInt8) (hd:aS ds 0≤9) (j:Nat) (hj:j<6):∃c,(aD7 ds)[j]? = some c∧(c=76∨c=71)∧cX ds (j+1)=c:=by
 have h:∀d<10,∀i<6,(dL.getD d []).length=6∧((dL.getD d []).getD i 0=76∨(dL.getD d []).getD i 0=71):=(by decide +kernel);obtain ⟨h1,h2⟩:=h (aS ds 0) (by omega) j hj;refine ⟨(aD7 ds).getD j 0,?_,h2,?_⟩
 ·have hj':j<(aD7 ds).length:=(by unfold aD7;rw[h1];exact hj);rw[aLx,aLv hj'];rfl
 ·unfold cX;rw[if_neg (by omega),Nat.add_sub_cancel]
theorem zO (d:Nat):aK 76 d=fA.getD d []:=rfl
theorem aCd (d:Nat) (h:d<10):(exB (fA.getD d [])).length=7:=nI 82 d h
theorem aDi (l:List UInt8) (w:World) (hl:l.length≤9223372036854775807) :
 Calls Tryz.prog 156 #[l] w fun e w'=>e=.returned (.tuple #[.string ⟨(oW l).toArray⟩,.int .i64 (nL l)])∧Bl w w':=by
 have Hd:=aLa (tJ l 13 w hl (by decide));have hsz:(⟨l.toArray⟩:ByteArray).size=l.length:=Lib.size_mk l;obtain ⟨db,hdb⟩:=aLt (uR l 13);rw[←hdb] at Hd
 go_in
 go_wp2_with fail;refine Hd.out.mono ?_;rintro e w1 ⟨rfl,hb1⟩;clear Hd;cases db with
 |false=>have hE:nL l=2:=(by unfold nL;rw[←hdb];rfl);have HV:=aLa (show oW l=[] by unfold oW;rw[hE];rfl);have HE:=aLa hE;clear hE hdb;go_wp2_with fail;exact aL0 (v:=.tuple #[.string ⟨#[]⟩,.int .i64 2]) (by simp[results,Tryz.results156,go_sem]) rfl ⟨by rw[HV.out,HE.out],hb1⟩
 |true=>
  have hd:=hdb.symm;unfold uR at hd;simp only[aLV,decide_eq_true_eq] at hd;obtain ⟨cL,hm⟩:=hd;have hEE:nL l=if i8 (l.take 12)=aS l 12 then 0 else 14:=(by unfold nL;rw[←hdb];rfl);have HM:=aLa hm;have LC:=aLa cL;have aGW:(l.length:Int)=13:=(by omega);have aIH:(l.take 12).length=12:=(by rw[aLA];omega);have hdt:uR (l.take 12) 12=true:=by
   unfold uR;rw[aLX aIH];unfold aM at hm ⊢;rw[aLO] at hm;show ((l.take 12).all fun b=>bJ.contains b)=true;rw[aLO];exact fun b hb=>hm b (List.mem_of_mem_take hb)
  have hck:=fun wx=>rJ (l.take 12) wx (by omega);rw[hdt] at hck;simp only[if_true] at hck;have hex:(⟨l.toArray⟩:ByteArray).extract 0 12=⟨(l.take 12).toArray⟩:=kC l 0 12;obtain ⟨b12,aFh,aDT,aHn⟩:=qR hm (i:=12) (by omega);obtain ⟨k1,k2⟩:=dS aFh;obtain ⟨ck,aFi⟩:=aLt (i8 (l.take 12));obtain ⟨d12,ZP⟩:=aLt (aS l 12);rw[←aFi] at hck hEE;rw[←ZP] at aDT aHn hEE;have Hck:=aLa hck;have HEE:=aLa hEE;clear hck hEE hm cL hdt hdb aIH aFh aFi ZP;go_wp2_with fail;refine (Hck.out _).mono ?_;rintro e w2 ⟨rfl,hb2⟩;have HB2:=aLa (hb1.trans hb2);clear Hck hb1 hb2;by_cases hq:ck=d12
  ·have HE:=aLa (HEE.out.trans (if_pos hq));have HV:=aLa (show oW l=jU l by unfold oW;rw[HE.out];rfl);subst hq;obtain ⟨b0,hg0,hb0,hd0⟩:=qR HM.out (i:=0) (by have:=LC.out;omega);obtain ⟨k01,k02⟩:=dS hg0;obtain ⟨rw0,hrw⟩:=aLt (aD7 l);have NY:=aLa hrw;obtain ⟨d0,aHo⟩:=aLt (aS l 0);rw[←aHo] at hb0 hd0;have HRw:=aLa (show dL.getD d0 []=rw0 by rw[hrw,aHo];rfl);have hs0:(48:Int)+(d0:Int)-48=(d0:Int):=(by omega);have hs1:(48:Int)≤48+(d0:Int):=(by omega);have hs2:(d0:Int)<(dL.length:Int):=(by show (d0:Int)<10;omega);clear HEE hg0 hrw aHo;go_upto_region 6 with fail;refine aLs [aLq 1,aLq 2,aLq 3,aLr 0,aLq 4,aLq 5,aLq 6] (by kernel_rfl) ?_;apply Flow.mv _ rfl
   ·intro a b;simp only[sqA,Act.eval,sqC];exact b
   iterate 2
    apply Flow.calm2 _ _ rfl rfl
    ·intro a b c d;obtain ⟨e,f⟩:=b.rule;go_simp;(try go_ints);exact d
    ·intro a b;simp only[sqA];exact b
   apply Flow.move rfl;go_wp2_with fail;refine (mU _).mono ?_;rintro e w6 ⟨g,rfl,hr6,HB1⟩;obtain ⟨ad6,e6,c6⟩:=kS hr6 (W7 d0 (by omega));obtain rfl:=aLZ e6;rw[iT,HRw.out] at c6;go_wp2_with fail;refine ⟨fun _=>(by first|exact HB1|exact Bl.refl _),?_⟩
   iterate 2
    apply Flow.calm2 _ _ rfl rfl
    ·intro a b c d;obtain ⟨e,f⟩:=b.rule;go_simp;(try go_ints);exact d
    ·intro a b;simp only[sqA];exact b
   apply Flow.asg _ rfl
   ·intro a b;simp only[sqA,Act.eval,sqC];exact b
   refine Flow.done ?_;have HB6:=aLa (HB2.out.trans (Bl.ofDrew HB1));clear hr6 c6 HB1 HB2;go_wp2_with fail;have HD:=aLa (mB HM.out);go_loopw [7,8] (fun s7 s8 wr=>∃i j:Nat,i=j+1∧j≤12∧s8=.int .i64 (i:Int)∧s7=.string ⟨(iD l j).toArray⟩∧Bl w wr) (fun _ v _=>13-(RowKit.intOf v).toNat);case atStart=>exact ⟨1,0,rfl,by omega,rfl,rfl,HB6.out⟩
   case round=>
    rename World=>wr;obtain ⟨i,j,hij,hj,rfl,rfl,hbr⟩:=hrel;have HBr:=aLa hbr;clear hbr;have hpl:=zN l HD.out j;by_cases hlt:j<12
    ·have hd9:=HD.out i;obtain ⟨b,hg,hb,-⟩:=qR HM.out (i:=i) (by have:=LC.out;omega);obtain ⟨m1,m2⟩:=dS hg;have hst:iD l (j+1)=iD l j++(if j=6 then IU else [])++aK (cX l (j+1)) (aS l (j+1)):=rfl;rw[←hij] at hst;obtain ⟨P,hP⟩:=aLt (iD l j);obtain ⟨d,hd⟩:=aLt (aS l i);rw[←hP] at hst hpl ⊢;rw[←hd] at hst hb hd9;have aKh:(i:Int)<13:=(by omega);have hi0:(0:Int)≤(i:Int):=(by omega);have q0:(48:Int)+(d:Int)-48=(d:Int):=(by omega);have q1:(48:Int)≤48+(d:Int):=(by omega);have q2:(d:Int)<(fA.length:Int):=(by show (d:Int)<10;omega);have hL7:=nI 76 d (by omega);rw[zO] at hL7;have hE7:=aCd d (by omega);have hF7:(exB (fA.getD d [])).reverse.length=7:=(by rw[aL3];exact hE7);have hcE:=fun wx=>tP d (by omega) wx;have hcF:=fun wx=>kW (exB (fA.getD d [])) wx (by omega);unfold FlipRes at hcF;obtain ⟨E,hE⟩:=aLt (exB (fA.getD d []));obtain ⟨F,hF⟩:=aLt E.reverse;rw[←hE] at hE7 hF7 hcE hcF;rw[←hF] at hF7 hcF;obtain ⟨L,hL⟩:=aLt (fA.getD d []);rw[←hL] at hL7 hcE;obtain ⟨HL,HcE,HcF⟩:=aLb (show fA[d]? = some L from hL ▸ O8 d (by omega)) hcE hcF;have hsP:(⟨P.toArray⟩:ByteArray).size=P.length:=Lib.size_mk P;have hsL:(⟨L.toArray⟩:ByteArray).size=L.length:=Lib.size_mk L;have hsE:(⟨E.toArray⟩:ByteArray).size=E.length:=Lib.size_mk E;have hsF:(⟨F.toArray⟩:ByteArray).size=F.length:=Lib.size_mk F;have hoL:¬(9223372036854775807<P.length+L.length):=(by omega);have hoE:¬(9223372036854775807<P.length+E.length):=(by omega);have hoF:¬(9223372036854775807<P.length+F.length):=(by omega);obtain ⟨HHL,HHE,HHF⟩:=aLb (show aK 76 d=L from hL.symm) (show aK 82 d=E from hE.symm) (show aK 71 d=F by rw[hF,hE];rfl);clear hP hd hg hE hF hL hcE hcF;by_cases h6:j<6
     ·obtain ⟨c,hrc,hc,hk⟩:=aEB l (by have:=HD.out 0;omega) j h6;rw[←NY.out] at hrc;obtain ⟨n1,n2⟩:=dS hrc;have hjm:(i:Int)-1=(j:Int):=(by omega);have hq7:((i:Int)==7)=false:=(by rw[aLU];omega);have hlt7:(i:Int)<7:=(by omega);rw[←hij] at hk;rw[if_neg (show ¬j=6 by omega),aMj,hk] at hst;have HIJ:=aLa hij;have HSt:=aLa hst;clear hst hij hk hrc;go_upto_region 13 with fail;refine aLs [aLq 1,aLq 2,aLq 3,aLq 4,aLr 0,aLq 5,aLq 6,aLq 7] (by kernel_rfl) ?_
      iterate 2
       apply Flow.mv _ rfl
       ·intro a b;simp only[sqA,Act.eval,sqC];exact b
      iterate 2
       apply Flow.calm2 _ _ rfl rfl
       ·intro a b c d;obtain ⟨e,f⟩:=b.rule;go_simp;(try go_ints);exact d
       ·intro a b;simp only[sqA];exact b
      apply Flow.move rfl;go_wp2_with fail;refine (kY _).mono ?_;rintro e w6 ⟨g,rfl,hr6,HB1⟩;obtain ⟨ad6,e6,c6⟩:=kS hr6 HL.out;obtain rfl:=aLZ e6;rw[iT] at c6;go_wp2_with fail;refine ⟨fun _=>(by first|exact HB1|exact Bl.refl _),?_⟩
      iterate 2
       apply Flow.calm2 _ _ rfl rfl
       ·intro a b c d;obtain ⟨e,f⟩:=b.rule;go_simp;(try go_ints);exact d
       ·intro a b;simp only[sqA];exact b
      apply Flow.asg _ rfl
      ·intro a b;simp only[sqA,Act.eval,sqC];exact b
      refine Flow.done ?_;have HB7:=aLa (HBr.out.trans (Bl.ofDrew HB1));clear hr6 c6 HB1 HBr;rcases hc with rfl|rfl
      ·have HSn:=aLa (HSt.out.trans (by rw[HHL.out]));have sP:=cE P L;clear HSt;go_wp2_with fail;exact ⟨⟨i+1,i,rfl,by omega,by go_num,by rw[HSn.out,←sP],HB7.out⟩,by simp[RowKit.intOf]<;>omega⟩
      ·have HSn:=aLa (HSt.out.trans (by rw[HHF.out]));have sP:=cE P F;clear HSt;go_wp2_with fail;refine (HcE.out _).mono ?_;rintro e w8 ⟨rfl,hb8⟩;have HB8:=aLa (HB7.out.trans hb8);clear hb8 HB7;go_wp2_with fail;refine (HcF.out _).mono ?_;rintro e w9 ⟨rfl,hb9⟩;have HB9:=aLa (HB8.out.trans hb9);clear hb9 HB8;go_wp2_with fail;exact ⟨⟨i+1,i,rfl,by omega,by go_num,by rw[HSn.out,←sP],HB9.out⟩,by simp[RowKit.intOf]<;>omega⟩
     ·have hk:cX l i=82:=(by rw[hij];exact qO l j (by omega));rw[hk,HHE.out] at hst;have hge7:(7:Int)≤(i:Int):=(by omega);have hnl7:¬((i:Int)<7):=(by omega);by_cases h7:j=6
      ·rw[if_pos h7] at hst;have hi7:i=7:=(by omega);have hq7:((i:Int)==7)=true:=(by rw[beq_iff_eq];omega);have hoM:¬(9223372036854775807<P.length+5):=(by omega);have hcM:(⟨P.toArray⟩:ByteArray)++⟨#[48,49,48,49,48]⟩=⟨(P++IU).toArray⟩:=cE P IU;have hlM:(P++IU).length=P.length+5:=(by rw[aLy];rfl);obtain ⟨Q,hQ⟩:=aLt (P++IU);rw[←hQ] at hcM hlM hst;have hsQ:(⟨Q.toArray⟩:ByteArray).size=Q.length:=Lib.size_mk Q;have hoQ:¬(9223372036854775807<Q.length+E.length):=(by omega);have HSn:=aLa hst;have sP:=cE Q E;have HIJ:=aLa hij;have HI7:=aLa hi7;have hj6:j≤6:=(by omega);clear hQ hst hij hi7 h7 h6 hk hlM;go_upto_region 13 with fail;refine aLs [aLq 1,aLq 2,aLq 3,aLq 4,aLr 0,aLq 5,aLq 6,aLq 7] (by kernel_rfl) ?_
       iterate 2
        apply Flow.mv _ rfl
        ·intro a b;simp only[sqA,Act.eval,sqC];exact b
       iterate 2
        apply Flow.calm2 _ _ rfl rfl
        ·intro a b c d;obtain ⟨e,f⟩:=b.rule;go_simp;(try go_ints);exact d
        ·intro a b;simp only[sqA];exact b
       apply Flow.move rfl;go_wp2_with fail;refine (kY _).mono ?_;rintro e w6 ⟨g,rfl,hr6,HB1⟩;obtain ⟨ad6,e6,c6⟩:=kS hr6 HL.out;obtain rfl:=aLZ e6;rw[iT] at c6;go_wp2_with fail;refine ⟨fun _=>(by first|exact HB1|exact Bl.refl _),?_⟩
       iterate 2
        apply Flow.calm2 _ _ rfl rfl
        ·intro a b c d;obtain ⟨e,f⟩:=b.rule;go_simp;(try go_ints);exact d
        ·intro a b;simp only[sqA];exact b
       apply Flow.asg _ rfl
       ·intro a b;simp only[sqA,Act.eval,sqC];exact b
       refine Flow.done ?_;have HB7:=aLa (HBr.out.trans (Bl.ofDrew HB1));clear hr6 c6 HB1 HBr;go_wp2_with fail;refine (HcE.out _).mono ?_;rintro e w8 ⟨rfl,hb8⟩;have HB8:=aLa (HB7.out.trans hb8);clear hb8 HB7;go_wp2_with fail;exact ⟨⟨i+1,i,rfl,by have:=HIJ.out;omega,by go_num,by rw[HSn.out,←sP],HB8.out⟩,by simp[RowKit.intOf]<;>omega⟩
      ·rw[if_neg h7,aMj] at hst;have hq7:((i:Int)==7)=false:=(by rw[aLU];omega);have HSn:=aLa hst;have sP:=cE P E;have HIJ:=aLa hij;have H7:=aLa h7;clear hst hij h7 hk;go_upto_region 13 with fail;refine aLs [aLq 1,aLq 2,aLq 3,aLq 4,aLr 0,aLq 5,aLq 6,aLq 7] (by kernel_rfl) ?_
       iterate 2
        apply Flow.mv _ rfl
        ·intro a b;simp only[sqA,Act.eval,sqC];exact b
       iterate 2
        apply Flow.calm2 _ _ rfl rfl
        ·intro a b c d;obtain ⟨e,f⟩:=b.rule;go_simp;(try go_ints);exact d
        ·intro a b;simp only[sqA];exact b
       apply Flow.move rfl;go_wp2_with fail;refine (kY _).mono ?_;rintro e w6 ⟨g,rfl,hr6,HB1⟩;obtain ⟨ad6,e6,c6⟩:=kS hr6 HL.out;obtain rfl:=aLZ e6;rw[iT] at c6;go_wp2_with fail;refine ⟨fun _=>(by first|exact HB1|exact Bl.refl _),?_⟩
       iterate 2
        apply Flow.calm2 _ _ rfl rfl
        ·intro a b c d;obtain ⟨e,f⟩:=b.rule;go_simp;(try go_ints);exact d
        ·intro a b;simp only[sqA];exact b
       apply Flow.asg _ rfl
       ·intro a b;simp only[sqA,Act.eval,sqC];exact b
       refine Flow.done ?_;have HB7:=aLa (HBr.out.trans (Bl.ofDrew HB1));clear hr6 c6 HB1 HBr;go_wp2_with fail;refine (HcE.out _).mono ?_;rintro e w8 ⟨rfl,hb8⟩;have HB8:=aLa (HB7.out.trans hb8);clear hb8 HB7;go_wp2_with fail;exact ⟨⟨i+1,i,rfl,by have:=HIJ.out;omega,by go_num,by rw[HSn.out,←sP],HB8.out⟩,by simp[RowKit.intOf]<;>omega⟩
    ·obtain rfl:j=12:=(by omega);have aKh:¬((i:Int)<13):=(by omega);have UR:jU l=iD l 12++wX:=rfl;obtain ⟨P,hP⟩:=aLt (iD l 12);rw[←hP] at UR hpl ⊢;have hsP:(⟨P.toArray⟩:ByteArray).size=P.length:=Lib.size_mk P;have hoM:¬(9223372036854775807<P.length+3):=(by omega);have HV2:=aLa (HV.out.trans UR);have hcM:(⟨P.toArray⟩:ByteArray)++⟨#[49,48,49]⟩=⟨(P++wX).toArray⟩:=cE P wX;clear hP UR;go_wp2_with fail;exact aL0 (v:=.tuple #[.string ⟨(P++wX).toArray⟩,.int .i64 0]) (by simp[results,Tryz.results156,go_sem]) rfl ⟨by rw[HV2.out,HE.out],HBr.out⟩
  ·have HE:=aLa (HEE.out.trans (if_neg hq));have HV:=aLa (show oW l=[] by unfold oW;rw[HE.out];rfl);have hq':(ck:Int)≠(d12:Int):=(by omega);clear HEE hq;go_wp2_with fail;exact aL0 (v:=.tuple #[.string ⟨#[]⟩,.int .i64 14]) (by simp[results,Tryz.results156,go_sem]) rfl ⟨by rw[HV.out,HE.out],HB2.out⟩
theorem MapAt.same {w w':World} {b:Nat} {ks:List (List UInt8)} (h:MapAt w b ks) (hb:w'.heap[b]? = w.heap[b]?):MapAt w' b ks:=by
 obtain ⟨es,c,h1,h2,h3⟩:=h;exact ⟨es,c,hb.trans h1,h2,h3⟩
end Go.Proofs.YtllefinciimffaaGreatDoor
