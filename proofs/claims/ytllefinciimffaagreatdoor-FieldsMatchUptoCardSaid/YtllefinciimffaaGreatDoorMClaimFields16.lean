import Derived.Test.YtllefinciimffaaGreatDoorMClaimFields14
import Derived.Test.YtllefinciimffaaGreatDoorMClaimFields12
set_option maxHeartbeats 20000000
set_option maxRecDepth 100000
namespace Go.Proofs.YtllefinciimffaaGreatDoor
open Go.RowKit
theorem TL {bs:List Bool} {W H:Nat} {is:Bool} {X Y BW BH:Int} (h:BoundsIs bs W H is X Y BW BH) (hl:bs.length=W*H):is=decide (true∈bs):=by
 rw[Z9 h];unfold aDm;refine decide_eq_decide.2 ⟨fun h0 => ?_,fun hm => ?_⟩
 ·apply Classical.byContradiction;intro hn;have:(CT bs (W*H)).length=0:=mP.2 fun i hi=>by
   cases hb:bs.getD i false with
   |false=>rfl
   |true=>
    rw[aH4] at hb;cases hx:bs[i]? with
    |none=>rw[hx] at hb;cases hb
    |some v=>rw[hx] at hb;have hv:v=true:=hb;subst hv;exact absurd (List.mem_of_getElem? hx) hn
  omega
 ·obtain ⟨i,hi⟩:=List.getElem?_of_mem hm;have hlt:=(aH3.1 hi).1;rcases Nat.eq_zero_or_pos (CT bs (W*H)).length with h0|h0
  ·have:=mP.1 h0 i (by omega);rw[aH4,hi] at this;cases this
  ·exact h0
theorem xX (f:Frm) (a:Anc) (W H:Nat) (w:World) (hfW:f.W=(W:Int)) (hfH:f.H=(H:Int)) (hW:1≤W∧W≤4000) (hH:1≤H∧H≤4000) (hA:Reads w 1 a.A a.m (a.bs.map .bool)) :
 Calls Tryz.prog 106 #[f.val,a.val] w fun e w'=>e=.returned (.int .i64 (fQ W H a))∧Bl w w':=by
 obtain ⟨nm,fW,fH,reach,dark,AL,ac,la,FL,fc,lf,RL,rc,lr⟩:=f;simp only at hfW hfH;subst hfW hfH;let w1:=((w).alloc (.cells #[nm,W,H,reach,dark,.slice AL la.length ac,.slice FL lf.length fc,.slice RL lr.length rc] 26)).alloc (.cells #[a.W,a.H,.slice a.A a.m a.c,a.X,a.Y] 85);obtain ⟨w1b,w11,w12⟩:=aHP (x:=w1) w _ _ _ _ rfl;have hbd:=AR a.W a.H a.A a.m a.c a.bs w1 (hA.bl w1b);have hbl:a.bs.length=a.m:=(by have:=hA.1;simpa using this);have Hbd:=aHH hbd;have Hbl:=aHH hbl;have k1:=w11.all8;have k2:=w12.all5;obtain ⟨AE,hAE⟩:=aH0 (fQ W H a);rw[←hAE];have HAE:=aHH hAE;unfold Frm.val Anc.val;clear hA hbd hbl hAE
 go_in
 go_wp2_with fail;refine Hbd.out.mono ?_;rintro e w2 ⟨X,Y,BW,BH,err,rfl,he1,he2,hb2⟩;have HE1:=aHH he1;have HE2:=aHH he2;clear he1 he2;obtain ⟨B1,B2,Hb2⟩:=aHI (w11.bl hb2) (w12.bl hb2) (w1b.trans hb2);have k1:=B1.out.all8;have k2:=B2.out.all5;clear hb2;by_cases hp:aF a.W a.H a.m=0
 ·obtain ⟨is,hbi,rfl⟩:=HE2.out hp;obtain ⟨W',H',q1,q2,q3,-,-,-⟩:=dQ hp;have his:is=decide (true∈a.bs):=TL hbi (by rw[Hbl.out,q3,q1,q2,aIF,aIF]);have aB4:fQ W H a=if is=true then aE (!a.box.inP W H) 13 else 10:=by
   unfold fQ;rw[hp,←his];cases is
   ·rfl
   ·cases hc:a.box.inP W H<;>rfl
  have RC:=aHH (HAE.out.trans aB4);clear aB4 his hbi hp q1 q2 q3;cases is
  ·go_wp2_with fail;go_ret;exact ⟨by rw[RC.out];rfl,Hb2.out.alloc _⟩
  ·have hbx:=fun wx=>nU a wx;unfold Anc.val Bx.val at hbx;have hin:=fun wx=>mN a.X a.Y a.W a.H W H wx hW hH;have Hbx:=aHH hbx;have Hin:=aHH hin;clear hbx hin;go_upto_region 4 with fail;obtain ⟨w3,hw3⟩:=aH0 (w2.alloc (.cells #[X,Y,BW,BH] 58));have RR:=aHU hw3;rw[←hw3];have k1:=(B1.out.bl RR).all8;have k2:=(B2.out.bl RR).all5;have Hb3:=aHH (Hb2.out.trans RR);clear hw3 RR;refine aHZ [aHX 0,aHX 2,aHX 3,aHX 4,aHX 5,aHY 1,aHY 6,aHX 7] (by kernel_rfl) ?_
   iterate 5
    apply Flow.calm2 _ _ rfl rfl
    ·intro a b c d;obtain ⟨e,f⟩:=b.rule;go_simp;(try go_ints);exact d
    ·intro a b;simp only[sqA];exact b
   apply Flow.move rfl;go_wp2_with fail;refine (Hbx.out _).mono ?_;rintro e w4 ⟨rfl,HB1⟩;go_wp2_with fail;refine ⟨fun _=>(by first|exact HB1|exact Bl.refl _),?_⟩;apply Flow.move rfl;go_wp2_with fail;refine (Hin.out _).mono ?_;rintro e w5 ⟨rfl,HB2⟩;go_wp2_with fail;refine ⟨fun _=>(by first|exact HB2|exact Bl.refl _),?_⟩;apply Flow.asg _ rfl
   ·intro a b;simp only[sqA,Act.eval,sqC];exact b
   refine Flow.done ?_;go_wp2_with fail;go_ret;exact ⟨by rw[RC.out];rfl,Hb3.out.trans ((Bl.ofDrew HB1).trans HB2)⟩
 ·obtain ⟨rfl,-⟩:=HE1.out hp;have hq:(aF a.W a.H a.m != 0)=true:=(by simp[hp]);have aB4:fQ W H a=aF a.W a.H a.m:=by
   unfold fQ;simp only[aB,if_neg hp]
  have RC:=aHH (HAE.out.trans aB4);clear aB4 hp;go_wp2_with fail;go_ret;exact ⟨by rw[RC.out];rfl,Hb2.out.alloc _⟩
theorem GR {W H:Int} {l:List Bx} (h:∀b∈l,b.inP W H=true):dJ W H l=0:=by
 unfold dJ;have:(l.any fun b => !b.inP W H)=false:=by
  rw[List.any_eq_false];intro b hb;rw[h b hb];decide
 rw[this];rfl
theorem PR {W H:Int} {l:List Bx} {b:Bx} (hb:b∈l) (h:b.inP W H=false):dJ W H l=13:=by
 unfold dJ;have:(l.any fun b => !b.inP W H)=true:=aIm.2 ⟨b,hb,by rw[h];rfl⟩;rw[this];rfl
theorem Y4 (a b:Bx) (w:World):(binOp .neq 58 (.agg #[a.X,a.Y,a.W,a.H]) (.agg #[b.X,b.Y,b.W,b.H])).run Tryz.prog w=.ok (.bool (!decide (a=b))) w:=by
 obtain ⟨a1,a2,a3,a4⟩:=a;obtain ⟨b1,b2,b3,b4⟩:=b;have key:decide ((⟨a1,a2,a3,a4⟩:Bx)=⟨b1,b2,b3,b4⟩)=((a1==b1)&&((a2==b2)&&((a3==b3)&&(a4==b4)))):=by
  rw[Bool.eq_iff_iff];simp[Bx.mk.injEq]
 rw[key];have un:=Tryz.underlying3;have ag:=Tryz.isAgg3;have sz:=Tryz.sizeOf3;rw[run_neq_struct,show (10000:Nat)=9999+1 from rfl,run_equalIn_agg w 9999 _ _ _ (by kernel_rfl) (by kernel_rfl)];simp only[Program.fieldsOf,Tryz.underlying58];cases h1:(a1==b1)<;>cases h2:(a2==b2)<;>cases h3:(a3==b3)<;>cases h4:(a4==b4)<;>go_simp
def eG (x:Fld):Int:=aB [aE (!inB x.most 0 1000) 3,aE (!decide (x.kind=1)&&!decide (x.most=0)) 2]
theorem GS {W H:Int} {tw:Bool} {x:Fld} (h1:cG x.name=true) (h2:tw=false) (h3:inB x.kind 1 4=true) (h4:(if cC x.kind then aE (!decide (x.box=Bx.zero)) 2 else aE (!x.box.inP W H) 13)=0) (h5:cC x.kind=decide (0<x.marks.length)) (h6:¬20<x.marks.length) (h7:dJ W H x.marks=0):oD W H tw x=eG x:=by
 unfold oD eG;rw[h1,h2,h3,h4,h5,aIt h6,h7];simp only[aB,aE,Bool.not_true,bne_self_eq_false,Bool.false_eq_true,if_false,if_true]
theorem PS {W H:Int} {tw:Bool} {x:Fld} (h1:cG x.name=true) (h2:tw=false) (h3:inB x.kind 1 4=true) (h4:(if cC x.kind then aE (!decide (x.box=Bx.zero)) 2 else aE (!x.box.inP W H) 13)=0) (h5:cC x.kind=decide (0<x.marks.length)) (h6:¬20<x.marks.length) (h7:dJ W H x.marks=13):oD W H tw x=13:=by
 unfold oD;rw[h1,h2,h3,h4,h5,aIt h6,h7];simp only[aB,aE,Bool.not_true,bne_self_eq_false,Bool.false_eq_true,if_false,if_true];rfl
theorem zU (f:Frm) (x:Fld) (tw:Bool) (W H:Nat) (w:World) (hfW:f.W=(W:Int)) (hfH:f.H=(H:Int)) (hW:1≤W∧W≤4000) (hH:1≤H∧H≤4000) (hM:BxsAt w x.M x.marks) (hnm:x.name.length≤9223372036854775807) (hml:x.marks.length≤9223372036854775807) :
 Calls Tryz.prog 108 #[f.val,x.val,.bool tw] w fun e w'=>e=.returned (.int .i64 (oD W H tw x))∧Bl w w':=by
 obtain ⟨nm,fW,fH,reach,dark,AL,ac,la,FL,fc,lf,RL,rc,lr⟩:=f;simp only at hfW hfH;subst hfW hfH;obtain ⟨FE,hFE⟩:=aH0 (oD W H tw x);rw[←hFE];have HFE:=aHH hFE;let w1:=((w).alloc (.cells #[nm,W,H,reach,dark,.slice AL la.length ac,.slice FL lf.length fc,.slice RL lr.length rc] 26)).alloc (.cells #[x.name,x.kind,x.box.X,x.box.Y,x.box.W,x.box.H,.slice x.M x.marks.length x.mc,x.most,.bool x.needed] 61);obtain ⟨w1b,w11,w12⟩:=aHP (x:=w1) w _ _ _ _ rfl;have HM:=aHH (hM.bl w1b);have hin:=fun wx=>tB ⟨x.name.toArray⟩ wx (by rw[Lib.size_mk];exact hnm);have hip:=fun wx=>mN x.box.X x.box.Y x.box.W x.box.H W H wx hW hH;have him:=fun (b:Bx) wx=>mN b.X b.Y b.W b.H W H wx hW hH;obtain ⟨Hin,Hip,Him⟩:=aHI hin hip him;have k1:=w11.all8;have k2:=w12.all9;unfold Frm.val Fld.val;clear hM hin hip him hFE
 go_in
 go_wp2_with fail;refine (jH _ _).mono ?_;rintro e w' ⟨rfl,rfl⟩;go_wp2_with fail;refine (Hin.out _).mono ?_;rintro e w2 ⟨rfl,hb2⟩;obtain ⟨B1,B2,Hb2,aFv⟩:=aHJ (w11.bl hb2) (w12.bl hb2) (w1b.trans hb2) hb2;have k1:=B1.out.all8;have k2:=B2.out.all9;clear hb2;obtain ⟨mk,hmk⟩:=aH0 (cC x.kind);rw[←hmk];have Hmk:=aHH hmk;clear hmk;cases hN:cG x.name with
 |false=>have HX:=aHH (show oD W H tw x=5 by unfold oD;rw[hN];rfl);clear hN;go_wp2_with fail;go_ret;exact ⟨by rw[HFE.out,HX.out];rfl,Hb2.out⟩
 |true=>
 have HNm:=aHH hN;clear hN;cases tw with
 |true=>have HX:=aHH (show oD W H true x=6 by unfold oD;rw[HNm.out];rfl);go_wp2_with fail;go_ret;exact ⟨by rw[HFE.out,HX.out];rfl,Hb2.out⟩
 |false=>
 by_cases hk1:x.kind<1
 ·have HX:=aHH (show oD W H false x=1 by unfold oD;rw[HNm.out,dF.2 (.inl hk1)];rfl);go_wp2_with fail;go_ret;exact ⟨by rw[HFE.out,HX.out];rfl,Hb2.out⟩
 by_cases hk4:4<x.kind
 ·have HX:=aHH (show oD W H false x=1 by unfold oD;rw[HNm.out,dF.2 (.inr hk4)];rfl);go_wp2_with fail;go_ret;exact ⟨by rw[HFE.out,HX.out];rfl,Hb2.out⟩
 have HK:=aHH (aQ.2 (show 1≤x.kind∧x.kind≤4 by omega));go_upto_region 8 with fail;cases mk with
 |false=>
  cases hip:x.box.inP W H with
  |false=>have HX:=aHH (show oD W H false x=13 by unfold oD;rw[HNm.out,HK.out,←Hmk.out,hip];rfl);have aDW:=aHH (show dG x.box.X x.box.Y x.box.W x.box.H W H=false from hip);clear hip;go_wp2_with fail;refine (Hip.out _).mono ?_;rintro e w3 ⟨rfl,hb3⟩;rw[aDW.out];go_wp2_with fail;go_ret;exact ⟨by rw[HFE.out,HX.out];rfl,Hb2.out.trans hb3⟩
  |true=>
   have aDW:=aHH (show dG x.box.X x.box.Y x.box.W x.box.H W H=true from hip);have H4:=aHH (show (if cC x.kind then aE (!decide (x.box=Bx.zero)) 2 else aE (!x.box.inP W H) 13)=0 by rw[←Hmk.out,hip];rfl);clear hip;go_wp2_with fail;refine (Hip.out _).mono ?_;rintro e w3 ⟨rfl,hb3⟩;rw[aDW.out];obtain ⟨HX1,HX2,HW,Hb3⟩:=aHJ (B1.out.bl hb3) (B2.out.bl hb3) (aFv.out.trans hb3) (Hb2.out.trans hb3);have k1:=HX1.out.all8;have k2:=HX2.out.all9;clear hb3;go_upto_region 10 with fail;by_cases hl0:0<x.marks.length
   ·have aDX:0<(x.marks.length:Int):=(by omega);have HX:=aHH (show oD W H false x=2 by unfold oD;rw[HNm.out,HK.out,H4.out,←Hmk.out,aIu hl0];rfl);go_wp2_with fail;go_ret;exact ⟨by rw[HFE.out,HX.out];rfl,Hb3.out⟩
   ·have aDX:¬0<(x.marks.length:Int):=(by omega);have H5:=aHH (show cC x.kind=decide (0<x.marks.length) by rw[←Hmk.out,aIt hl0]);by_cases h20:20<x.marks.length
    ·exact absurd h20 (by omega)
    ·have aFw:¬20<(x.marks.length:Int):=(by omega);have H20:=aHH h20;clear h20;go_wp2_with fail;go_loopw [65] (fun v wr=>∃i:Nat,i≤x.marks.length∧v=.int .i64 i∧Bl w3 wr∧∀j b,j<i→x.marks[j]? = some b→b.inP W H=true) (fun v _=>x.marks.length-(RowKit.intOf v).toNat);case atStart=>exact ⟨0,Nat.zero_le _,rfl,Bl.refl _,fun j b hj=>absurd hj (Nat.not_lt_zero _)⟩
     case round=>
      obtain ⟨i,hi,rfl,hbr,iG⟩:=hrel;have CI:=aHH iG;have Hbr:=aHH hbr;have k1:=(HX1.out.bl hbr).all8;have k2:=(HX2.out.bl hbr).all9;clear iG hbr;by_cases hlt:i<x.marks.length
      ·exact absurd hlt (by omega)
      ·obtain rfl:i=x.marks.length:=(by omega);have hpl:dJ W H x.marks=0:=GR fun b hb=>by
        obtain ⟨j,hj⟩:=List.getElem?_of_mem hb;exact CI.out j b (aH3.1 hj).1 hj
       have HT:=aHH (HFE.out.trans (GS (tw:=false) HNm.out rfl HK.out H4.out H5.out H20.out hpl));clear hpl;by_cases m0:x.most<0
       ·have HX:=aHH (show eG x=3 by unfold eG;rw[dF.2 (.inl m0)];rfl);go_wp2_with fail;go_ret;exact ⟨by rw[HT.out,HX.out];rfl,(Hb3.out).trans Hbr.out⟩
       by_cases m1:1000<x.most
       ·have HX:=aHH (show eG x=3 by unfold eG;rw[dF.2 (.inr m1)];rfl);go_wp2_with fail;go_ret;exact ⟨by rw[HT.out,HX.out];rfl,(Hb3.out).trans Hbr.out⟩
       have hmi:=aQ.2 (show 0≤x.most∧x.most≤1000 by omega);by_cases c1:x.kind=1
       ·have HX:=aHH (show eG x=0 by unfold eG;rw[hmi,aIu c1];rfl);have q1:(x.kind != 1)=false:=(by simp[c1]);clear hmi c1;go_wp2_with fail;go_ret;exact ⟨by rw[HT.out,HX.out];rfl,(Hb3.out).trans Hbr.out⟩
       have q1:(x.kind != 1)=true:=(by simp[c1]);by_cases c2:x.most=0
       ·have HX:=aHH (show eG x=0 by unfold eG;rw[hmi,aIt c1,aIu c2];rfl);have q2:(x.most != 0)=false:=(by simp[c2]);clear hmi c1 c2;go_wp2_with fail;go_ret;exact ⟨by rw[HT.out,HX.out];rfl,(Hb3.out).trans Hbr.out⟩
       ·have HX:=aHH (show eG x=2 by unfold eG;rw[hmi,aIt c1,aIt c2];rfl);have q2:(x.most != 0)=true:=(by simp[c2]);clear hmi c1 c2;go_wp2_with fail;go_ret;exact ⟨by rw[HT.out,HX.out];rfl,(Hb3.out).trans Hbr.out⟩
 |true=>
  have ZP:=fun w'=>Y4 x.box ⟨0,0,0,0⟩ w';by_cases hz:x.box=⟨0,0,0,0⟩
  ·rw[aIu hz] at ZP;have hne:=ZP;simp only[Bool.not_true] at hne;clear ZP;obtain ⟨H4,HX1,HX2,HW⟩:=aHJ (show (if cC x.kind then aE (!decide (x.box=Bx.zero)) 2 else aE (!x.box.inP W H) 13)=0 by rw[←Hmk.out,if_pos rfl,aIu (show x.box=Bx.zero from hz)];rfl) B1.out B2.out aFv.out;clear hz;go_upto_region 10 with fail;by_cases hl0:0<x.marks.length
   ·have aDX:0<(x.marks.length:Int):=(by omega);have H5:=aHH (show cC x.kind=decide (0<x.marks.length) by rw[←Hmk.out,aIu hl0]);by_cases h20:20<x.marks.length
    ·have aFw:20<(x.marks.length:Int):=(by omega);have HX:=aHH (show oD W H false x=4 by unfold oD;rw[HNm.out,HK.out,H4.out,H5.out,aIu h20];simp[aB,aE]);go_wp2_with fail;go_ret;exact ⟨by rw[HFE.out,HX.out];rfl,Hb2.out⟩
    ·have aFw:¬20<(x.marks.length:Int):=(by omega);have H20:=aHH h20;clear h20;go_wp2_with fail;go_loopw [65] (fun v wr=>∃i:Nat,i≤x.marks.length∧v=.int .i64 i∧Bl w2 wr∧∀j b,j<i→x.marks[j]? = some b→b.inP W H=true) (fun v _=>x.marks.length-(RowKit.intOf v).toNat);case atStart=>exact ⟨0,Nat.zero_le _,rfl,Bl.refl _,fun j b hj=>absurd hj (Nat.not_lt_zero _)⟩
     case round=>
      obtain ⟨i,hi,rfl,hbr,iG⟩:=hrel;have CI:=aHH iG;have Hbr:=aHH hbr;have k1:=(HX1.out.bl hbr).all8;have k2:=(HX2.out.bl hbr).all9;clear iG hbr;by_cases hlt:i<x.marks.length
      ·have hg:x.marks[i]? = some x.marks[i]:=aH2 hlt;obtain ⟨b,hb⟩:=aH0 (x.marks[i]);rw[←hb] at hg;obtain ⟨ad,e1,j1,j2,j3,j4⟩:=BxsAt.at_ ((HM.out.bl HW.out).bl Hbr.out) hg;have HG:=aHH hg;clear hg hb;rw[e1] at k2 ⊢;go_upto_region 18 with fail;obtain ⟨w4,hw4⟩:=aH0 (wr.alloc (.cells #[.int .i64 b.X,.int .i64 b.Y,.int .i64 b.W,.int .i64 b.H] 58));have b4:=aHV hw4;have hb4:=aHU hw4;rw[←hw4];have k3:=b4.all4;have k1:=(HX1.out.bl (Hbr.out.trans hb4)).all8;have Hb4:=aHH hb4;clear hw4 b4 j1 j2 j3 j4 hb4;go_wp2_with fail;refine (Him.out b _).mono ?_;rintro e w5 ⟨rfl,hb5⟩;have Hb5:=aHH (Hbr.out.trans (Hb4.out.trans hb5));clear hb5 k3;cases hip:b.inP W H with
       |false=>have HX:=aHH (PS (tw:=false) HNm.out rfl HK.out H4.out H5.out H20.out (PR (List.mem_of_getElem? HG.out) hip));rw[show dG b.X b.Y b.W b.H W H=false from hip];clear hip;go_wp2_with fail;go_ret;exact ⟨by rw[HFE.out,HX.out];rfl,(Hb2.out).trans Hb5.out⟩
       |true=>
        have Hi:=aHH hip;rw[show dG b.X b.Y b.W b.H W H=true from hip];clear hip;go_wp2_with fail;exact ⟨⟨i+1,hlt,by go_num,Hb5.out,fun j b' hj hb'=>by
         rcases Nat.lt_succ_iff_lt_or_eq.1 hj with h|rfl
         ·exact CI.out j b' h hb'
         ·rw[HG.out] at hb';obtain rfl:=aIw hb';exact Hi.out⟩,by simp[RowKit.intOf];omega⟩
      ·obtain rfl:i=x.marks.length:=(by omega);have hpl:dJ W H x.marks=0:=GR fun b hb=>by
        obtain ⟨j,hj⟩:=List.getElem?_of_mem hb;exact CI.out j b (aH3.1 hj).1 hj
       have HT:=aHH (HFE.out.trans (GS (tw:=false) HNm.out rfl HK.out H4.out H5.out H20.out hpl));clear hpl;by_cases m0:x.most<0
       ·have HX:=aHH (show eG x=3 by unfold eG;rw[dF.2 (.inl m0)];rfl);go_wp2_with fail;go_ret;exact ⟨by rw[HT.out,HX.out];rfl,(Hb2.out).trans Hbr.out⟩
       by_cases m1:1000<x.most
       ·have HX:=aHH (show eG x=3 by unfold eG;rw[dF.2 (.inr m1)];rfl);go_wp2_with fail;go_ret;exact ⟨by rw[HT.out,HX.out];rfl,(Hb2.out).trans Hbr.out⟩
       have hmi:=aQ.2 (show 0≤x.most∧x.most≤1000 by omega);by_cases c1:x.kind=1
       ·have HX:=aHH (show eG x=0 by unfold eG;rw[hmi,aIu c1];rfl);have q1:(x.kind != 1)=false:=(by simp[c1]);clear hmi c1;go_wp2_with fail;go_ret;exact ⟨by rw[HT.out,HX.out];rfl,(Hb2.out).trans Hbr.out⟩
       have q1:(x.kind != 1)=true:=(by simp[c1]);by_cases c2:x.most=0
       ·have HX:=aHH (show eG x=0 by unfold eG;rw[hmi,aIt c1,aIu c2];rfl);have q2:(x.most != 0)=false:=(by simp[c2]);clear hmi c1 c2;go_wp2_with fail;go_ret;exact ⟨by rw[HT.out,HX.out];rfl,(Hb2.out).trans Hbr.out⟩
       ·have HX:=aHH (show eG x=2 by unfold eG;rw[hmi,aIt c1,aIt c2];rfl);have q2:(x.most != 0)=true:=(by simp[c2]);clear hmi c1 c2;go_wp2_with fail;go_ret;exact ⟨by rw[HT.out,HX.out];rfl,(Hb2.out).trans Hbr.out⟩
   ·have aDX:¬0<(x.marks.length:Int):=(by omega);have HX:=aHH (show oD W H false x=2 by unfold oD;rw[HNm.out,HK.out,H4.out,←Hmk.out,aIt hl0];rfl);go_wp2_with fail;go_ret;exact ⟨by rw[HFE.out,HX.out];rfl,Hb2.out⟩
  ·rw[aIt hz] at ZP;have hne:=ZP;simp only[Bool.not_false] at hne;clear ZP;have HX:=aHH (show oD W H false x=2 by unfold oD;rw[HNm.out,HK.out,←Hmk.out,if_pos rfl,aIt (show ¬x.box=Bx.zero from hz)];rfl);clear hz;go_wp2_with fail;go_ret;exact ⟨by rw[HFE.out,HX.out];rfl,Hb2.out⟩
end Go.Proofs.YtllefinciimffaaGreatDoor
namespace Go.Proofs.YtllefinciimffaaGreatDoor
open Go.RowKit Go.Shelf
theorem PT (B n:Nat) (w0:World) (hbk:w0.heap[B]? = some (.cells #[.pointer none,.slice none 0 0] 94 (0,0))) (hBw:B≤w0.heap.size) (h1:1≤n) (hn:n≤1048576) :
 Calls Tryz.prog 270 #[.pointer (some ⟨B,0,none⟩),n] w0 fun e w'=>e=.returned (.tuple #[])∧Bui B [] w'∧Below B w0 w':=by
 have aAF:(w0.setCell ⟨B,0,none⟩ (.pointer (some ⟨B,0,none⟩))).heap[B]? = some (.cells #[.pointer (some ⟨B,0,none⟩),.slice none 0 0] 94 (0,0)):=by
  simp[World.setCell,Array.getElem?_modify,hbk]
 have c1:(w0.setCell ⟨B,0,none⟩ (.pointer (some ⟨B,0,none⟩))).cell? ⟨B,1,none⟩=some (.slice none 0 0):=(by rw[Lib.cell_of_heap aAF];rfl);have hb1:Below B w0 (w0.setCell ⟨B,0,none⟩ (.pointer (some ⟨B,0,none⟩))):=(Below.refl B w0).setCell (p:=⟨B,0,none⟩) (Nat.le_refl _) _;have Hck:=aHH (nO B w0 (by rw[Lib.cell_of_heap hbk];rfl) (by simp[World.shape?,hbk]) (Lib.frozen_of_heap hbk 0));obtain ⟨w1,hw1⟩:=aH0 (w0.setCell ⟨B,0,none⟩ (.pointer (some ⟨B,0,none⟩)));have JB:B≤w1.heap.size:=(by rw[hw1];simpa using hBw);rw[←hw1] at aAF c1 hb1;have HW1:=aHH hw1;have aCS:=aHH aAF;clear hw1 hbk
 go_in
 go_wp2_with fail;refine Hck.out.mono ?_;rintro e w2 ⟨rfl,rfl⟩;rw[←HW1.out];go_upto_region 3 with fail;refine aHZ [aHX 0,aHX 1,aHX 2,aHX 3,aHX 4,aHX 5,aHX 6,aHX 7,aHX 8,aHX 9,aHX 10,aHX 11,aHX 12] (by kernel_rfl) ?_;apply Flow.mv _ rfl
 ·intro a b;simp only[sqA,Act.eval,sqC];exact b
 iterate 4
  apply Flow.calm2 _ _ rfl rfl
  ·intro a b c d;obtain ⟨e,f⟩:=b.rule;go_simp;(try go_ints);exact d
  ·intro a b;simp only[sqA];exact b
 apply Flow.mv _ rfl
 ·intro a b;simp only[sqA,Act.eval,sqC];exact b
 iterate 5
  apply Flow.calm2 _ _ rfl rfl
  ·intro a b c d;obtain ⟨e,f⟩:=b.rule;go_simp;(try go_ints);exact d
  ·intro a b;simp only[sqA];exact b
 apply Flow.mv _ rfl
 ·intro a b;simp only[sqA,Act.eval,sqC];exact b
 apply Flow.calm2 _ _ rfl rfl
 ·intro a b c d;obtain ⟨e,f⟩:=b.rule;go_simp;(try go_ints);exact d
 ·intro a b;simp only[sqA];exact b
 refine Flow.done ?_;have hlt:(0:Int)<(n:Int):=(by omega);go_wp2_with fail;refine (Any.Builder_grow_fresh Tryz.lays241 Tryz.builderExtra241 B B n w1.drew (Nat.le_refl _) aCS.out (by simpa using JB) (by omega)).mono ?_;rintro e w2 ⟨rfl,h1,h2⟩;go_wp2_with fail
 go_end0
 exact ⟨rfl,Or.inr (Lib.BuilderAtF.of h1),hb1.drew.trans h2⟩
theorem zV (B:Nat) (c:UInt8) (hc:c.toNat<128) (v:Value) (bs:List Value) (w:World) (aV:w.ownsRowF B 5 1 v bs.length bs) (cT:bs.length+1≤140737488355328) (hBw:B≤w.heap.size) :
 Calls Tryz.prog 339 #[v,.int .i32 (c.toNat:Int)] w fun e w'=>∃v',e=.returned v'∧w'.ownsRowF B 5 1 v' (bs.length+1) (bs++[.int .u8 (c.toNat:Int)])∧(∀j,j<w.heap.size→some j≠v.ownBlock→w'.heap[j]? = w.heap[j]?)∧Below B w w':=by
 obtain ⟨i0,hi,hz0,hz1,hz2⟩:=info_parts JH;obtain ⟨cv,hcv⟩:=aH0 ((c.toNat:Int):Int);rw[←hcv];have hc0:0≤cv:=(by omega);have hc1:cv≤127:=(by omega);clear hcv hc
 go_in
 go_wp2_with (at_builtin;refine wpList_append_ownF _ rfl _ _ 92 rfl B 5 i0 (.int .u8 0) 1 1 Tryz.underlying92 hi hz0 hz1 hz2 rfl (by decide) _ _ _ rfl (aV.alloc _) ⟨w.heap.size,0,none⟩ 1 1 [.int .u8 cv] rfl rfl ?c1 ?c2 ?c3 ?c4 ?c5 ?_);case c1=>
  intro j u hj
  match j,hj with
  |0,hj=>simp at hj;subst hj;simp[Addr.add]
 case c2=>intro u hu;simp at hu;subst hu;rfl
 case c3=>unfold maxLen;omega
 case c4=>omega
 case c5=>simp;omega
 intro v' w2 mI vH _;have hbl:Below B w w2:=((Below.refl B w).alloc hBw _).grown vH (by simp;omega) (fun k hk=>(aV.lt k hk).1);have hbk:∀j,j<w.heap.size→some j≠v.ownBlock→w2.heap[j]? = w.heap[j]?:=fun j hj hne=>by
  rw[vH.block j (by simp;omega) hne,Lib.alloc_old w _ j hj]
 obtain ⟨HB,HK,HO⟩:=aHI hbl hbk mI;clear hbl hbk mI vH aV
 go_wp2
 go_ret;exact ⟨v',rfl,HO.out,HK.out,HB.out⟩
theorem DQ (B:Nat) (l:List UInt8) (c:UInt8) (hc:c.toNat<128) (w:World) (h:Bui B l w) (cT:l.length+1≤140737488355328) (hBw:B≤w.heap.size) :
 Calls Tryz.prog 318 #[.pointer (some ⟨B,0,none⟩),.int .i32 (c.toNat:Int)] w fun e w'=>(∃v,e=.returned v)∧Bui B (l++[c]) w'∧Below B w w':=by
 have hbc:Lib.byteCells (l++[c])=Lib.byteCells l++[.int .u8 (c.toNat:Int)]:=(by rw[Lib.byteCells_append];rfl);have hbl:(Lib.byteCells l).length=l.length:=Lib.byteCells_length l;have Hbc:=aHH hbc;have Hbl:=aHH hbl;obtain ⟨bs,hbs⟩:=aH0 (Lib.byteCells l);have hck:=n7 B l w h;rw[←hbs] at hck Hbc Hbl;have Hck:=aHH hck;clear hbs hck h hbc hbl
 go_in
 go_wp2_with (go_at_call 113;refine Hck.out.mono ?_);rintro e w1 ⟨rfl,h1,hb1⟩;obtain ⟨hB,v,hbk,aV,hne⟩:=h1;have c0:w1.cell? ⟨B,0,none⟩=some (.pointer (some ⟨B,0,none⟩)):=(by rw[Lib.cell_of_heap hbk];rfl);have c1:w1.cell? ⟨B,1,none⟩=some v:=(by rw[Lib.cell_of_heap hbk];rfl);obtain ⟨A,cap0,hv⟩:∃A cap,v=.slice A bs.length cap:=by
  rcases aV.2 with ⟨h2,h0⟩|⟨g,cap,cur,fz,hv,_⟩
  ·exact ⟨none,0,by rw[h2,h0]⟩
  ·exact ⟨_,cap,hv⟩
 subst hv;have JB:B≤w1.heap.size:=(by have:=hb1.size;omega);have hlt:B<w1.heap.size:=by
  rcases Nat.lt_or_ge B w1.heap.size with h' | h'
  ·exact h'
  ·simp[Array.getElem?_eq_none h'] at hbk
 have Har:=aHH (zV B c hc _ bs w1 aV (by have:=Hbl.out;omega) JB);have HF:=aHH (And.intro hbk (And.intro hb1 hne));clear hbk aV hne hb1 hc Hck;go_wp2_with fail;refine Har.out.mono ?_;rintro e w2 ⟨v',rfl,mI,aFx,hb2⟩;have aB5:w2.heap[B]? = some (.cells #[.pointer (some ⟨B,0,none⟩),.slice A bs.length cap0] 94 (0,0)):=by
  rw[aFx B hlt (fun e=>HF.out.2.2 e.symm)];exact HF.out.1
 have d0:w2.cell? ⟨B,0,none⟩=some (.pointer (some ⟨B,0,none⟩)):=(by rw[Lib.cell_of_heap aB5];rfl);have d1:w2.cell? ⟨B,1,none⟩=some (.slice A bs.length cap0):=(by rw[Lib.cell_of_heap aB5];rfl);have f1:w2.frozen? ⟨B,1,none⟩=false:=Lib.frozen_of_heap aB5 1;obtain ⟨g,cap,rfl⟩:∃g cap,v'=.slice (some ⟨g,0,none⟩) (bs.length+1) cap:=by
  rcases mI.2 with ⟨_,h0⟩|⟨g,cap,cur,fz,hv,_⟩
  ·omega
  ·exact ⟨g,cap,hv⟩
 have YF:=Lib.BuilderAtF.put (T:=94) (e:=5) hB aB5 (bs':=bs++[.int .u8 (c.toNat:Int)]) (by simpa using mI) (by decide);have ZI:Below B w (w2.setCell ⟨B,1,none⟩ (.slice (some ⟨g,0,none⟩) (bs.length+1) cap)):=(HF.out.2.1.trans hb2).setCell (p:=⟨B,1,none⟩) hB _;have aBR:=aHH YF;have aBS:=aHH ZI;clear YF ZI mI aB5 aFx hb2 HF Har c0 c1
 go_wp2
 refine aIx (v:=?v) (by simp[results,Tryz.results318,go_sem];rfl) rfl ?_;exact ⟨⟨_,rfl⟩,by show Lib.IsBuilderF _ _ B B (Lib.byteCells (l++[c])) _;rw[Hbc.out];exact Or.inr aBR.out,aBS.out⟩
theorem zW (B:Nat) (l:List UInt8) (w:World) (h:Bui B l w) (hl:0<l.length) :
 Calls Tryz.prog 319 #[.pointer (some ⟨B,0,none⟩)] w fun e w'=>∃c:Nat,e=.returned (.int .i64 ((c+1:Nat):Int))∧w=w':=by
 have hbl:(Lib.byteCells l).length=l.length:=Lib.byteCells_length l;have key:∀p,Lib.BuilderAtF 94 5 B B p (Lib.byteCells l) w→∃g c:Nat,w.cell? ⟨B,1,none⟩=some (.slice (some ⟨g,0,none⟩) l.length (c+1)):=fun p h1=>by
  obtain ⟨hB,v,hbk,aV,hne⟩:=h1;rcases aV.2 with ⟨h2,h0⟩|⟨g,cap,cur,fz,hv,-,-,-,hn,-⟩
  ·omega
  ·subst hv;refine ⟨g,cap-1,?_⟩;rw[Lib.cell_of_heap hbk,hbl,show cap-1+1=cap by omega];rfl
 obtain ⟨g,c,c1⟩:∃g c:Nat,w.cell? ⟨B,1,none⟩=some (.slice (some ⟨g,0,none⟩) l.length (c+1)):=h.elim (key _) (key _);clear key h hbl
 go_in
 go_wp2_with fail;go_ret;exact ⟨c,rfl,rfl⟩
theorem KC (c:UInt8) (hc:c.toNat<128) (w:World):Calls Tryz.prog 317 #[.int .i32 (c.toNat:Int)] w fun e w'=>e=.returned (.int .i64 1)∧w=w':=by
 have h0:(0:Int)≤(c.toNat:Int):=(by omega);have h1:(c.toNat:Int)≤127:=(by omega);obtain ⟨cv,hcv⟩:=aH0 ((c.toNat:Int):Int);rw[←hcv] at h0 h1 ⊢;clear hcv hc
 go_in
 go_wp2_with fail;try simp only[Exit.inBlock,Exit.then]
 go_ret;exact ⟨rfl,rfl⟩
end Go.Proofs.YtllefinciimffaaGreatDoor
