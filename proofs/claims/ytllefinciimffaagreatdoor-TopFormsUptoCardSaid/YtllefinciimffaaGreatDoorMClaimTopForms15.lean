import Derived.Test.YtllefinciimffaaGreatDoorMClaimTopForms14
set_option maxHeartbeats 20000000
set_option maxRecDepth 100000
namespace Go.Proofs.YtllefinciimffaaGreatDoor
open Go.RowKit
theorem V8 {bs:List Bool} {W H:Nat} {is:Bool} {X Y BW BH:Int} (h:BoundsIs bs W H is X Y BW BH) (hl:bs.length=W*H):is=decide (true∈bs):=by
 rw[aCP h];unfold aGB;refine decide_eq_decide.2 ⟨fun h0 => ?_,fun hm => ?_⟩
 ·apply Classical.byContradiction;intro hn;have:(EI bs (W*H)).length=0:=nF.2 fun i hi=>by
   cases hb:bs.getD i false with
   |false=>rfl
   |true=>
    rw[aLx] at hb;cases hx:bs[i]? with
    |none=>rw[hx] at hb;cases hb
    |some v=>rw[hx] at hb;have hv:v=true:=hb;subst hv;exact absurd (List.mem_of_getElem? hx) hn
  omega
 ·obtain ⟨i,hi⟩:=List.getElem?_of_mem hm;have hlt:=(aLw.1 hi).1;rcases Nat.eq_zero_or_pos (EI bs (W*H)).length with h0|h0
  ·have:=nF.1 h0 i (by omega);rw[aLx,hi] at this;cases this
  ·exact h0
theorem yY (f:Frm) (a:Anc) (W H:Nat) (w:World) (hfW:f.W=(W:Int)) (hfH:f.H=(H:Int)) (hW:1≤W∧W≤4000) (hH:1≤H∧H≤4000) (hA:Reads w 1 a.A a.m (a.bs.map .bool)) :
 Calls Tryz.prog 106 #[f.val,a.val] w fun e w'=>e=.returned (.int .i64 (iM W H a))∧Bl w w':=by
 obtain ⟨nm,fW,fH,reach,dark,AL,ac,la,FL,fc,lf,RL,rc,lr⟩:=f;simp only at hfW hfH;subst hfW hfH;let w1:=((w).alloc (.cells #[nm,W,H,reach,dark,.slice AL la.length ac,.slice FL lf.length fc,.slice RL lr.length rc] 26)).alloc (.cells #[a.W,a.H,.slice a.A a.m a.c,a.X,a.Y] 85);obtain ⟨w1b,w11,w12⟩:=aLi (x:=w1) w _ _ _ _ rfl;have hbd:=uH a.W a.H a.A a.m a.c a.bs w1 (hA.bl w1b);have hbl:a.bs.length=a.m:=(by have:=hA.1;simpa using this);have Hbd:=aLa hbd;have Hbl:=aLa hbl;have k1:=w11.all8;have k2:=w12.all5;obtain ⟨AE,hAE⟩:=aLt (iM W H a);rw[←hAE];have HAE:=aLa hAE;unfold Frm.val Anc.val;clear hA hbd hbl hAE
 go_in
 go_wp2_with fail;refine Hbd.out.mono ?_;rintro e w2 ⟨X,Y,BW,BH,err,rfl,he1,he2,hb2⟩;have HE1:=aLa he1;have HE2:=aLa he2;clear he1 he2;obtain ⟨B1,B2,Hb2⟩:=aLb (w11.bl hb2) (w12.bl hb2) (w1b.trans hb2);have k1:=B1.out.all8;have k2:=B2.out.all5;clear hb2;by_cases hp:aD a.W a.H a.m=0
 ·obtain ⟨is,hbi,rfl⟩:=HE2.out hp;obtain ⟨W',H',q1,q2,q3,-,-,-⟩:=fG hp;have his:is=decide (true∈a.bs):=V8 hbi (by rw[Hbl.out,q3,q1,q2,aL8,aL8]);have aE6:iM W H a=if is=true then aF (!a.box.inP W H) 13 else 10:=by
   unfold iM;rw[hp,←his];cases is
   ·rfl
   ·cases hc:a.box.inP W H<;>rfl
  have Z0:=aLa (HAE.out.trans aE6);clear aE6 his hbi hp q1 q2 q3;cases is
  ·go_wp2_with fail;go_ret;exact ⟨by rw[Z0.out];rfl,Hb2.out.alloc _⟩
  ·have hbx:=fun wx=>oE a wx;unfold Anc.val Bx.val at hbx;have hin:=fun wx=>nB a.X a.Y a.W a.H W H wx hW hH;have Hbx:=aLa hbx;have Hin:=aLa hin;clear hbx hin;go_upto_region 4 with fail;obtain ⟨w3,hw3⟩:=aLt (w2.alloc (.cells #[X,Y,BW,BH] 58));have aBK:=aLn hw3;rw[←hw3];have k1:=(B1.out.bl aBK).all8;have k2:=(B2.out.bl aBK).all5;have Hb3:=aLa (Hb2.out.trans aBK);clear hw3 aBK;refine aLs [aLq 0,aLq 2,aLq 3,aLq 4,aLq 5,aLr 1,aLr 6,aLq 7] (by kernel_rfl) ?_
   iterate 5
    apply Flow.calm2 _ _ rfl rfl
    ·intro a b c d;obtain ⟨e,f⟩:=b.rule;go_simp;(try go_ints);exact d
    ·intro a b;simp only[sqA];exact b
   apply Flow.move rfl;go_wp2_with fail;refine (Hbx.out _).mono ?_;rintro e w4 ⟨rfl,HB1⟩;go_wp2_with fail;refine ⟨fun _=>(by first|exact HB1|exact Bl.refl _),?_⟩;apply Flow.move rfl;go_wp2_with fail;refine (Hin.out _).mono ?_;rintro e w5 ⟨rfl,HB2⟩;go_wp2_with fail;refine ⟨fun _=>(by first|exact HB2|exact Bl.refl _),?_⟩;apply Flow.asg _ rfl
   ·intro a b;simp only[sqA,Act.eval,sqC];exact b
   refine Flow.done ?_;go_wp2_with fail;go_ret;exact ⟨by rw[Z0.out];rfl,Hb3.out.trans ((Bl.ofDrew HB1).trans HB2)⟩
 ·obtain ⟨rfl,-⟩:=HE1.out hp;have hq:(aD a.W a.H a.m != 0)=true:=(by simp[hp]);have aE6:iM W H a=aD a.W a.H a.m:=by
   unfold iM;simp only[aG,if_neg hp]
  have Z0:=aLa (HAE.out.trans aE6);clear aE6 hp;go_wp2_with fail;go_ret;exact ⟨by rw[Z0.out];rfl,Hb2.out.alloc _⟩
theorem I8 {W H:Int} {l:List Bx} (h:∀b∈l,b.inP W H=true):gG W H l=0:=by
 unfold gG;have:(l.any fun b => !b.inP W H)=false:=by
  rw[List.any_eq_false];intro b hb;rw[h b hb];decide
 rw[this];rfl
theorem SE {W H:Int} {l:List Bx} {b:Bx} (hb:b∈l) (h:b.inP W H=false):gG W H l=13:=by
 unfold gG;have:(l.any fun b => !b.inP W H)=true:=aLP.2 ⟨b,hb,by rw[h];rfl⟩;rw[this];rfl
theorem aEv (a b:Bx) (w:World):(binOp .neq 58 (.agg #[a.X,a.Y,a.W,a.H]) (.agg #[b.X,b.Y,b.W,b.H])).run Tryz.prog w=.ok (.bool (!decide (a=b))) w:=by
 obtain ⟨a1,a2,a3,a4⟩:=a;obtain ⟨b1,b2,b3,b4⟩:=b;have key:decide ((⟨a1,a2,a3,a4⟩:Bx)=⟨b1,b2,b3,b4⟩)=((a1==b1)&&((a2==b2)&&((a3==b3)&&(a4==b4)))):=by
  rw[Bool.eq_iff_iff];simp[Bx.mk.injEq]
 rw[key];have un:=Tryz.underlying3;have ag:=Tryz.isAgg3;have sz:=Tryz.sizeOf3;rw[run_neq_struct,show (10000:Nat)=9999+1 from rfl,run_equalIn_agg w 9999 _ _ _ (by kernel_rfl) (by kernel_rfl)];simp only[Program.fieldsOf,Tryz.underlying58];cases h1:(a1==b1)<;>cases h2:(a2==b2)<;>cases h3:(a3==b3)<;>cases h4:(a4==b4)<;>go_simp
def dX (x:Fld):Int:=aG [aF (!inB x.most 0 1000) 3,aF (!decide (x.kind=1)&&!decide (x.most=0)) 2]
theorem I9 {W H:Int} {tw:Bool} {x:Fld} (h1:dA x.name=true) (h2:tw=false) (h3:inB x.kind 1 4=true) (h4:(if bL x.kind then aF (!decide (x.box=Bx.zero)) 2 else aF (!x.box.inP W H) 13)=0) (h5:bL x.kind=decide (0<x.marks.length)) (h6:¬20<x.marks.length) (h7:gG W H x.marks=0):qP W H tw x=dX x:=by
 unfold qP dX;rw[h1,h2,h3,h4,h5,aLW h6,h7];simp only[aG,aF,Bool.not_true,bne_self_eq_false,Bool.false_eq_true,if_false,if_true]
theorem SF {W H:Int} {tw:Bool} {x:Fld} (h1:dA x.name=true) (h2:tw=false) (h3:inB x.kind 1 4=true) (h4:(if bL x.kind then aF (!decide (x.box=Bx.zero)) 2 else aF (!x.box.inP W H) 13)=0) (h5:bL x.kind=decide (0<x.marks.length)) (h6:¬20<x.marks.length) (h7:gG W H x.marks=13):qP W H tw x=13:=by
 unfold qP;rw[h1,h2,h3,h4,h5,aLW h6,h7];simp only[aG,aF,Bool.not_true,bne_self_eq_false,Bool.false_eq_true,if_false,if_true];rfl
theorem BG (f:Frm) (x:Fld) (tw:Bool) (W H:Nat) (w:World) (hfW:f.W=(W:Int)) (hfH:f.H=(H:Int)) (hW:1≤W∧W≤4000) (hH:1≤H∧H≤4000) (hM:BxsAt w x.M x.marks) (hnm:x.name.length≤9223372036854775807) (hml:x.marks.length≤9223372036854775807) :
 Calls Tryz.prog 108 #[f.val,x.val,.bool tw] w fun e w'=>e=.returned (.int .i64 (qP W H tw x))∧Bl w w':=by
 obtain ⟨nm,fW,fH,reach,dark,AL,ac,la,FL,fc,lf,RL,rc,lr⟩:=f;simp only at hfW hfH;subst hfW hfH;obtain ⟨FE,hFE⟩:=aLt (qP W H tw x);rw[←hFE];have HFE:=aLa hFE;let w1:=((w).alloc (.cells #[nm,W,H,reach,dark,.slice AL la.length ac,.slice FL lf.length fc,.slice RL lr.length rc] 26)).alloc (.cells #[x.name,x.kind,x.box.X,x.box.Y,x.box.W,x.box.H,.slice x.M x.marks.length x.mc,x.most,.bool x.needed] 61);obtain ⟨w1b,w11,w12⟩:=aLi (x:=w1) w _ _ _ _ rfl;have HM:=aLa (hM.bl w1b);have hin:=fun wx=>qJ ⟨x.name.toArray⟩ wx (by rw[Lib.size_mk];exact hnm);have hip:=fun wx=>nB x.box.X x.box.Y x.box.W x.box.H W H wx hW hH;have him:=fun (b:Bx) wx=>nB b.X b.Y b.W b.H W H wx hW hH;obtain ⟨Hin,Hip,Him⟩:=aLb hin hip him;have k1:=w11.all8;have k2:=w12.all9;unfold Frm.val Fld.val;clear hM hin hip him hFE
 go_in
 go_wp2_with fail;refine (mF _ _).mono ?_;rintro e w' ⟨rfl,rfl⟩;go_wp2_with fail;refine (Hin.out _).mono ?_;rintro e w2 ⟨rfl,hb2⟩;obtain ⟨B1,B2,Hb2,aCs⟩:=aLc (w11.bl hb2) (w12.bl hb2) (w1b.trans hb2) hb2;have k1:=B1.out.all8;have k2:=B2.out.all9;clear hb2;obtain ⟨mk,hmk⟩:=aLt (bL x.kind);rw[←hmk];have Hmk:=aLa hmk;clear hmk;cases hN:dA x.name with
 |false=>have HX:=aLa (show qP W H tw x=5 by unfold qP;rw[hN];rfl);clear hN;go_wp2_with fail;go_ret;exact ⟨by rw[HFE.out,HX.out];rfl,Hb2.out⟩
 |true=>
 have HNm:=aLa hN;clear hN;cases tw with
 |true=>have HX:=aLa (show qP W H true x=6 by unfold qP;rw[HNm.out];rfl);go_wp2_with fail;go_ret;exact ⟨by rw[HFE.out,HX.out];rfl,Hb2.out⟩
 |false=>
 by_cases hk1:x.kind<1
 ·have HX:=aLa (show qP W H false x=1 by unfold qP;rw[HNm.out,dC.2 (.inl hk1)];rfl);go_wp2_with fail;go_ret;exact ⟨by rw[HFE.out,HX.out];rfl,Hb2.out⟩
 by_cases hk4:4<x.kind
 ·have HX:=aLa (show qP W H false x=1 by unfold qP;rw[HNm.out,dC.2 (.inr hk4)];rfl);go_wp2_with fail;go_ret;exact ⟨by rw[HFE.out,HX.out];rfl,Hb2.out⟩
 have HK:=aLa (aR.2 (show 1≤x.kind∧x.kind≤4 by omega));go_upto_region 8 with fail;cases mk with
 |false=>
  cases hip:x.box.inP W H with
  |false=>have HX:=aLa (show qP W H false x=13 by unfold qP;rw[HNm.out,HK.out,←Hmk.out,hip];rfl);have aG0:=aLa (show eX x.box.X x.box.Y x.box.W x.box.H W H=false from hip);clear hip;go_wp2_with fail;refine (Hip.out _).mono ?_;rintro e w3 ⟨rfl,hb3⟩;rw[aG0.out];go_wp2_with fail;go_ret;exact ⟨by rw[HFE.out,HX.out];rfl,Hb2.out.trans hb3⟩
  |true=>
   have aG0:=aLa (show eX x.box.X x.box.Y x.box.W x.box.H W H=true from hip);have H4:=aLa (show (if bL x.kind then aF (!decide (x.box=Bx.zero)) 2 else aF (!x.box.inP W H) 13)=0 by rw[←Hmk.out,hip];rfl);clear hip;go_wp2_with fail;refine (Hip.out _).mono ?_;rintro e w3 ⟨rfl,hb3⟩;rw[aG0.out];obtain ⟨HX1,HX2,HW,Hb3⟩:=aLc (B1.out.bl hb3) (B2.out.bl hb3) (aCs.out.trans hb3) (Hb2.out.trans hb3);have k1:=HX1.out.all8;have k2:=HX2.out.all9;clear hb3;go_upto_region 10 with fail;by_cases hl0:0<x.marks.length
   ·have aG1:0<(x.marks.length:Int):=(by omega);have HX:=aLa (show qP W H false x=2 by unfold qP;rw[HNm.out,HK.out,H4.out,←Hmk.out,aLX hl0];rfl);go_wp2_with fail;go_ret;exact ⟨by rw[HFE.out,HX.out];rfl,Hb3.out⟩
   ·have aG1:¬0<(x.marks.length:Int):=(by omega);have H5:=aLa (show bL x.kind=decide (0<x.marks.length) by rw[←Hmk.out,aLW hl0]);by_cases h20:20<x.marks.length
    ·exact absurd h20 (by omega)
    ·have aF2:¬20<(x.marks.length:Int):=(by omega);have H20:=aLa h20;clear h20;go_wp2_with fail;go_loopw [65] (fun v wr=>∃i:Nat,i≤x.marks.length∧v=.int .i64 i∧Bl w3 wr∧∀j b,j<i→x.marks[j]? = some b→b.inP W H=true) (fun v _=>x.marks.length-(RowKit.intOf v).toNat);case atStart=>exact ⟨0,Nat.zero_le _,rfl,Bl.refl _,fun j b hj=>absurd hj (Nat.not_lt_zero _)⟩
     case round=>
      obtain ⟨i,hi,rfl,hbr,gA⟩:=hrel;have CA:=aLa gA;have Hbr:=aLa hbr;have k1:=(HX1.out.bl hbr).all8;have k2:=(HX2.out.bl hbr).all9;clear gA hbr;by_cases hlt:i<x.marks.length
      ·exact absurd hlt (by omega)
      ·obtain rfl:i=x.marks.length:=(by omega);have hpl:gG W H x.marks=0:=I8 fun b hb=>by
        obtain ⟨j,hj⟩:=List.getElem?_of_mem hb;exact CA.out j b (aLw.1 hj).1 hj
       have HT:=aLa (HFE.out.trans (I9 (tw:=false) HNm.out rfl HK.out H4.out H5.out H20.out hpl));clear hpl;by_cases m0:x.most<0
       ·have HX:=aLa (show dX x=3 by unfold dX;rw[dC.2 (.inl m0)];rfl);go_wp2_with fail;go_ret;exact ⟨by rw[HT.out,HX.out];rfl,(Hb3.out).trans Hbr.out⟩
       by_cases m1:1000<x.most
       ·have HX:=aLa (show dX x=3 by unfold dX;rw[dC.2 (.inr m1)];rfl);go_wp2_with fail;go_ret;exact ⟨by rw[HT.out,HX.out];rfl,(Hb3.out).trans Hbr.out⟩
       have hmi:=aR.2 (show 0≤x.most∧x.most≤1000 by omega);by_cases c1:x.kind=1
       ·have HX:=aLa (show dX x=0 by unfold dX;rw[hmi,aLX c1];rfl);have q1:(x.kind != 1)=false:=(by simp[c1]);clear hmi c1;go_wp2_with fail;go_ret;exact ⟨by rw[HT.out,HX.out];rfl,(Hb3.out).trans Hbr.out⟩
       have q1:(x.kind != 1)=true:=(by simp[c1]);by_cases c2:x.most=0
       ·have HX:=aLa (show dX x=0 by unfold dX;rw[hmi,aLW c1,aLX c2];rfl);have q2:(x.most != 0)=false:=(by simp[c2]);clear hmi c1 c2;go_wp2_with fail;go_ret;exact ⟨by rw[HT.out,HX.out];rfl,(Hb3.out).trans Hbr.out⟩
       ·have HX:=aLa (show dX x=2 by unfold dX;rw[hmi,aLW c1,aLW c2];rfl);have q2:(x.most != 0)=true:=(by simp[c2]);clear hmi c1 c2;go_wp2_with fail;go_ret;exact ⟨by rw[HT.out,HX.out];rfl,(Hb3.out).trans Hbr.out⟩
 |true=>
  have aDO:=fun w'=>aEv x.box ⟨0,0,0,0⟩ w';by_cases hz:x.box=⟨0,0,0,0⟩
  ·rw[aLX hz] at aDO;have hne:=aDO;simp only[Bool.not_true] at hne;clear aDO;obtain ⟨H4,HX1,HX2,HW⟩:=aLc (show (if bL x.kind then aF (!decide (x.box=Bx.zero)) 2 else aF (!x.box.inP W H) 13)=0 by rw[←Hmk.out,if_pos rfl,aLX (show x.box=Bx.zero from hz)];rfl) B1.out B2.out aCs.out;clear hz;go_upto_region 10 with fail;by_cases hl0:0<x.marks.length
   ·have aG1:0<(x.marks.length:Int):=(by omega);have H5:=aLa (show bL x.kind=decide (0<x.marks.length) by rw[←Hmk.out,aLX hl0]);by_cases h20:20<x.marks.length
    ·have aF2:20<(x.marks.length:Int):=(by omega);have HX:=aLa (show qP W H false x=4 by unfold qP;rw[HNm.out,HK.out,H4.out,H5.out,aLX h20];simp[aG,aF]);go_wp2_with fail;go_ret;exact ⟨by rw[HFE.out,HX.out];rfl,Hb2.out⟩
    ·have aF2:¬20<(x.marks.length:Int):=(by omega);have H20:=aLa h20;clear h20;go_wp2_with fail;go_loopw [65] (fun v wr=>∃i:Nat,i≤x.marks.length∧v=.int .i64 i∧Bl w2 wr∧∀j b,j<i→x.marks[j]? = some b→b.inP W H=true) (fun v _=>x.marks.length-(RowKit.intOf v).toNat);case atStart=>exact ⟨0,Nat.zero_le _,rfl,Bl.refl _,fun j b hj=>absurd hj (Nat.not_lt_zero _)⟩
     case round=>
      obtain ⟨i,hi,rfl,hbr,gA⟩:=hrel;have CA:=aLa gA;have Hbr:=aLa hbr;have k1:=(HX1.out.bl hbr).all8;have k2:=(HX2.out.bl hbr).all9;clear gA hbr;by_cases hlt:i<x.marks.length
      ·have hg:x.marks[i]? = some x.marks[i]:=aLv hlt;obtain ⟨b,hb⟩:=aLt (x.marks[i]);rw[←hb] at hg;obtain ⟨ad,e1,j1,j2,j3,j4⟩:=BxsAt.at_ ((HM.out.bl HW.out).bl Hbr.out) hg;have HG:=aLa hg;clear hg hb;rw[e1] at k2 ⊢;go_upto_region 18 with fail;obtain ⟨w4,hw4⟩:=aLt (wr.alloc (.cells #[.int .i64 b.X,.int .i64 b.Y,.int .i64 b.W,.int .i64 b.H] 58));have b4:=aLo hw4;have hb4:=aLn hw4;rw[←hw4];have k3:=b4.all4;have k1:=(HX1.out.bl (Hbr.out.trans hb4)).all8;have Hb4:=aLa hb4;clear hw4 b4 j1 j2 j3 j4 hb4;go_wp2_with fail;refine (Him.out b _).mono ?_;rintro e w5 ⟨rfl,hb5⟩;have Hb5:=aLa (Hbr.out.trans (Hb4.out.trans hb5));clear hb5 k3;cases hip:b.inP W H with
       |false=>have HX:=aLa (SF (tw:=false) HNm.out rfl HK.out H4.out H5.out H20.out (SE (List.mem_of_getElem? HG.out) hip));rw[show eX b.X b.Y b.W b.H W H=false from hip];clear hip;go_wp2_with fail;go_ret;exact ⟨by rw[HFE.out,HX.out];rfl,(Hb2.out).trans Hb5.out⟩
       |true=>
        have Hi:=aLa hip;rw[show eX b.X b.Y b.W b.H W H=true from hip];clear hip;go_wp2_with fail;exact ⟨⟨i+1,hlt,by go_num,Hb5.out,fun j b' hj hb'=>by
         rcases Nat.lt_succ_iff_lt_or_eq.1 hj with h|rfl
         ·exact CA.out j b' h hb'
         ·rw[HG.out] at hb';obtain rfl:=aLZ hb';exact Hi.out⟩,by simp[RowKit.intOf];omega⟩
      ·obtain rfl:i=x.marks.length:=(by omega);have hpl:gG W H x.marks=0:=I8 fun b hb=>by
        obtain ⟨j,hj⟩:=List.getElem?_of_mem hb;exact CA.out j b (aLw.1 hj).1 hj
       have HT:=aLa (HFE.out.trans (I9 (tw:=false) HNm.out rfl HK.out H4.out H5.out H20.out hpl));clear hpl;by_cases m0:x.most<0
       ·have HX:=aLa (show dX x=3 by unfold dX;rw[dC.2 (.inl m0)];rfl);go_wp2_with fail;go_ret;exact ⟨by rw[HT.out,HX.out];rfl,(Hb2.out).trans Hbr.out⟩
       by_cases m1:1000<x.most
       ·have HX:=aLa (show dX x=3 by unfold dX;rw[dC.2 (.inr m1)];rfl);go_wp2_with fail;go_ret;exact ⟨by rw[HT.out,HX.out];rfl,(Hb2.out).trans Hbr.out⟩
       have hmi:=aR.2 (show 0≤x.most∧x.most≤1000 by omega);by_cases c1:x.kind=1
       ·have HX:=aLa (show dX x=0 by unfold dX;rw[hmi,aLX c1];rfl);have q1:(x.kind != 1)=false:=(by simp[c1]);clear hmi c1;go_wp2_with fail;go_ret;exact ⟨by rw[HT.out,HX.out];rfl,(Hb2.out).trans Hbr.out⟩
       have q1:(x.kind != 1)=true:=(by simp[c1]);by_cases c2:x.most=0
       ·have HX:=aLa (show dX x=0 by unfold dX;rw[hmi,aLW c1,aLX c2];rfl);have q2:(x.most != 0)=false:=(by simp[c2]);clear hmi c1 c2;go_wp2_with fail;go_ret;exact ⟨by rw[HT.out,HX.out];rfl,(Hb2.out).trans Hbr.out⟩
       ·have HX:=aLa (show dX x=2 by unfold dX;rw[hmi,aLW c1,aLW c2];rfl);have q2:(x.most != 0)=true:=(by simp[c2]);clear hmi c1 c2;go_wp2_with fail;go_ret;exact ⟨by rw[HT.out,HX.out];rfl,(Hb2.out).trans Hbr.out⟩
   ·have aG1:¬0<(x.marks.length:Int):=(by omega);have HX:=aLa (show qP W H false x=2 by unfold qP;rw[HNm.out,HK.out,H4.out,←Hmk.out,aLW hl0];rfl);go_wp2_with fail;go_ret;exact ⟨by rw[HFE.out,HX.out];rfl,Hb2.out⟩
  ·rw[aLW hz] at aDO;have hne:=aDO;simp only[Bool.not_false] at hne;clear aDO;have HX:=aLa (show qP W H false x=2 by unfold qP;rw[HNm.out,HK.out,←Hmk.out,if_pos rfl,aLW (show ¬x.box=Bx.zero from hz)];rfl);clear hz;go_wp2_with fail;go_ret;exact ⟨by rw[HFE.out,HX.out];rfl,Hb2.out⟩
structure Fits (f:Frm) (W H r:Nat):Prop where
 fW:f.W=(W:Int)
 fH:f.H=(H:Int)
 fr:f.reach=(r:Int)
 hW:1≤W∧W≤4000
 hH:1≤H∧H≤4000
 hWH:W*H≤1048576
 hr:r≤40
 hla:f.la.length≤10
 anc:∀a∈f.la,iM W H a=0
theorem Fits.at_ {f:Frm} {W H r:Nat} (h:Fits f W H r) {a:Anc} (ha:a∈f.la):∃BW BH:Nat,a.W=(BW:Int)∧a.H=(BH:Int)∧a.m=BW*BH∧a.box.inP f.W f.H=true∧1≤BW*BH∧BW*BH≤1048576∧BW≤4000∧BH≤4000:=by
 obtain ⟨h1,-,h3⟩:=yX (h.anc a ha);have hs:aE a.W a.H=0:=by
  apply Classical.byContradiction;intro hne;unfold aD at h1;rw[if_neg hne] at h1;exact hne h1
 have hz:=aL hs;obtain ⟨BW,BH,q1,q2,q3,-,-,-⟩:=fG h1;rw[q1,q2] at hz;have e:=aL9 BW BH;refine ⟨BW,BH,q1,q2,q3,by rw[h.fW,h.fH];exact h3,Nat.mul_pos (by omega) (by omega),by omega,by omega,by omega⟩
end Go.Proofs.YtllefinciimffaaGreatDoor
namespace Go.Proofs.YtllefinciimffaaGreatDoor
def ZV (f:Frm) (cs:List Bool):List Int:=f.la.map fun a=>(dM f cs a).1
def ZW (f:Frm) (cs:List Bool):List Int:=f.la.map fun a=>(dM f cs a).2.1
def uC (l:List Int):Int:=(nE l).getD ((l.length-1) / 2) 0
theorem V9 {l:List Int} {m:Int} (hm:0≤m) (h:∀x∈l,-m≤x∧x≤m):-m≤uC l∧uC l≤m:=by
 unfold uC;rw[aLx];cases hg:(nE l)[(l.length-1) / 2]? with
 |none=>exact ⟨by show -m≤0;omega,hm⟩
 |some x=>exact h x (IC.1 (List.mem_of_getElem? hg))
theorem WA {f:Frm} {cs:List Bool} {W H r:Nat} (h:Fits f W H r):-40≤uC (ZV f cs)∧uC (ZV f cs)≤40:=
 V9 (m:=40) (by decide) fun x hx=>by
  obtain ⟨a,ha,rfl⟩:=aMf.1 hx;obtain ⟨BW,BH,-,-,-,q,-⟩:=h.at_ ha;exact (I7 q (by rw[h.fr];exact h.hr)).2.2.1
theorem WB {f:Frm} {cs:List Bool} {W H r:Nat} (h:Fits f W H r):-40≤uC (ZW f cs)∧uC (ZW f cs)≤40:=
 V9 (m:=40) (by decide) fun x hx=>by
  obtain ⟨a,ha,rfl⟩:=aMf.1 hx;obtain ⟨BW,BH,-,-,-,q,-⟩:=h.at_ ha;exact (I7 q (by rw[h.fr];exact h.hr)).2.2.2
theorem WC {l:List Int} (h:0<l.length):(nE l)[(l.length-1) / 2]? = some (uC l):=by
 have hlt:(l.length-1) / 2<(nE l).length:=(by rw[yF];omega);unfold uC;rw[aLx,aLv hlt];rfl
theorem FK:uC []=0:=by simp[uC,nE]
def cO (W H : Nat) (la : List Anc) : Nat → List Bool
 |0=>List.replicate (W*H) false
 |i+1=>match la[i]? with
  |none=>cO W H la i
  |some a=>eS W H (fZ (cO W H la i) a.bs W H a.W.toNat a.H.toNat a.X a.Y)
theorem wG {W H:Nat} {la:List Anc} {i:Nat} {a:Anc} {BW BH:Nat} (h:la[i]? = some a) (hW:a.W=(BW:Int)) (hH:a.H=(BH:Int)):cO W H la (i+1)=eS W H (fZ (cO W H la i) a.bs W H BW BH a.X a.Y):=by
 show (match la[i]? with|none=>_|some a=>_)=_;rw[h];simp only[hW,hH,aL8]
def rL (f:Frm) (cs:List Bool):List Bool:=eS f.W.toNat f.H.toNat (CQ cs f.W.toNat f.H.toNat (-(uC (ZV f cs))) (-(uC (ZW f cs))))
theorem wH (cs:List Bool) (W H:Nat) (x y:Int) (u v:Nat) (hu:u<W) (hv:v<H):fZ (List.replicate (W*H) false) cs W H W H x y u v=CQ cs W H x y u v:=by
 have hp:pix (List.replicate (W*H) false) W u v=false:=by
  unfold pix;rw[aLx,List.getElem?_replicate];split<;>rfl
 cases ha:gD W H W H x y with
 |true=>
  rw[vO hp ha];unfold CQ;cases hc:atI cs W H ((u:Int)-x) ((v:Int)-y) with
  |false=>rfl
  |true=>
   exfalso;have h:0≤(u:Int)-x∧(u:Int)-x<W∧0≤(v:Int)-y∧(v:Int)-y<H:=by
    apply Classical.byContradiction;intro hn;rw[uG _ _ _ _ _ hn] at hc;cases hc
   unfold gD at ha;simp at ha;omega
 |false=>rw[G3 hp ha];rfl
end Go.Proofs.YtllefinciimffaaGreatDoor
