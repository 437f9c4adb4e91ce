import Derived.Test.YtllefinciimffaaGreatDoorMClaimFields31
import Derived.Test.YtllefinciimffaaGreatDoorMClaimFields27
import Derived.Test.YtllefinciimffaaGreatDoorMClaimFields26
set_option maxHeartbeats 20000000
set_option maxRecDepth 100000
namespace Go.Proofs.YtllefinciimffaaGreatDoor
open Go.RowKit Go.Shelf
def iW (W H bW bH:Int) (n:Nat):Int:=if aF bW bH n=0 then aE (!decide (bW=W)||!decide (bH=H)) 11 else aF bW bH n
def mH (f:Frm) (bW bH:Int) (n:Nat):Int:=if f.err=0 then iW f.W f.H bW bH n else f.err
theorem XX {W H bW bH:Int} {n:Nat} (h:iW W H bW bH n=0):bW=W∧bH=H∧aF bW bH n=0:=by
 unfold iW at h;by_cases h0:aF bW bH n=0
 ·rw[if_pos h0] at h;have:=D0 (by decide) h;simp at this;exact ⟨this.1,this.2,h0⟩
 ·rw[if_neg h0] at h;exact absurd h h0
theorem EF {f:Frm} {bW bH:Int} {n:Nat} (h:mH f bW bH n=0):f.err=0∧∃W H r,Fits f W H r∧bW=(W:Int)∧bH=(H:Int)∧n=W*H:=by
 unfold mH at h;by_cases h0:f.err=0
 ·rw[if_pos h0] at h;obtain ⟨e1,e2,e3⟩:=XX h;obtain ⟨W,H,r,dW⟩:=KU h0;rw[e1,e2,dW.fW,dW.fH] at e3;obtain ⟨-,hn⟩:=fU e3;refine ⟨h0,W,H,r,dW,e1.trans dW.fW,e2.trans dW.fH,?_⟩;have:=aIG W H;omega
 ·rw[if_neg h0] at h;exact absurd h h0
theorem EG (f:Frm) (bW bH:Int) (C:Option Addr) (n cc:Nat) (w:World) :
 Calls Tryz.prog 80 #[f.val,.agg #[bW,bH,.slice C n cc]] w fun e w'=>e=.returned (.int .i64 (iW f.W f.H bW bH n))∧Bl w w':=by
 obtain ⟨nm,fW,fH,reach,dark,AL,ac,la,FL,fc,lf,RL,rc,lr⟩:=f;show Calls _ _ _ w fun e w'=>e=.returned (.int .i64 (iW fW fH bW bH n))∧Bl w w';obtain ⟨E,hE⟩:=aH0 (iW fW fH bW bH n);rw[←hE];let w1:=((w).alloc (.cells #[nm,fW,fH,reach,dark,.slice AL la.length ac,.slice FL lf.length fc,.slice RL lr.length rc] 26)).alloc (.cells #[bW,bH,.slice C n cc] 43);obtain ⟨w1b,w11,w12⟩:=aHP (x:=w1) w _ _ _ _ rfl;have k1:=w11.all8;have k2:=w12.all3;have dM:=aHH w1b;have Hck:=aHH (fun wx=>cQ bW bH C n cc wx);obtain ⟨PE,hPE⟩:=aH0 (aF bW bH n);rw[←hPE] at Hck;have HE:=aHH (show E=if PE=0 then aE (!decide (bW=fW)||!decide (bH=fH)) 11 else PE by rw[hE,hPE];rfl);unfold Frm.val;clear w1b hE hPE
 go_in
 go_upto_region 1 with fail;rw[show (w.alloc (.cells #[nm,fW,fH,reach,dark,.slice AL la.length ac,.slice FL lf.length fc,.slice RL lr.length rc] 26)).alloc (.cells #[bW,bH,.slice C n cc] 43)=w1 from rfl];clear_value w1;go_upto_region 2 with (go_at_call 101;refine (Hck.out _).mono ?_;rintro e w2 ⟨rfl,hb2⟩);have k1:=(w11.bl hb2).all8;have k2:=(w12.bl hb2).all3;have Hb2:=aHH (dM.out.trans hb2);clear hb2;by_cases hz:PE=0
 ·have q:(PE != 0)=false:=(by simp[hz]);have HE2:=aHH (show E=aE (!decide (bW=fW)||!decide (bH=fH)) 11 by rw[HE.out,if_pos hz]);clear hz;by_cases c1:bW=fW
  ·have q1:(bW != fW)=false:=(by simp[c1]);by_cases c2:bH=fH
   ·have q2:(bH != fH)=false:=(by simp[c2]);have HX:=aHH (show E=0 by rw[HE2.out,aIu c1,aIu c2];rfl);clear c1 c2;go_wp2_with fail;go_ret;exact ⟨by rw[HX.out]<;>rfl,Hb2.out⟩
   ·have q2:(bH != fH)=true:=(by simp[c2]);have HX:=aHH (show E=11 by rw[HE2.out,aIu c1,aIt c2];rfl);clear c1 c2;go_wp2_with fail;go_ret;exact ⟨by rw[HX.out]<;>rfl,Hb2.out⟩
  ·have q1:(bW != fW)=true:=(by simp[c1]);have HX:=aHH (show E=11 by rw[HE2.out,aIt c1];rfl);clear c1;go_wp2_with fail;go_ret;exact ⟨by rw[HX.out]<;>rfl,Hb2.out⟩
 ·have q:(PE != 0)=true:=(by simp[hz]);have HX:=aHH (show E=PE by rw[HE.out,if_neg hz]);clear hz;go_wp2_with fail;go_ret;exact ⟨by rw[HX.out]<;>rfl,Hb2.out⟩
theorem sI (f:Frm) (bW bH:Int) (C:Option Addr) (n cc:Nat) (w:World) (hF:FrmAt w f) (hS:f.small 1048576) (hN:NumOk w) (hC:SplitOk w) :
 Calls Tryz.prog 74 #[f.val,.agg #[bW,bH,.slice C n cc]] w fun e w'=>e=.returned (.int .i64 (mH f bW bH n))∧Bl w w':=by
 have hck:=fun wx hF hN hC=>mZ f wx hF hS hN hC;have hfi:=fun wx=>EG f bW bH C n cc wx;obtain ⟨E,hE⟩:=aH0 (mH f bW bH n);rw[←hE];obtain ⟨FE,hFE⟩:=aH0 f.err;obtain ⟨PE,hPE⟩:=aH0 (iW f.W f.H bW bH n);rw[←hFE] at hck;rw[←hPE] at hfi;have HE:=aHH (show E=if FE=0 then PE else FE by rw[hE,hFE,hPE];rfl);obtain ⟨nm,fW,fH,reach,dark,AL,ac,la,FL,fc,lf,RL,rc,lr⟩:=f;let w1:=((w).alloc (.cells #[nm,fW,fH,reach,dark,.slice AL la.length ac,.slice FL lf.length fc,.slice RL lr.length rc] 26)).alloc (.cells #[bW,bH,.slice C n cc] 43);obtain ⟨w1b,w11,w12⟩:=aHP (x:=w1) w _ _ _ _ rfl;unfold Frm.val at hck hfi;have k1:=w11.all8;have k2:=w12.all3;obtain ⟨dM,Hck,Hfi⟩:=aHI w1b (hck w1 (hF.bl w1b) (hN.bl w1b) (hC.bl w1b)) hfi;unfold Frm.val;clear w1b hE hPE hFE hck hfi hF hN hC hS
 go_in
 go_upto_region 1 with fail;rw[show (w.alloc (.cells #[nm,fW,fH,reach,dark,.slice AL la.length ac,.slice FL lf.length fc,.slice RL lr.length rc] 26)).alloc (.cells #[bW,bH,.slice C n cc] 43)=w1 from rfl];clear_value w1;go_upto_region 2 with (go_at_call 39;refine Hck.out.mono ?_;rintro e w2 ⟨rfl,hb2⟩);have k1:=(w11.bl hb2).all8;have k2:=(w12.bl hb2).all3;have Hb2:=aHH (dM.out.trans hb2);clear hb2;by_cases hz:FE=0
 ·have q:(FE != 0)=false:=(by simp[hz]);have HX:=aHH (show E=PE by rw[HE.out,if_pos hz]);clear hz;go_wp2_with (go_at_call 80;refine (Hfi.out _).mono ?_;rintro e w3 ⟨rfl,hb3⟩);go_ret;exact ⟨by rw[HX.out]<;>rfl,Hb2.out.trans hb3⟩
 ·have q:(FE != 0)=true:=(by simp[hz]);have HX:=aHH (show E=FE by rw[HE.out,if_neg hz]);clear hz;go_wp2_with fail;go_ret;exact ⟨by rw[HX.out]<;>rfl,Hb2.out⟩
theorem IR (f:Frm) (bW bH:Int) (C:Option Addr) (n cc:Nat) (w:World) :
 Calls Tryz.prog 18 #[f.val,.agg #[bW,bH,.slice C n cc]] w fun e w'=>e=.returned (.int .i64 (iW f.W f.H bW bH n))∧Bl w w':=by
 obtain ⟨nm,fW,fH,reach,dark,AL,ac,la,FL,fc,lf,RL,rc,lr⟩:=f;show Calls _ _ _ w fun e w'=>e=.returned (.int .i64 (iW fW fH bW bH n))∧Bl w w';obtain ⟨E,hE⟩:=aH0 (iW fW fH bW bH n);rw[←hE];let w1:=((w).alloc (.cells #[nm,fW,fH,reach,dark,.slice AL la.length ac,.slice FL lf.length fc,.slice RL lr.length rc] 26)).alloc (.cells #[bW,bH,.slice C n cc] 43);obtain ⟨w1b,w11,w12⟩:=aHP (x:=w1) w _ _ _ _ rfl;have k1:=w11.all8;have k2:=w12.all3;have dM:=aHH w1b;have Hck:=aHH (fun wx=>nE bW bH C n cc wx);obtain ⟨PE,hPE⟩:=aH0 (aF bW bH n);rw[←hPE] at Hck;have HE:=aHH (show E=aB [PE,aE (!decide (bW=fW)||!decide (bH=fH)) 11] by
  rw[hE,hPE];unfold iW;rw[G5])
 unfold Frm.val;clear w1b hE hPE
 go_in
 go_upto_region 1 with fail;rw[show (w.alloc (.cells #[nm,fW,fH,reach,dark,.slice AL la.length ac,.slice FL lf.length fc,.slice RL lr.length rc] 26)).alloc (.cells #[bW,bH,.slice C n cc] 43)=w1 from rfl];clear_value w1;obtain ⟨d1,hd1⟩:=aH0 ((bW != fW));obtain ⟨d2,hd2⟩:=aH0 ((bH != fH));have HD:=aHH (show (!decide (bW=fW)||!decide (bH=fH))=(d1||d2) by rw[hd1,hd2];by_cases c1:bW=fW<;>by_cases c2:bH=fH<;>simp[c1,c2]);have hd1':=hd1.symm;have hd2':=hd2.symm;clear hd1 hd2;cases d1 with
 |true=>
  have HX:=aHH (show E=aB [PE,aE true 11] by rw[HE.out,HD.out];rfl);refine aHZ [aHX 0,aHX 2,aHX 3,aHX 4,aHX 5,aHX 6,aHY 1,aHX 7,aHX 8,aHX 9,aHX 10,aHX 11,aHX 12,aHX 13,aHY 14,aHY 15,aHY 16,aHX 17] (by kernel_rfl) ?_
  iterate 6
   apply Flow.calm2 _ _ rfl rfl
   ·intro a b c d;obtain ⟨e,f⟩:=b.rule;go_simp;(try go_ints);exact d
   ·intro a b;simp only[sqA];exact b
  apply Flow.move rfl;go_wp2_with fail;refine (Hck.out _).mono ?_;rintro e w2 ⟨rfl,HB1⟩;have k1:=(w11.bl ((Bl.refl _).drew.trans HB1)).all8;have k2:=(w12.bl ((Bl.refl _).drew.trans HB1)).all3;go_wp2_with fail;refine ⟨fun _=>(by first|exact HB1|exact Bl.refl _),?_⟩;apply Flow.mv _ rfl
  ·intro a b;simp only[sqA,Act.eval,sqC];exact b
  iterate 5
   first
    | (apply Flow.pass rfl (by rfl))
    | (apply Flow.calmG _ rfl (by rfl)
       ·intro a b;obtain ⟨e,f⟩:=b.rule;go_simp;all_goals (try rfl))
   simp only[sqA];try go_ints
  apply Flow.calm2 _ _ rfl rfl
  ·intro a b c d;obtain ⟨e,f⟩:=b.rule;go_simp;(try go_ints);exact d
  ·intro a b;simp only[sqA];exact b
  apply Flow.move rfl;go_wp2_with fail;refine (aI _ _ _).mono ?_;rintro e w3 ⟨rfl,rfl⟩;go_wp2_with fail;refine ⟨fun _=>(by first|exact HB2|exact Bl.refl _),?_⟩;apply Flow.move rfl;go_wp2_with fail;first|refine ⟨fun _ => ?_,?_⟩|refine ⟨?_,?_⟩
  ·repeat' (first|exact Bl.refl _|refine Bl.drewL ?_|refine Bl.drew ?_|refine Bl.alloc ?_ _)
  apply Flow.move rfl;go_wp2_with fail;refine (dN _ _ _ _ (Blk.new _ _ _)).mono ?_;rintro e w4 ⟨rfl,rfl⟩;go_wp2_with fail;refine ⟨fun _=>(by first|exact HB4|exact Bl.refl _),?_⟩;apply Flow.asg _ rfl
  ·intro a b;simp only[sqA,Act.eval,sqC];exact b
  refine Flow.done ?_;go_wp2_with fail;go_ret;exact ⟨by rw[HX.out]<;>rfl,dM.out.trans (((Bl.refl _).drew.trans HB1).alloc _)⟩
 |false=>
  cases d2 with
  |true=>
   have HX:=aHH (show E=aB [PE,aE true 11] by rw[HE.out,HD.out];rfl);refine aHZ [aHX 0,aHX 2,aHX 3,aHX 4,aHX 5,aHX 6,aHY 1,aHX 7,aHX 8,aHX 9,aHX 10,aHX 11,aHX 12,aHX 13,aHY 14,aHY 15,aHY 16,aHX 17] (by kernel_rfl) ?_
   iterate 6
    apply Flow.calm2 _ _ rfl rfl
    ·intro a b c d;obtain ⟨e,f⟩:=b.rule;go_simp;(try go_ints);exact d
    ·intro a b;simp only[sqA];exact b
   apply Flow.move rfl;go_wp2_with fail;refine (Hck.out _).mono ?_;rintro e w2 ⟨rfl,HB1⟩;have k1:=(w11.bl ((Bl.refl _).drew.trans HB1)).all8;have k2:=(w12.bl ((Bl.refl _).drew.trans HB1)).all3;go_wp2_with fail;refine ⟨fun _=>(by first|exact HB1|exact Bl.refl _),?_⟩;apply Flow.mv _ rfl
   ·intro a b;simp only[sqA,Act.eval,sqC];exact b
   iterate 5
    first
     | (apply Flow.pass rfl (by rfl))
     | (apply Flow.calmG _ rfl (by rfl)
        ·intro a b;obtain ⟨e,f⟩:=b.rule;go_simp;all_goals (try rfl))
    simp only[sqA];try go_ints
   apply Flow.calm2 _ _ rfl rfl
   ·intro a b c d;obtain ⟨e,f⟩:=b.rule;go_simp;(try go_ints);exact d
   ·intro a b;simp only[sqA];exact b
   apply Flow.move rfl;go_wp2_with fail;refine (aI _ _ _).mono ?_;rintro e w3 ⟨rfl,rfl⟩;go_wp2_with fail;refine ⟨fun _=>(by first|exact HB2|exact Bl.refl _),?_⟩;apply Flow.move rfl;go_wp2_with fail;first|refine ⟨fun _ => ?_,?_⟩|refine ⟨?_,?_⟩
   ·repeat' (first|exact Bl.refl _|refine Bl.drewL ?_|refine Bl.drew ?_|refine Bl.alloc ?_ _)
   apply Flow.move rfl;go_wp2_with fail;refine (dN _ _ _ _ (Blk.new _ _ _)).mono ?_;rintro e w4 ⟨rfl,rfl⟩;go_wp2_with fail;refine ⟨fun _=>(by first|exact HB4|exact Bl.refl _),?_⟩;apply Flow.asg _ rfl
   ·intro a b;simp only[sqA,Act.eval,sqC];exact b
   refine Flow.done ?_;go_wp2_with fail;go_ret;exact ⟨by rw[HX.out]<;>rfl,dM.out.trans (((Bl.refl _).drew.trans HB1).alloc _)⟩
  |false=>
   have HX:=aHH (show E=aB [PE,aE false 11] by rw[HE.out,HD.out];rfl);refine aHZ [aHX 0,aHX 2,aHX 3,aHX 4,aHX 5,aHX 6,aHY 1,aHX 7,aHX 8,aHX 9,aHX 10,aHX 11,aHX 12,aHX 13,aHY 14,aHY 15,aHY 16,aHX 17] (by kernel_rfl) ?_
   iterate 6
    apply Flow.calm2 _ _ rfl rfl
    ·intro a b c d;obtain ⟨e,f⟩:=b.rule;go_simp;(try go_ints);exact d
    ·intro a b;simp only[sqA];exact b
   apply Flow.move rfl;go_wp2_with fail;refine (Hck.out _).mono ?_;rintro e w2 ⟨rfl,HB1⟩;have k1:=(w11.bl ((Bl.refl _).drew.trans HB1)).all8;have k2:=(w12.bl ((Bl.refl _).drew.trans HB1)).all3;go_wp2_with fail;refine ⟨fun _=>(by first|exact HB1|exact Bl.refl _),?_⟩;apply Flow.mv _ rfl
   ·intro a b;simp only[sqA,Act.eval,sqC];exact b
   iterate 5
    first
     | (apply Flow.pass rfl (by rfl))
     | (apply Flow.calmG _ rfl (by rfl)
        ·intro a b;obtain ⟨e,f⟩:=b.rule;go_simp;all_goals (try rfl))
    simp only[sqA];try go_ints
   apply Flow.calm2 _ _ rfl rfl
   ·intro a b c d;obtain ⟨e,f⟩:=b.rule;go_simp;(try go_ints);exact d
   ·intro a b;simp only[sqA];exact b
   apply Flow.move rfl;go_wp2_with fail;refine (aI _ _ _).mono ?_;rintro e w3 ⟨rfl,rfl⟩;go_wp2_with fail;refine ⟨fun _=>(by first|exact HB2|exact Bl.refl _),?_⟩;apply Flow.move rfl;go_wp2_with fail;first|refine ⟨fun _ => ?_,?_⟩|refine ⟨?_,?_⟩
   ·repeat' (first|exact Bl.refl _|refine Bl.drewL ?_|refine Bl.drew ?_|refine Bl.alloc ?_ _)
   apply Flow.move rfl;go_wp2_with fail;refine (dN _ _ _ _ (Blk.new _ _ _)).mono ?_;rintro e w4 ⟨rfl,rfl⟩;go_wp2_with fail;refine ⟨fun _=>(by first|exact HB4|exact Bl.refl _),?_⟩;apply Flow.asg _ rfl
   ·intro a b;simp only[sqA,Act.eval,sqC];exact b
   refine Flow.done ?_;go_wp2_with fail;go_ret;exact ⟨by rw[HX.out]<;>rfl,dM.out.trans (((Bl.refl _).drew.trans HB1).alloc _)⟩
end Go.Proofs.YtllefinciimffaaGreatDoor
namespace Go.Proofs.YtllefinciimffaaGreatDoor
open Go.ChangeShapes Go.WideShapes Go.ChangeAt Go.RowKit Go.Joins
theorem QS:(Rows.laid_strings_asciiSpace:DataW Unit)=.agg ((List.range 256).map fun c=>.lit (.int .u8 (if Lib.isSp (UInt8.ofNat c) then 1 else 0))):=by kernel_rfl
theorem IS {l:List (String × DataW Unit)} {W:World} (hl:(l.filter fun e=>e.1 == "strings.asciiSpace")=[("strings.asciiSpace",Rows.laid_strings_asciiSpace)]) (h:laidMetH Tryz.prog l W):SpOk W:=by
 have h:=h.filter (fun e=>e.1 == "strings.asciiSpace");rw[hl,MakeChecks.laidMetH_plain _ _ _ (by kernel_rfl)] at h;obtain ⟨ps,⟨g,t,cs,fuel,p,q,hg,ht,hv,hd,_,_⟩,_,_⟩:=h;have hG:Tryz.prog.globalNamed "strings.asciiSpace" = some (Tryz.lays157_ren.g 0):=(by kernel_rfl);obtain rfl:=aIw (hG.symm.trans hg);obtain rfl:=aIw ((show (Tryz.prog.globals[Tryz.lays157_ren.g 0]?).map (·.type)=some 333 by kernel_rfl).symm.trans ht);obtain ⟨xs,m,_,ex,_,hlx,hel⟩:=DataW.trod_array Tryz.underlying333 hd;have c5:Tryz.prog.cellsOf 5=1:=(by kernel_rfl);intro r hr;have hE:=hel r hr;rw[c5,Nat.mul_one,aH2 (by omega)] at hE;obtain ⟨z,e1,e2,_⟩:=DataW.trod_int Tryz.underlying5 hE;have e3:(xs.map (·.1))=(List.range 256).map fun c=>.lit (.int .u8 (if Lib.isSp (UInt8.ofNat c) then 1 else 0)):=(DataW.agg.inj ((QS.symm.trans (Prod.mk.inj ex).1))).symm;have e4:(xs.map (·.1))[r]? = ((List.range 256).map fun c=>(DataW.lit (.int .u8 (if Lib.isSp (UInt8.ofNat c) then 1 else 0)):DataW Unit))[r]?:=(by rw[e3]);rw[aId,aId,aH2 (by omega:r<xs.length),List.getElem?_range hr,e2] at e4;have hz:z=if Lib.isSp (UInt8.ofNat r) then 1 else 0:=by
  simp only[Option.map_some,Option.some.injEq,DataW.lit.injEq,Lit.int.injEq,true_and] at e4;exact e4
 rw[World.var?_cell hG hv r,←hz];have:cs.toList[r]? = some (.int .u8 z):=by
  have h0:((cs.toList.drop r).take 1)[0]? = some (.int .u8 z):=(by rw[e1];rfl);simpa using h0
 simpa using this
end Go.Proofs.YtllefinciimffaaGreatDoor
