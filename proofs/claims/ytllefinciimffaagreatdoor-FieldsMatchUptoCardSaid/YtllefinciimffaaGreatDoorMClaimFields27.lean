import Derived.Test.YtllefinciimffaaGreatDoorMClaimFields25
set_option maxHeartbeats 20000000
set_option maxRecDepth 100000
namespace Go.Proofs.YtllefinciimffaaGreatDoor
open Go.RowKit Go.Shelf
theorem aBD (n:Nat):decide (10<(n:Int))=decide (10<n):=decide_eq_decide.2 (by omega)
theorem aDo (n:Nat):decide (50<(n:Int))=decide (50<n):=decide_eq_decide.2 (by omega)
theorem kG (f:Frm) (w:World) (hF:FrmAt w f) (hS:f.small 1048576) (hN:NumOk w) (hC:SplitOk w) :
 Calls Tryz.prog 7 #[f.val] w fun e w'=>e=.returned f.err∧Bl w w':=by
 obtain ⟨E,hE⟩:=aH0 f.err;rw[←hE];have HE:=aHH hE;obtain ⟨nm,fW,fH,reach,dark,AL,ac,la,FL,fc,lf,RL,rc,lr⟩:=f;let w1:=(w).alloc (.cells #[nm,fW,fH,reach,dark,.slice AL la.length ac,.slice FL lf.length fc,.slice RL lr.length rc] 26);obtain ⟨w1b,w11⟩:=aHO (x:=w1) w _ _ rfl;obtain ⟨HF,HN,HC,HS⟩:=aHJ (hF.bl w1b) (hN.bl w1b) (hC.bl w1b) hS;have hla:=hF.an.2;have hlf:=hF.fn.2;have hlr:=hF.rn.2;have hnm:=fun wx=>tC ⟨nm.toArray⟩ wx (by rw[Lib.size_mk];exact hF.nm);obtain ⟨nb,hnb⟩:=aH0 (cG nm);have aC5:∀wx,Calls Tryz.prog 50 #[nm] wx fun e w'=>e=.returned (.bool nb)∧Bl wx w':=(by rw[hnb];exact hnm);have HNm:=aHH aC5;have Hnb:=aHH hnb;have k1:=w11.all8;have dM:=aHH w1b;obtain ⟨HD,hHD⟩:=aH0 (fA nb fW fH reach dark la.length);have HHD:=aHH hHD;unfold Frm.val;clear hF hN hC hE hnm aC5 hnb w1b hS hHD
 go_in
 go_upto_region 1 with fail;go_cut [3] from 17 to 45 (fun s3 wc=>s3=.int .i64 HD∧Bl w1 wc);case first=>
  cases h1:inB reach 0 40
  ·have hf:aB [aE (!nb) 5,aM fW fH,aE true 3,aE (decide (10<(la.length:Int))) 4]=HD:=by
    rw[HHD.out];unfold fA;rw[h1,aBD];rfl
   refine aHZ [aHX 0,aHX 1,aHX 5,aHX 6,aHX 7,aHX 8,aHX 10,aHX 11,aHX 21,aHX 22,aHX 23,aHX 24,aHY 2,aHX 3,aHY 4,aHY 9,aHY 12,aHX 13,aHX 14,aHX 15,aHX 16,aHY 17,aHX 18,aHX 19,aHY 20,aHY 25,aHY 26,aHY 27,aHX 28] (by kernel_rfl) ?_
   iterate 12
    apply Flow.calm2 _ _ rfl rfl
    ·intro a b c d;obtain ⟨e,f⟩:=b.rule;go_simp;(try go_ints);exact d
    ·intro a b;simp only[sqA];exact b
   apply Flow.move rfl;go_wp2_with fail;refine (HNm.out _).mono ?_;rintro e w2 ⟨rfl,HB1⟩;have hb2:Bl w1 w2:=Bl.ofDrew HB1;have k2:=(w11.bl hb2).all8;go_wp2_with fail;refine ⟨fun _=>(by first|exact HB1|exact Bl.refl _),?_⟩;apply Flow.calm2 _ _ rfl rfl
   ·intro a b c d;obtain ⟨e,f⟩:=b.rule;go_simp;(try go_ints);exact d
   ·intro a b;simp only[sqA];exact b
   apply Flow.move rfl;go_wp2_with fail;refine (aI _ _ _).mono ?_;rintro e w' ⟨rfl,rfl⟩;go_wp2_with fail;refine ⟨fun _=>(by first|exact HB2|exact Bl.refl _),?_⟩;apply Flow.move rfl;go_wp2_with fail;refine (nD _ _ _).mono ?_;rintro e w3 ⟨rfl,HB3⟩;have hb3:=hb2.trans HB3;have k3:=(w11.bl hb3).all8;go_wp2_with fail;refine ⟨fun _=>(by first|exact HB3|exact Bl.refl _),?_⟩;apply Flow.move rfl;go_wp2_with fail;refine (eJ _ _ _ _).mono ?_;rintro e w' ⟨rfl,rfl⟩;go_wp2_with fail;refine ⟨fun _=>(by first|exact HB4|exact Bl.refl _),?_⟩;apply Flow.calm2 _ _ rfl rfl
   ·intro a b c d;obtain ⟨e,f⟩:=b.rule;go_simp;(try go_ints);exact d
   ·intro a b;simp only[sqA];exact b
   apply Flow.mv _ rfl
   ·intro a b;simp only[sqA,Act.eval,sqC];exact b
   iterate 2
    first
     | (apply Flow.pass rfl (by rfl))
     | (apply Flow.calmG _ rfl (by rfl)
        ·intro a b;obtain ⟨e,f⟩:=b.rule;go_simp;all_goals (try rfl))
    simp only[sqA];try go_ints
   apply Flow.move rfl;go_wp2_with fail;first|refine ⟨fun _=>Bl.refl _,?_⟩|refine ⟨Bl.refl _,?_⟩
   first
    | (apply Flow.pass rfl (by rfl))
    | (apply Flow.calmG _ rfl (by rfl)
       ·intro a b;obtain ⟨e,f⟩:=b.rule;go_simp;all_goals (try rfl))
   simp only[sqA];try go_ints
   apply Flow.calm2 _ _ rfl rfl
   ·intro a b c d;obtain ⟨e,f⟩:=b.rule;go_simp;(try go_ints);exact d
   ·intro a b;simp only[sqA];exact b
   apply Flow.move rfl;go_wp2_with fail;refine (aI _ _ _).mono ?_;rintro e w' ⟨rfl,rfl⟩;go_wp2_with fail;refine ⟨fun _=>(by first|exact HB6|exact Bl.refl _),?_⟩;apply Flow.move rfl;go_wp2_with fail;refine (aI _ _ _).mono ?_;rintro e w' ⟨rfl,rfl⟩;go_wp2_with fail;refine ⟨fun _=>(by first|exact HB7|exact Bl.refl _),?_⟩;apply Flow.move rfl;go_wp2_with fail;first|refine ⟨fun _ => ?_,?_⟩|refine ⟨?_,?_⟩
   ·repeat' (first|exact Bl.refl _|refine Bl.drewL ?_|refine Bl.drew ?_|refine Bl.alloc ?_ _)
   apply Flow.move rfl;go_wp2_with fail;refine (AI _ _ _ _ _ _ (Blk.new _ _ _)).mono ?_;rintro e w' ⟨rfl,rfl⟩;go_wp2_with fail;refine ⟨fun _=>(by first|exact HB9|exact Bl.refl _),?_⟩;apply Flow.asg _ rfl
   ·intro a b;simp only[sqA,Act.eval,sqC];exact b
   refine Flow.done ?_;go_wp2_with fail;go_meet;case rel=>exact ⟨rfl,hb3.alloc _⟩
  ·obtain ⟨i2,hi2⟩:=aH0 (inB dark 1 1000);have VQ:∀wx,Calls Tryz.prog 13 #[dark,.int .i64 1,.int .i64 1000] wx fun e w'=>e=.returned (.bool i2)∧wx=w':=fun wx=>(by rw[hi2];exact eJ _ _ _ _);have hf:aB [aE (!nb) 5,aM fW fH,aE (!i2) 3,aE (decide (10<(la.length:Int))) 4]=HD:=by
    rw[HHD.out];unfold fA;rw[h1,aBD,hi2];rfl
   have aGW:=aHH VQ;clear VQ hi2;refine aHZ [aHX 0,aHX 1,aHX 5,aHX 6,aHX 7,aHX 8,aHX 10,aHX 11,aHX 21,aHX 22,aHX 23,aHX 24,aHY 2,aHX 3,aHY 4,aHY 9,aHY 12,aHX 13,aHX 14,aHX 15,aHX 16,aHY 17,aHX 18,aHX 19,aHY 20,aHY 25,aHY 26,aHY 27,aHX 28] (by kernel_rfl) ?_
   iterate 12
    apply Flow.calm2 _ _ rfl rfl
    ·intro a b c d;obtain ⟨e,f⟩:=b.rule;go_simp;(try go_ints);exact d
    ·intro a b;simp only[sqA];exact b
   apply Flow.move rfl;go_wp2_with fail;refine (HNm.out _).mono ?_;rintro e w2 ⟨rfl,HB1⟩;have hb2:Bl w1 w2:=Bl.ofDrew HB1;have k2:=(w11.bl hb2).all8;go_wp2_with fail;refine ⟨fun _=>(by first|exact HB1|exact Bl.refl _),?_⟩;apply Flow.calm2 _ _ rfl rfl
   ·intro a b c d;obtain ⟨e,f⟩:=b.rule;go_simp;(try go_ints);exact d
   ·intro a b;simp only[sqA];exact b
   apply Flow.move rfl;go_wp2_with fail;refine (aI _ _ _).mono ?_;rintro e w' ⟨rfl,rfl⟩;go_wp2_with fail;refine ⟨fun _=>(by first|exact HB2|exact Bl.refl _),?_⟩;apply Flow.move rfl;go_wp2_with fail;refine (nD _ _ _).mono ?_;rintro e w3 ⟨rfl,HB3⟩;have hb3:=hb2.trans HB3;have k3:=(w11.bl hb3).all8;go_wp2_with fail;refine ⟨fun _=>(by first|exact HB3|exact Bl.refl _),?_⟩;apply Flow.move rfl;go_wp2_with fail;refine (eJ _ _ _ _).mono ?_;rintro e w' ⟨rfl,rfl⟩;go_wp2_with fail;refine ⟨fun _=>(by first|exact HB4|exact Bl.refl _),?_⟩;apply Flow.calm2 _ _ rfl rfl
   ·intro a b c d;obtain ⟨e,f⟩:=b.rule;go_simp;(try go_ints);exact d
   ·intro a b;simp only[sqA];exact b
   apply Flow.mv _ rfl
   ·intro a b;simp only[sqA,Act.eval,sqC];exact b
   iterate 2
    first
     | (apply Flow.pass rfl (by rfl))
     | (apply Flow.calmG _ rfl (by rfl)
        ·intro a b;obtain ⟨e,f⟩:=b.rule;go_simp;all_goals (try rfl))
    simp only[sqA];try go_ints
   apply Flow.move rfl;go_wp2_with fail;refine (aGW.out _).mono ?_;rintro e w' ⟨rfl,rfl⟩;go_wp2_with fail;refine ⟨fun _=>(by first|exact HB5|exact Bl.refl _),?_⟩
   first
    | (apply Flow.pass rfl (by rfl))
    | (apply Flow.calmG _ rfl (by rfl)
       ·intro a b;obtain ⟨e,f⟩:=b.rule;go_simp;all_goals (try rfl))
   simp only[sqA];try go_ints
   apply Flow.calm2 _ _ rfl rfl
   ·intro a b c d;obtain ⟨e,f⟩:=b.rule;go_simp;(try go_ints);exact d
   ·intro a b;simp only[sqA];exact b
   apply Flow.move rfl;go_wp2_with fail;refine (aI _ _ _).mono ?_;rintro e w' ⟨rfl,rfl⟩;go_wp2_with fail;refine ⟨fun _=>(by first|exact HB6|exact Bl.refl _),?_⟩;apply Flow.move rfl;go_wp2_with fail;refine (aI _ _ _).mono ?_;rintro e w' ⟨rfl,rfl⟩;go_wp2_with fail;refine ⟨fun _=>(by first|exact HB7|exact Bl.refl _),?_⟩;apply Flow.move rfl;go_wp2_with fail;first|refine ⟨fun _ => ?_,?_⟩|refine ⟨?_,?_⟩
   ·repeat' (first|exact Bl.refl _|refine Bl.drewL ?_|refine Bl.drew ?_|refine Bl.alloc ?_ _)
   apply Flow.move rfl;go_wp2_with fail;refine (AI _ _ _ _ _ _ (Blk.new _ _ _)).mono ?_;rintro e w' ⟨rfl,rfl⟩;go_wp2_with fail;refine ⟨fun _=>(by first|exact HB9|exact Bl.refl _),?_⟩;apply Flow.asg _ rfl
   ·intro a b;simp only[sqA,Act.eval,sqC];exact b
   refine Flow.done ?_;go_wp2_with fail;go_meet;case rel=>exact ⟨rfl,hb3.alloc _⟩
 case rest=>
 rename World=>w2;obtain ⟨rfl,hb2⟩:=hcut;have Hb2:=aHH hb2;have k1:=(w11.bl hb2).all8;clear hb2;by_cases hz:HD=0;case neg=>
  have hq:(HD != 0)=true:=(by simp[hz]);have HX:=aHH (show E=HD by
   rw[HE.out];unfold Frm.err mF;simp only;rw[←Hnb.out,←HHD.out,aJ hz])
  clear hz;go_wp2_with fail;go_ret;exact ⟨by rw[HX.out];rfl,dM.out.trans Hb2.out⟩
 have hq:(HD != 0)=false:=(by simp[hz]);have hh:=HHD.out;rw[hz] at hh;have aGX:nb=true:=by
  cases nb with
  |true=>rfl
  |false=>exact absurd hh.symm (by unfold fA;rw[aJ (by decide)];decide)
 subst aGX;have aEh:aM fW fH=0:=by
  apply Classical.byContradiction;intro hne;refine absurd hh.symm ?_;unfold fA;rw[cV (show aE (!true) 5=0 from rfl),aJ hne];exact hne
 have hh2:aB [aE (!inB reach 0 40||!inB dark 1 1000) 3,aE (decide (10<la.length)) 4]=0:=by
  have:=hh.symm;unfold fA at this;rw[aEh,cV (show aE (!true) 5=0 from rfl),bT] at this;exact this
 have h10:¬10<la.length:=fun h=>by
  rw[aIu h] at hh2;cases hb:(!inB reach 0 40||!inB dark 1 1000) with
  |true=>rw[hb] at hh2;exact absurd hh2 (by decide)
  |false=>rw[hb] at hh2;exact absurd hh2 (by decide)
 have hsz:=aR aEh;obtain ⟨W,rfl⟩:=Int.eq_ofNat_of_zero_le (show 0≤fW by omega);obtain ⟨H,rfl⟩:=Int.eq_ofNat_of_zero_le (show 0≤fH by omega);have hW:1≤W∧W≤4000:=(by omega);have hH:1≤H∧H≤4000:=(by omega);have HE1:=aHH (show E=aB [dT W H la,aE (decide (lf.length=0)) 9,aE (decide (50<lf.length)) 4,dB W H [] lf,aE (kE [] (gK la lf)) 11,aE (decide (50<lr.length)) 4,dU lf lr] by
  rw[HE.out];unfold Frm.err mF;simp only;rw[←Hnb.out,←hh];exact bT)
 obtain ⟨HW,HH,aD8,HFA⟩:=aHJ hW hH h10 (HF.out.ancs.bl Hb2.out);have hip:=fun (a:Anc) wx=>lO a.X a.Y a.W a.H W H wx;simp only[o7 (show 1≤(W:Int)∧(W:Int)≤4000 by omega) (show 1≤(H:Int)∧(H:Int)≤4000 by omega)] at hip;have Hip:=aHH hip;have RF:=aHH (dM.out.trans Hb2.out);clear hz hh aEh hh2 h10 hsz hip HHD HNm;go_wp2_with fail;go_loopw [51] (fun u wr=>∃i:Nat,i≤la.length∧u=.int .i64 i∧Bl w2 wr∧dT W H (la.drop i)=dT W H la) (fun u _=>la.length-(RowKit.intOf u).toNat);case atStart=>exact ⟨0,Nat.zero_le _,rfl,Bl.refl _,rfl⟩
 case round=>
  clear k1;obtain ⟨i,hi,rfl,hbr,hes⟩:=hrel;have k1:=(w11.bl (Hb2.out.trans hbr)).all8;by_cases hlt:i<la.length
  ·have hg:la[i]? = some la[i]:=aH2 hlt;obtain ⟨a,ha⟩:=aH0 (la[i]);rw[←ha] at hg;obtain ⟨ad,e1,j1,j2,j3,j4,j5⟩:=(HFA.out.bl hbr).at_ hg;obtain ⟨HAr,HG,HEs,Hbr⟩:=aHJ (HFA.out.2 a (List.mem_of_getElem? hg)) hg hes hbr;clear hg ha hes;subst e1;go_upto_region 7 with fail;obtain ⟨w5,hw5⟩:=aH0 (wr.alloc (.cells #[a.W,a.H,.slice a.A a.m a.c,a.X,a.Y] 85));have b5:=aHV hw5;have hb5:=aHU hw5;rw[←hw5];have B5:=aHH b5;have Hb5:=aHH hb5;have k1:=(w11.bl (Hb2.out.trans (hbr.trans hb5))).all8;have k2:=b5.all5;clear hw5 b5 hb5 j1 j2 j3 j4 j5 hbr;go_wp2_with fail;refine (nE _ _ _ _ _ _).mono ?_;rintro e w6 ⟨rfl,hb6⟩;have RD:=aHH (Hbr.out.trans (Hb5.out.trans hb6));have k1:=(w11.bl (Hb2.out.trans RD.out)).all8;have k2:=(B5.out.bl hb6).all5;have B6:=aHH (B5.out.bl hb6);have HA6:=aHH (HAr.out.bl RD.out);clear hb6;by_cases hp:aF a.W a.H a.m=0;case neg=>
    have hq:(aF a.W a.H a.m != 0)=true:=(by simp[hp]);have HX:=aHH (show E=aF a.W a.H a.m by
     have h0:fQ W H a=aF a.W a.H a.m:=(by unfold fQ;rw[aJ hp]);have h1:dT W H la=aF a.W a.H a.m:=(by rw[←HEs.out,lT HG.out,if_neg (by rw[h0];exact hp),h0]);rw[HE1.out,h1,aJ hp])
    clear hp;go_wp2_with fail;go_ret;exact ⟨by rw[HX.out];rfl,RF.out.trans RD.out⟩
   have hq:(aF a.W a.H a.m != 0)=false:=(by simp[hp]);obtain ⟨W',H',q1,q2,q3,-,-,-⟩:=dQ hp;have aFL:a.m≤1099511627776:=by
    have:=aR (show aM a.W a.H=0 by
     apply Classical.byContradiction;intro hne;unfold aF at hp;rw[if_neg hne] at hp;exact hne hp)
    rw[q1,q2] at this;have:=aIH (show W'≤4000 by omega) (show H'≤4000 by omega);rw[q3];omega
   have hcb:=fun wx (hr:Reads wx 1 a.A a.m (a.bs.map .bool))=>rM a.A a.m a.c a.bs true wx hr aFL;obtain ⟨AE,hAE⟩:=aH0 (fQ W H a);have HAE:=aHH hAE;obtain ⟨aGY,aEi⟩:=aH0 (decide (true∈a.bs));have HF2:=aHH (show aB [aE (!aGY) 10,aE (!dG a.X a.Y a.W a.H W H) 13]=AE by rw[hAE];unfold fQ;rw[hp,bT,aEi];rfl);rw[←aEi] at hcb;have Hcb:=aHH hcb;have Hst:=aHH (show dT W H la=if AE=0 then dT W H (la.drop (i+1)) else AE by rw[←HEs.out,lT HG.out,hAE]);clear hp q1 q2 q3 aFL hcb hAE aEi;go_upto_region 10 with fail;refine aHZ [aHX 0,aHX 1,aHX 2,aHX 6,aHX 7,aHX 8,aHX 9,aHX 10,aHX 11,aHX 12,aHX 13,aHX 14,aHX 15,aHX 16,aHX 17,aHX 18,aHX 19,aHX 20,aHY 3,aHX 4,aHY 5,aHY 21,aHX 22,aHY 23,aHY 24,aHY 25,aHX 26] (by kernel_rfl) ?_
   iterate 18
    apply Flow.calm2 _ _ rfl rfl
    ·intro a b c d;obtain ⟨e,f⟩:=b.rule;go_simp;(try go_ints);exact d
    ·intro a b;simp only[sqA];exact b
   apply Flow.move rfl;go_wp2_with fail;refine (Hcb.out _ (HA6.out.bl (Bl.refl _).drew)).mono ?_;rintro e w' ⟨rfl,rfl⟩;go_wp2_with fail;refine ⟨fun _=>(by first|exact HB1|exact Bl.refl _),?_⟩;apply Flow.calm2 _ _ rfl rfl
   ·intro a b c d;obtain ⟨e,f⟩:=b.rule;go_simp;(try go_ints);exact d
   ·intro a b;simp only[sqA];exact b
   apply Flow.move rfl;go_wp2_with fail;refine (aI _ _ _).mono ?_;rintro e w' ⟨rfl,rfl⟩;go_wp2_with fail;refine ⟨fun _=>(by first|exact HB2|exact Bl.refl _),?_⟩;apply Flow.move rfl;go_wp2_with fail;refine (Hip.out a _).mono ?_;rintro e w7 ⟨rfl,HB3⟩;have hb7:Bl w6 w7:=Bl.ofDrew HB3;have aC3:=aHH (RD.out.trans hb7);go_wp2_with fail;refine ⟨fun _=>(by first|exact HB3|exact Bl.refl _),?_⟩;apply Flow.calm2 _ _ rfl rfl
   ·intro a b c d;obtain ⟨e,f⟩:=b.rule;go_simp;(try go_ints);exact d
   ·intro a b;simp only[sqA];exact b
   apply Flow.move rfl;go_wp2_with fail;refine (aI _ _ _).mono ?_;rintro e w' ⟨rfl,rfl⟩;go_wp2_with fail;refine ⟨fun _=>(by first|exact HB4|exact Bl.refl _),?_⟩;apply Flow.move rfl;go_wp2_with fail;first|refine ⟨fun _ => ?_,?_⟩|refine ⟨?_,?_⟩
   ·repeat' (first|exact Bl.refl _|refine Bl.drewL ?_|refine Bl.drew ?_|refine Bl.alloc ?_ _)
   apply Flow.move rfl;go_wp2_with fail;refine (dN _ _ _ _ (Blk.new _ _ _)).mono ?_;rintro e w' ⟨rfl,rfl⟩;go_wp2_with fail;refine ⟨fun _=>(by first|exact HB6|exact Bl.refl _),?_⟩;apply Flow.asg _ rfl
   ·intro a b;simp only[sqA,Act.eval,sqC];exact b
   refine Flow.done ?_;rw[HF2.out];clear k1;by_cases hz:AE=0
   ·have hq2:(AE != 0)=false:=(by simp[hz]);have HY:=aHH (show dT W H (la.drop (i+1))=dT W H la by rw[Hst.out,if_pos hz]);clear hz;go_wp2_with fail;exact ⟨⟨i+1,hlt,by go_num,aC3.out.alloc _,HY.out⟩,by simp[RowKit.intOf];omega⟩
   ·have hq2:(AE != 0)=true:=(by simp[hz]);have HX:=aHH (show E=AE by rw[HE1.out,Hst.out,if_neg hz,aJ hz]);clear hz;go_wp2_with fail;go_ret;exact ⟨by rw[HX.out];rfl,RF.out.trans (aC3.out.alloc _)⟩
  ·obtain rfl:i=la.length:=(by omega);have RC:=aHH (show dT W H la=0 by rw[←hes,List.drop_length];rfl);have Hbr:=aHH hbr;have el0:((lf.length:Int)==0)=decide (lf.length=0):=OT _;obtain ⟨EL,hEL⟩:∃e,e=aB [aE (decide (lf.length=0)) 9,aE (decide (50<lf.length)) 4]:=⟨_,rfl⟩;have HEL:=aHH (show aB [aE ((lf.length:Int)==0) 9,aE (decide (50<(lf.length:Int))) 4]=EL by rw[hEL,el0,aDo]);have HE2:=aHH (show E=aB [EL,dB W H [] lf,aE (kE [] (gK la lf)) 11,aE (decide (50<lr.length)) 4,dU lf lr] by
    rw[HE1.out,RC.out,bT,hEL,iC];rfl)
   have aGZ:=aHH hEL;clear hes hbr el0 hEL hi hlt;go_upto_region 14 with fail;refine aHZ [aHX 0,aHX 1,aHX 2,aHX 3,aHX 5,aHX 6,aHX 7,aHX 8,aHY 4,aHY 9,aHY 10,aHY 11,aHX 12] (by kernel_rfl) ?_
   iterate 8
    apply Flow.calm2 _ _ rfl rfl
    ·intro a b c d;obtain ⟨e,f⟩:=b.rule;go_simp;(try go_ints);exact d
    ·intro a b;simp only[sqA];exact b
   apply Flow.move rfl;go_wp2_with fail;refine (aI _ _ _).mono ?_;rintro e w' ⟨rfl,rfl⟩;go_wp2_with fail;refine ⟨fun _=>(by first|exact HB1|exact Bl.refl _),?_⟩;apply Flow.move rfl;go_wp2_with fail;refine (aI _ _ _).mono ?_;rintro e w' ⟨rfl,rfl⟩;go_wp2_with fail;refine ⟨fun _=>(by first|exact HB2|exact Bl.refl _),?_⟩;apply Flow.move rfl;go_wp2_with fail;first|refine ⟨fun _ => ?_,?_⟩|refine ⟨?_,?_⟩
   ·repeat' (first|exact Bl.refl _|refine Bl.drewL ?_|refine Bl.drew ?_|refine Bl.alloc ?_ _)
   apply Flow.move rfl;go_wp2_with fail;refine (dN _ _ _ _ (Blk.new _ _ _).drew).mono ?_;rintro e w' ⟨rfl,rfl⟩;go_wp2_with fail;refine ⟨fun _=>(by first|exact HB4|exact Bl.refl _),?_⟩;apply Flow.asg _ rfl
   ·intro a b;simp only[sqA,Act.eval,sqC];exact b
   refine Flow.done ?_;rw[HEL.out];obtain ⟨w3,hw3⟩:=aH0 ((wr.alloc (.cells #[.int .i64 (aE ((lf.length:Int)==0) 9),.int .i64 (aE (decide (50<(lf.length:Int))) 4)] 27)).drew);have hb3:Bl wr w3:=(by rw[hw3];exact ((Bl.refl _).alloc _).drew);rw[←hw3];have Hb3:=aHH (Hbr.out.trans hb3);have k1:=(w11.bl (Hb2.out.trans Hb3.out)).all8;clear hw3 hb3 HEL;by_cases hz:EL=0;case neg=>
    have hq:(EL != 0)=true:=(by simp[hz]);have HX:=aHH (show E=EL by rw[HE2.out,aJ hz]);clear hz;go_wp2_with fail;go_ret;exact ⟨by rw[HX.out];rfl,RF.out.trans Hb3.out⟩
   have hq:(EL != 0)=false:=(by simp[hz]);have aFM:lf.length≤50:=by
    have h:=aGZ.out;rw[hz] at h;apply Classical.byContradiction;intro hn;rw[aIt (show ¬lf.length=0 by omega),aIu (show 50<lf.length by omega)] at h;exact absurd h (by decide)
   have HE3:=aHH (show E=aB [dB W H [] lf,aE (kE [] (gK la lf)) 11,aE (decide (50<lr.length)) 4,dU lf lr] by rw[HE2.out,hz,bT]);have hfe:=fun (i:Nat) (x:Fld) wx (hF:FrmAt wx ⟨nm,W,H,reach,dark,AL,ac,la,FL,fc,lf,RL,rc,lr⟩) hx=>z7 _ i x W H wx rfl rfl HW.out HH.out hF hx;have hbo:=fun wx (hF:FrmAt wx ⟨nm,W,H,reach,dark,AL,ac,la,FL,fc,lf,RL,rc,lr⟩) (hm:∀x∈lf,x.marks.length≤20)=>KX _ wx hF (show la.length≤10 by have:=aD8.out;omega) aFM hm;have hre:=fun (r:Rul) wx (hF:FrmAt wx ⟨nm,W,H,reach,dark,AL,ac,la,FL,fc,lf,RL,rc,lr⟩) h3 hC=>D4 _ r wx hF h3 hC;unfold Frm.val at hfe hbo;unfold Frm.val Rul.val at hre;obtain ⟨Hfe,Hbo,Hre⟩:=aHI hfe hbo hre;clear hz hfe hbo hre HFA Hip Hbr;go_wp2_with fail;go_loopw [109] (fun u wy=>∃i:Nat,i≤lf.length∧u=.int .i64 i∧Bl w2 wy∧dB W H ((lf.take i).map Fld.name) (lf.drop i)=dB W H [] lf) (fun u _=>lf.length-(RowKit.intOf u).toNat);case atStart=>exact ⟨0,Nat.zero_le _,rfl,Hb3.out,rfl⟩
   case round=>
    clear k1;rename World=>wq;obtain ⟨i,hi,rfl,hbq,hes⟩:=hrel;have k1:=(w11.bl (Hb2.out.trans hbq)).all8;by_cases hlt:i<lf.length
    ·have hg:lf[i]? = some lf[i]:=aH2 hlt;obtain ⟨x,hx⟩:=aH0 (lf[i]);rw[←hx] at hg;obtain ⟨HG,HEs,Hbq⟩:=aHI hg hes hbq;clear hg hx hes hbq;go_wp2_with fail;refine (Hfe.out i x _ (HF.out.bl (Hb2.out.trans Hbq.out)) HG.out).mono ?_;rintro e w6 ⟨rfl,hb6⟩;have Hb6:=aHH (Hbq.out.trans hb6);obtain ⟨FE,hFE⟩:=aH0 (n9 W H ((lf.take i).map Fld.name) x);simp only;rw[←hFE];have Hst:=aHH (show dB W H [] lf=if FE=0 then dB W H ((lf.take (i+1)).map Fld.name) (lf.drop (i+1)) else FE by rw[←HEs.out,oU HG.out,hFE]);clear hb6 k1 hFE;by_cases hz:FE=0
     ·have hq2:(FE != 0)=false:=(by simp[hz]);have HY:=aHH (show dB W H ((lf.take (i+1)).map Fld.name) (lf.drop (i+1))=dB W H [] lf by rw[Hst.out,if_pos hz]);clear hz;go_wp2_with fail;exact ⟨⟨i+1,hlt,by go_num,Hb6.out,HY.out⟩,by simp[RowKit.intOf];omega⟩
     ·have hq2:(FE != 0)=true:=(by simp[hz]);have HX:=aHH (show E=FE by rw[HE3.out,Hst.out,if_neg hz,aJ hz]);clear hz;go_wp2_with fail;go_ret;exact ⟨by rw[HX.out];rfl,RF.out.trans Hb6.out⟩
    ·obtain rfl:i=lf.length:=(by omega);have aAN:=aHH (show dB W H [] lf=0 by rw[←hes,List.drop_length];rfl);have Hbq:=aHH hbq;have V6:∀x∈lf,x.marks.length≤20:=fun x hx=>by
      obtain ⟨pv,h⟩:=lX aAN.out x hx;exact (DM h).2.2.2.2.1
     obtain ⟨bl,YM⟩:=aH0 (gK la lf);have hok:∀b∈bl,b.Ok:=fun b hb=>Bx.ok (W:=W) (H:=H) (by have:=HW.out;omega) (by have:=HH.out;omega) (MZ RC.out aAN.out b (by rw[←YM];exact hb));have HE4:=aHH (show E=aB [aE (kE [] bl) 11,aE (decide (50<lr.length)) 4,dU lf lr] by rw[HE3.out,aAN.out,bT,YM]);have hbo:=Hbo.out wq (HF.out.bl (Hb2.out.trans hbq)) V6;simp only[←YM] at hbo;have aG0:=aHH hbo;have Hok:=aHH hok;clear hes hbq V6 hok hbo YM hi hlt;go_wp2_with fail;refine aG0.out.mono ?_;rintro e w4 ⟨A,c,rfl,hr,hbln,hb4⟩;have HR:=aHH hr;have Hb4:=aHH (Hbq.out.trans hb4);have k1:=(w11.bl (Hb2.out.trans Hb4.out)).all8;clear hr hb4;go_wp2_with fail;go_loopw [123] (fun u wy=>∃i:Nat,i≤bl.length∧u=.int .i64 i∧Bl w4 wy∧kE (bl.take i) (bl.drop i)=kE [] bl) (fun u _=>bl.length-(RowKit.intOf u).toNat);case atStart=>exact ⟨0,Nat.zero_le _,rfl,Bl.refl _,rfl⟩
     case round=>
      clear k1;rename World=>wb;obtain ⟨i,hi,rfl,hbr,hov⟩:=hrel;have HOv:=aHH hov;have Hwb:=aHH hbr;clear hov;by_cases hlt:i<bl.length
      ·have hg:bl[i]? = some bl[i]:=aH2 hlt;obtain ⟨b,hb⟩:=aH0 (bl[i]);rw[←hb] at hg;have HG:=aHH hg;clear hg hb hbr;go_wp2_with fail;go_loopw [127] (fun u wy=>∃j:Nat,j≤i∧u=.int .i64 j∧Bl w4 wy∧∀(j':Nat) p,j'<j→bl[j']? = some p→b.over p=false) (fun u _=>i-(RowKit.intOf u).toNat);case atStart=>exact ⟨0,Nat.zero_le _,rfl,Hwb.out,fun j' p hj=>absurd hj (Nat.not_lt_zero _)⟩
       case round=>
        rename World=>wc;obtain ⟨j,hj,rfl,hbc,hno⟩:=hrel;have HNo:=aHH hno;clear hno;by_cases hlj:j<i
        ·have hg2:bl[j]? = some bl[j]:=aH2 (by omega);obtain ⟨p,hp⟩:=aH0 (bl[j]);rw[←hp] at hg2;obtain ⟨ad,e1,j1,j2,j3,j4⟩:=BxsAt.at_ (BxsAt.bl HR.out hbc) HG.out;obtain ⟨ad',e2,i1,i2,i3,i4⟩:=BxsAt.at_ (BxsAt.bl HR.out hbc) hg2;subst e1;obtain rfl:=aIw e2;have aC6:=fun wx=>GJ b p wx (Hok.out b (List.mem_of_getElem? HG.out)) (Hok.out p (List.mem_of_getElem? hg2));obtain ⟨ov,hov⟩:=aH0 (b.over p);rw[←hov] at aC6;unfold Bx.val at aC6;obtain ⟨aG1,Hov,HG2,Hbc⟩:=aHJ aC6 hov hg2 hbc;have hji:(j:Int)<(bl.length:Int):=(by omega);clear aC6 hov hg2 hp e2 hbc;go_upto_region 31 with fail;refine aHZ [aHX 0,aHX 1,aHX 2,aHX 3,aHX 4,aHX 5,aHX 6,aHX 7,aHY 8] (by kernel_rfl) ?_
         iterate 2
          iterate 2
           apply Flow.mv _ rfl
           ·intro a b;simp only[sqA,Act.eval,sqC];exact b
          iterate 2
           apply Flow.calm2 _ _ rfl rfl
           ·intro a b c d;obtain ⟨e,f⟩:=b.rule;go_simp;(try go_ints);exact d
           ·intro a b;simp only[sqA];exact b
         apply Flow.move rfl;go_wp2_with fail;refine (aG1.out _).mono ?_;rintro e w5 ⟨rfl,HB1⟩;have Hb5:=aHH (Hbc.out.trans (Bl.ofDrew HB1));go_wp2_with fail;refine ⟨fun _=>(by first|exact HB1|exact Bl.refl _),?_⟩;refine Flow.done ?_;cases ov with
         |true=>
          have HX:=aHH (show E=11 by
           have h1:((bl.take i).any fun p=>b.over p)=true:=aIm.2 ⟨p,by
            refine List.mem_of_getElem? (i:=j) ?_;rw[aIe hlj];exact HG2.out,Hov.out.symm⟩
           have h2:kE [] bl=true:=(by rw[←HOv.out,pB HG.out,h1];rfl);rw[HE4.out,h2];rfl)
          go_wp2_with fail;go_ret;exact ⟨by rw[HX.out];rfl,RF.out.trans (Hb4.out.trans Hb5.out)⟩
         |false=>
          go_wp2_with fail;exact ⟨⟨j+1,hlj,by go_num,Hb5.out,fun j' p' hj' hp'=>by
           rcases Nat.lt_succ_iff_lt_or_eq.1 hj' with h|rfl
           ·exact HNo.out j' p' h hp'
           ·rw[HG2.out] at hp';obtain rfl:=aIw hp';exact Hov.out.symm⟩,by simp[RowKit.intOf];omega⟩
        ·obtain rfl:j=i:=(by omega);have HX:=aHH (show kE (bl.take (j+1)) (bl.drop (j+1))=kE [] bl by
          have h1:((bl.take j).any fun p=>b.over p)=false:=List.any_eq_false.2 fun p hp=>by
           obtain ⟨j',hj'⟩:=List.getElem?_of_mem hp;have hl:=(aH3.1 hj').1;rw[aH7] at hl;rw[aIe (by omega)] at hj';rw[HNo.out j' p (by omega) hj'];decide
          rw[←HOv.out,pB HG.out,h1];rfl)
         go_wp2_with fail;exact ⟨⟨j+1,hlt,by go_num,hbc,HX.out⟩,by simp[RowKit.intOf];omega⟩
      ·obtain rfl:i=bl.length:=(by omega);have Hno:=aHH (show kE [] bl=false by rw[←HOv.out];exact GH);have Hb5:=aHH (Hb4.out.trans hbr);have k1:=(w11.bl (Hb2.out.trans Hb5.out)).all8;clear hbr;by_cases l50r:50<lr.length
       ·have l50ri:50<(lr.length:Int):=(by omega);have HX:=aHH (show E=4 by rw[HE4.out,Hno.out,aIu l50r];rfl);go_wp2_with fail;go_ret;exact ⟨by rw[HX.out];rfl,RF.out.trans Hb5.out⟩
       have l50ri:¬50<(lr.length:Int):=(by omega);have HE5:=aHH (show E=dU lf lr by rw[HE4.out,Hno.out,aIt l50r,fF,fF,bT,bT];unfold aB;split<;>simp_all[aB]);have HFR:=aHH (RulsAt.bl HF.out.ruls Hb2.out);clear HOv Hwb hi hlt;go_wp2_with fail;go_loopw [148] (fun u wy=>∃i:Nat,i≤lr.length∧u=.int .i64 i∧Bl w2 wy∧dU lf (lr.drop i)=dU lf lr) (fun u _=>lr.length-(RowKit.intOf u).toNat);case atStart=>exact ⟨0,Nat.zero_le _,rfl,Hb5.out,rfl⟩
       case round=>
        clear k1;rename World=>wq2;obtain ⟨i,hi,rfl,hbq,hes⟩:=hrel;by_cases hlt:i<lr.length
        ·have hg:lr[i]? = some lr[i]:=aH2 hlt;obtain ⟨r,hr⟩:=aH0 (lr[i]);rw[←hr] at hg;obtain ⟨ad2,e2,j1,j2,j3,j4⟩:=(HFR.out.bl hbq).at_ hg;subst e2;obtain ⟨HG,HEs,Hbq2⟩:=aHI hg hes hbq;have k1:=(w11.bl (Hb2.out.trans hbq)).all8;clear hg hr hes;go_upto_region 40 with fail;obtain ⟨w6,hw6⟩:=aH0 (wq2.alloc (.cells #[r.kind,r.field,r.other,r.text] 104));have b6:=aHV hw6;have hb6:=aHU hw6;rw[←hw6];have k1:=(w11.bl (Hb2.out.trans (hbq.trans hb6))).all8;have k2:=b6.all4;have Hb6:=aHH (hbq.trans hb6);clear hw6 b6 hb6 j1 j2 j3 j4 hbq;go_wp2_with fail;refine (Hre.out r _ (HF.out.bl (Hb2.out.trans Hb6.out)) (HS.out r (List.mem_of_getElem? HG.out)) (HC.out.bl (Hb2.out.trans Hb6.out))).mono ?_;rintro e w7 ⟨rfl,hb7⟩;have Hb7:=aHH (Hb6.out.trans hb7);simp only;clear hb7 k1 k2;by_cases hz:eX lf r=0
         ·have hq:(eX lf r != 0)=false:=(by simp[hz]);have HX:=aHH (show dU lf (lr.drop (i+1))=dU lf lr by rw[←HEs.out,lU HG.out,if_pos hz]);clear hz;go_wp2_with fail;exact ⟨⟨i+1,hlt,by go_num,Hb7.out,HX.out⟩,by simp[RowKit.intOf];omega⟩
         ·have hq:(eX lf r != 0)=true:=(by simp[hz]);have HX:=aHH (show E=eX lf r by rw[HE5.out,←HEs.out,lU HG.out,if_neg hz]);clear hz;go_wp2_with fail;go_ret;exact ⟨by rw[HX.out];rfl,RF.out.trans Hb7.out⟩
        ·obtain rfl:i=lr.length:=(by omega);have HX:=aHH (show E=0 by rw[HE5.out,←hes,List.drop_length];rfl);go_wp2_with fail;go_ret;exact ⟨by rw[HX.out];rfl,RF.out.trans hbq⟩
end Go.Proofs.YtllefinciimffaaGreatDoor
