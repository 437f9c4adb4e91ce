import Derived.Test.YtllefinciimffaaGreatDoorMClaimFields24
set_option maxHeartbeats 20000000
set_option maxRecDepth 100000
namespace Go.Proofs.YtllefinciimffaaGreatDoor
open Go.RowKit Go.Shelf
theorem T9 (o two t tk:Bool):(two=false∧o=false)∨(((two=true)∨(two=false∧o=true))∧((tk=false∧t=false)∨(tk=true)∨(tk=false∧t=true))):=by
 cases o<;>cases two<;>cases t<;>cases tk<;>decide
theorem G9 {r:Rul} (h:JF r.kind=false):cN r=[r.field]:=by unfold cN;rw[h];rfl
theorem sD {r:Rul} (h:JF r.kind=true):cN r=[r.field,r.other]:=by unfold cN;rw[h];rfl
theorem XF {k:Int} (h:JF k=true):k≠1∧k≠6:=by
 unfold JF at h;simp at h;omega
theorem D4 (f:Frm) (r:Rul) (w:World) (hF:FrmAt w f) (h3:r.text.length≤1048576) (hC:SplitOk w) :
 Calls Tryz.prog 58 #[f.val,r.val] w fun e w'=>e=.returned (.int .i64 (eX f.lf r))∧Bl w w':=by
 obtain ⟨nm,fW,fH,reach,dark,AL,ac,la,FL,fc,lf,RL,rc,lr⟩:=f;obtain ⟨RE,hRE⟩:=aH0 (eX lf r);show Calls _ _ _ w fun e w'=>e=.returned (.int .i64 (eX lf r))∧Bl w w';rw[←hRE];have HRE:=aHH hRE;obtain ⟨K,hK⟩:=aH0 r.kind;obtain ⟨o,ho⟩:=aH1 r.other.isEmpty;obtain ⟨t,ht⟩:=aH1 r.text.isEmpty;obtain ⟨two,aAL⟩:=aH1 (JF r.kind);obtain ⟨tk,htk⟩:=aH1 (J8 r.kind);obtain ⟨wd,hwd⟩:=aH1 (mW r.text);obtain ⟨nb,hnb⟩:=aH1 ((uP r.text).isSome);obtain ⟨HT,RT,Htk,Hwd,Hnb,HK⟩:=aHL (sB ho aAL ht htk rfl hwd rfl hnb) aAL htk hwd hnb hK;let w1:=((w).alloc (.cells #[nm,fW,fH,reach,dark,.slice AL la.length ac,.slice FL lf.length fc,.slice RL lr.length rc] 26)).alloc (.cells #[r.kind,r.field,r.other,r.text] 104);obtain ⟨w1b,w11,w12⟩:=aHP (x:=w1) w _ _ _ _ rfl;have hfa:=fun (n:List UInt8) wx (hF:FrmAt wx ⟨nm,fW,fH,reach,dark,AL,ac,la,FL,fc,lf,RL,rc,lr⟩)=>nV _ n wx hF;unfold Frm.val at hfa;obtain ⟨HF,HC,Hfa⟩:=aHI (hF.bl w1b) (hC.bl w1b) hfa;have hsp:=fun wx hC=>BA r.text wx (by omega) hC;have hcf:=fun wx=>vC r.text wx;have hn2:=fun wx=>KQ ⟨r.text.toArray⟩ wx (by rw[Lib.size_mk];omega);obtain ⟨Hsp,Hcf,Hn2⟩:=aHI hsp hcf hn2;have k1:=w11.all8;have k2:=w12.all4;have hln:lf.length≤9223372036854775807:=hF.fn.2;have dM:=aHH w1b;unfold Frm.val Rul.val;clear hF hC hRE hfa w1b hsp hcf hn2 aAL htk hwd hnb hK
 go_in
 cases hin:inB r.kind 1 6 with
 |false=>have HX:=aHH (qQ (fs:=lf) hin);have hI:∀wx,Calls Tryz.prog 13 #[r.kind,.int .i64 1,.int .i64 6] wx fun e w'=>e=.returned (.bool false)∧wx=w':=fun wx=>(by rw[←hin];exact eJ _ _ _ _);have HI:=aHH hI;clear hin hI;go_wp2_with (go_at_call 13;refine (HI.out _).mono ?_;rintro e w' ⟨rfl,rfl⟩);go_ret;exact ⟨by rw[HRE.out,HX.out];rfl,dM.out⟩
 |true=>
 have HIn:=aHH hin;have hI:∀wx,Calls Tryz.prog 13 #[r.kind,.int .i64 1,.int .i64 6] wx fun e w'=>e=.returned (.bool true)∧wx=w':=fun wx=>(by rw[←hin];exact eJ _ _ _ _);have HI:=aHH hI;clear hin hI;go_upto_region 3 with (go_at_call 13;refine (HI.out _).mono ?_;rintro e w' ⟨rfl,rfl⟩);go_cut [5] from 16 to 24 (fun s wc=>s=.bool two∧w1=wc);case first=>
  have hd:two=(decide (r.kind=4)||decide (r.kind=5)):=RT.out.symm;by_cases c4:r.kind=4
  ·have q4:(r.kind==4)=true:=(by simpa using c4);have HX:=aHH (show two=true by rw[hd,aIu c4];rfl);clear hd c4;go_wp2_with fail;go_meet;case rel=>exact ⟨by rw[HX.out],rfl⟩
  ·have q4:(r.kind==4)=false:=(by simpa using c4);by_cases c5:r.kind=5
   ·have q5:(r.kind==5)=true:=(by simpa using c5);have HX:=aHH (show two=true by rw[hd,aIu c5,Bool.or_true]);clear hd c5;go_wp2_with fail;go_meet;case rel=>exact ⟨by rw[HX.out],rfl⟩
   ·have q5:(r.kind==5)=false:=(by simpa using c5);have HX:=aHH (show two=false by rw[hd,aIt c4,aIt c5];rfl);clear hd;go_wp2_with fail;go_meet;case rel=>exact ⟨by rw[HX.out],rfl⟩
 case rest=>
 rename World=>wd1;obtain ⟨rfl,rfl⟩:=hcut;go_upto_region 4 with fail;go_cut [6] from 24 to 32 (fun s wc=>s=.bool tk∧w1=wc);case first=>
  have hd:tk=(decide (r.kind=3)||decide (r.kind=6)):=Htk.out.symm;by_cases c4:r.kind=3
  ·have q4:(r.kind==3)=true:=(by simpa using c4);have HX:=aHH (show tk=true by rw[hd,aIu c4];rfl);clear hd c4;go_wp2_with fail;go_meet;case rel=>exact ⟨by rw[HX.out],rfl⟩
  ·have q4:(r.kind==3)=false:=(by simpa using c4);by_cases c5:r.kind=6
   ·have q5:(r.kind==6)=true:=(by simpa using c5);have HX:=aHH (show tk=true by rw[hd,aIu c5,Bool.or_true]);clear hd c5;go_wp2_with fail;go_meet;case rel=>exact ⟨by rw[HX.out],rfl⟩
   ·have q5:(r.kind==6)=false:=(by simpa using c5);have HX:=aHH (show tk=false by rw[hd,aIt c4,aIt c5];rfl);clear hd;go_wp2_with fail;go_meet;case rel=>exact ⟨by rw[HX.out],rfl⟩
 case rest=>
 rename World=>wd1;obtain ⟨rfl,rfl⟩:=hcut;go_upto_region 5 with fail;refine aHZ [aHX 0,aHX 1,aHX 2,aHX 4,aHX 5,aHX 6,aHY 3,aHY 7,aHX 8,aHX 9] (by kernel_rfl) ?_
 iterate 6
  apply Flow.calm2 _ _ rfl rfl
  ·intro a b c d;obtain ⟨e,f⟩:=b.rule;go_simp;(try go_ints);exact d
  ·intro a b;simp only[sqA];exact b
 apply Flow.move rfl;go_wp2_with fail;refine (Hfa.out _ _ (HF.out.bl (Bl.refl _).drew)).mono ?_;rintro e w2 ⟨ia,rfl,hia,HB1⟩;have Hia:=aHH hia;have hb2:Bl w1 w2:=Bl.ofDrew HB1;clear hia;go_wp2_with fail;refine ⟨fun _=>(by first|exact HB1|exact Bl.refl _),?_⟩;apply Flow.move rfl;go_wp2_with fail;refine (Hfa.out _ _ (HF.out.bl hb2)).mono ?_;rintro e w3 ⟨ib,rfl,hib,HB2⟩;have Hib:=aHH hib;clear hib;go_wp2_with fail;refine ⟨fun _=>(by first|exact HB2|exact Bl.refl _),?_⟩
 iterate 2
  apply Flow.asg _ rfl
  ·intro a b;simp only[sqA,Act.eval,sqC];exact b
 refine Flow.done ?_;have hb3:Bl w1 w3:=hb2.trans HB2;have Hb3:=aHH hb3;have k1:=(w11.bl hb3).all8;have k2:=(w12.bl hb3).all4;clear hb2 HB1 HB2 hb3;obtain ⟨NO,hNO⟩:∃b,b=(cN r).any fun n=>decide (fR lf n=none):=⟨_,rfl⟩;obtain ⟨BAD,aEe⟩:=aH0 ((cN r).any (fO lf r.kind));obtain ⟨TT,hTT⟩:=aH0 (oZ r);have HE:=aHH (show RE=aB [aE NO 10,aE BAD 1,aE TT 2] by
  rw[HRE.out,l6,HIn.out,hNO,aEe,hTT];exact bT)
 obtain ⟨HNO,aFK,HTT⟩:=aHI hNO aEe (hTT.trans HT.out);clear hNO aEe hTT;go_upto_region 6 with fail;go_cut [48] from 40 to 48 (fun s wc=>s=.bool NO∧w3=wc);case first=>
  rcases jE Hia.out with ⟨ha0,hka⟩|⟨ja,fa,rfl,aAQ,hka⟩
  ·have HX:=aHH (show NO=true by rw[HNO.out];exact aIm.2 ⟨r.field,by unfold cN;split<;>simp,aIu hka⟩);clear hka;go_wp2_with fail;go_meet;case rel=>exact ⟨by rw[HX.out],rfl⟩
  ·cases two with
   |false=>have HX:=aHH (show NO=false by rw[HNO.out,G9 RT.out];simp[hka]);clear hka aAQ;go_wp2_with fail;go_meet;case rel=>exact ⟨by rw[HX.out]<;>first|rfl|exact congrArg Value.bool (aIt (by omega)),rfl⟩
   |true=>
    rcases jE Hib.out with ⟨hb0,hkb⟩|⟨jb,fb,rfl,aCe,hkb⟩
    ·have HX:=aHH (show NO=true by rw[HNO.out,sD RT.out];simp[hkb]);clear hka aAQ hkb;go_wp2_with fail;go_meet;case rel=>exact ⟨by rw[HX.out]<;>first|rfl|exact congrArg Value.bool (aIt (by omega)),rfl⟩
    ·have HX:=aHH (show NO=false by rw[HNO.out,sD RT.out];simp[hka,hkb]);clear hka aAQ hkb aCe;go_wp2_with fail;go_meet;case rel=>exact ⟨by rw[HX.out]<;>first|rfl|exact congrArg Value.bool (aIt (by omega)),rfl⟩
 case rest=>
 rename World=>wd1;obtain ⟨rfl,rfl⟩:=hcut;cases NO with
 |true=>have HX:=aHH (show RE=10 by rw[HE.out];rfl);go_wp2_with fail;go_ret;exact ⟨by rw[HX.out];rfl,dM.out.trans Hb3.out⟩
 |false=>
 have aCf:=aHH (show ∀n∈cN r,fR lf n≠none from fun n hn h=>by
  have:=HNO.out;rw[eq_comm,List.any_eq_false] at this;exact this n hn (aIu h))
 rcases jE Hia.out with ⟨ha0,hka⟩|⟨ja,fa,rfl,aAQ,hka⟩
 ·exact absurd hka (aCf.out r.field (by unfold cN;split<;>simp))
 obtain ⟨adF,e1,j1,j2,j3,j4,j5,j6,j7,j8,j9⟩:=FldsAt.at_ (HF.out.flds.bl Hb3.out) aAQ;simp only at e1;subst e1;have hjl:=(aH3.1 aAQ).1;have Hka:=aHH hka;clear hka aAQ;go_upto_region 8 with fail;go_cut [76] from 49 to 77 (fun s wc=>s=.bool BAD∧Bl w3 wc);case first=>
  cases two with
  |false=>
   have HB1:=aHH (show BAD=(!decide (r.kind=1)&&(cC fa.kind != decide (r.kind=6))) by rw[aFK.out,G9 RT.out];unfold fO;rw[List.any_cons,Hka.out];simp);by_cases hk1:r.kind=1
   ·have q1:(r.kind != 1)=false:=(by simp[hk1]);have HX:=aHH (show BAD=false by rw[HB1.out,aIu hk1];rfl);clear hk1;refine aHZ [aHX 0,aHX 1,aHX 2,aHX 3,aHX 4,aHX 5,aHX 6,aHX 7,aHX 8,aHX 9,aHX 11,aHX 12,aHX 13,aHY 10,aHX 14,aHX 15,aHX 16,aHX 17,aHX 18,aHX 19,aHX 20,aHX 21,aHX 22,aHX 23,aHX 24,aHY 25,aHX 26,aHX 27] (by kernel_rfl) ?_
    iterate 3
     apply Flow.calm2 _ _ rfl rfl
     ·intro a b c d;obtain ⟨e,f⟩:=b.rule;go_simp;(try go_ints);exact d
     ·intro a b;simp only[sqA];exact b
    apply Flow.mv _ rfl
    ·intro a b;simp only[sqA,Act.eval,sqC];exact b
    iterate 9
     first
      | (apply Flow.pass rfl (by rfl))
      | (apply Flow.calmG _ rfl (by rfl)
         ·intro a b;obtain ⟨e,f⟩:=b.rule;go_simp;all_goals (try rfl))
     simp only[sqA];try go_ints
    apply Flow.move rfl;go_wp2_with fail;first|refine ⟨fun _=>Bl.refl _,?_⟩|refine ⟨Bl.refl _,?_⟩
    first
     | (apply Flow.pass rfl (by rfl))
     | (apply Flow.calmG _ rfl (by rfl)
        ·intro a b;obtain ⟨e,f⟩:=b.rule;go_simp;all_goals (try rfl))
    simp only[sqA];try go_ints
    apply Flow.calm2 _ _ rfl rfl
    ·intro a b c d;obtain ⟨e,f⟩:=b.rule;go_simp;(try go_ints);exact d
    ·intro a b;simp only[sqA];exact b
    apply Flow.mv _ rfl
    ·intro a b;simp only[sqA,Act.eval,sqC];exact b
    iterate 8
     first
      | (apply Flow.pass rfl (by rfl))
      | (apply Flow.calmG _ rfl (by rfl)
         ·intro a b;obtain ⟨e,f⟩:=b.rule;go_simp;all_goals (try rfl))
     simp only[sqA];try go_ints
    apply Flow.move rfl;go_wp2_with fail;first|refine ⟨fun _=>Bl.refl _,?_⟩|refine ⟨Bl.refl _,?_⟩
    first
     | (apply Flow.pass rfl (by rfl))
     | (apply Flow.calmG _ rfl (by rfl)
        ·intro a b;obtain ⟨e,f⟩:=b.rule;go_simp;all_goals (try rfl))
    simp only[sqA];try go_ints
    apply Flow.calm2 _ _ rfl rfl
    ·intro a b c d;obtain ⟨e,f⟩:=b.rule;go_simp;(try go_ints);exact d
    ·intro a b;simp only[sqA];exact b
    refine Flow.done ?_;go_wp2_with fail;go_meet;case rel=>exact ⟨by rw[show BAD=false from by exact HX.out],(Bl.refl _).drew⟩
   ·have q1:(r.kind != 1)=true:=(by simp[hk1]);have e6:decide (r.kind=6)=(r.kind==6):=(by rw[Bool.eq_iff_iff];simp);rw[aIt hk1,e6] at HB1;clear hk1 e6;cases hmfa:cC fa.kind with
    |true=>
     cases h6:(r.kind==6) with
     |true=>
      have HX:=aHH (show BAD=false by rw[HB1.out,hmfa,h6];rfl);refine aHZ [aHX 0,aHX 1,aHX 2,aHX 3,aHX 4,aHX 5,aHX 6,aHX 7,aHX 8,aHX 9,aHX 11,aHX 12,aHX 13,aHY 10,aHX 14,aHX 15,aHX 16,aHX 17,aHX 18,aHX 19,aHX 20,aHX 21,aHX 22,aHX 23,aHX 24,aHY 25,aHX 26,aHX 27] (by kernel_rfl) ?_
      iterate 3
       apply Flow.calm2 _ _ rfl rfl
       ·intro a b c d;obtain ⟨e,f⟩:=b.rule;go_simp;(try go_ints);exact d
       ·intro a b;simp only[sqA];exact b
      apply Flow.mv _ rfl
      ·intro a b;simp only[sqA,Act.eval,sqC];exact b
      iterate 9
       first
        | (apply Flow.pass rfl (by rfl))
        | (apply Flow.calmG _ rfl (by rfl)
           ·intro a b;obtain ⟨e,f⟩:=b.rule;go_simp;all_goals (try rfl))
       simp only[sqA];try go_ints
      apply Flow.move rfl;go_wp2_with fail;refine (show Calls Tryz.prog 117 #[fa.kind] _ fun e w'=>e=.returned (.bool true)∧_=w' from by rw[←hmfa];exact fC _ _).mono ?_;rintro e w' ⟨rfl,rfl⟩;go_wp2_with fail;refine ⟨fun _=>(by first|exact HB1|exact Bl.refl _),?_⟩
      first
       | (apply Flow.pass rfl (by rfl))
       | (apply Flow.calmG _ rfl (by rfl)
          ·intro a b;obtain ⟨e,f⟩:=b.rule;go_simp;all_goals (try rfl))
      simp only[sqA];try go_ints
      apply Flow.calm2 _ _ rfl rfl
      ·intro a b c d;obtain ⟨e,f⟩:=b.rule;go_simp;(try go_ints);exact d
      ·intro a b;simp only[sqA];exact b
      apply Flow.mv _ rfl
      ·intro a b;simp only[sqA,Act.eval,sqC];exact b
      iterate 8
       first
        | (apply Flow.pass rfl (by rfl))
        | (apply Flow.calmG _ rfl (by rfl)
           ·intro a b;obtain ⟨e,f⟩:=b.rule;go_simp;all_goals (try rfl))
       simp only[sqA];try go_ints
      apply Flow.move rfl;go_wp2_with fail;first|refine ⟨fun _=>Bl.refl _,?_⟩|refine ⟨Bl.refl _,?_⟩
      first
       | (apply Flow.pass rfl (by rfl))
       | (apply Flow.calmG _ rfl (by rfl)
          ·intro a b;obtain ⟨e,f⟩:=b.rule;go_simp;all_goals (try rfl))
      simp only[sqA];try go_ints
      apply Flow.calm2 _ _ rfl rfl
      ·intro a b c d;obtain ⟨e,f⟩:=b.rule;go_simp;(try go_ints);exact d
      ·intro a b;simp only[sqA];exact b
      refine Flow.done ?_;go_wp2_with fail;go_meet;case rel=>exact ⟨by rw[show BAD=false from by exact HX.out],(Bl.refl _).drew⟩
     |false=>
      have HX:=aHH (show BAD=true by rw[HB1.out,hmfa,h6];rfl);refine aHZ [aHX 0,aHX 1,aHX 2,aHX 3,aHX 4,aHX 5,aHX 6,aHX 7,aHX 8,aHX 9,aHX 11,aHX 12,aHX 13,aHY 10,aHX 14,aHX 15,aHX 16,aHX 17,aHX 18,aHX 19,aHX 20,aHX 21,aHX 22,aHX 23,aHX 24,aHY 25,aHX 26,aHX 27] (by kernel_rfl) ?_
      iterate 3
       apply Flow.calm2 _ _ rfl rfl
       ·intro a b c d;obtain ⟨e,f⟩:=b.rule;go_simp;(try go_ints);exact d
       ·intro a b;simp only[sqA];exact b
      apply Flow.mv _ rfl
      ·intro a b;simp only[sqA,Act.eval,sqC];exact b
      iterate 9
       first
        | (apply Flow.pass rfl (by rfl))
        | (apply Flow.calmG _ rfl (by rfl)
           ·intro a b;obtain ⟨e,f⟩:=b.rule;go_simp;all_goals (try rfl))
       simp only[sqA];try go_ints
      apply Flow.move rfl;go_wp2_with fail;refine (show Calls Tryz.prog 117 #[fa.kind] _ fun e w'=>e=.returned (.bool true)∧_=w' from by rw[←hmfa];exact fC _ _).mono ?_;rintro e w' ⟨rfl,rfl⟩;go_wp2_with fail;refine ⟨fun _=>(by first|exact HB1|exact Bl.refl _),?_⟩
      first
       | (apply Flow.pass rfl (by rfl))
       | (apply Flow.calmG _ rfl (by rfl)
          ·intro a b;obtain ⟨e,f⟩:=b.rule;go_simp;all_goals (try rfl))
      simp only[sqA];try go_ints
      apply Flow.calm2 _ _ rfl rfl
      ·intro a b c d;obtain ⟨e,f⟩:=b.rule;go_simp;(try go_ints);exact d
      ·intro a b;simp only[sqA];exact b
      apply Flow.mv _ rfl
      ·intro a b;simp only[sqA,Act.eval,sqC];exact b
      iterate 8
       first
        | (apply Flow.pass rfl (by rfl))
        | (apply Flow.calmG _ rfl (by rfl)
           ·intro a b;obtain ⟨e,f⟩:=b.rule;go_simp;all_goals (try rfl))
       simp only[sqA];try go_ints
      apply Flow.move rfl;go_wp2_with fail;first|refine ⟨fun _=>Bl.refl _,?_⟩|refine ⟨Bl.refl _,?_⟩
      first
       | (apply Flow.pass rfl (by rfl))
       | (apply Flow.calmG _ rfl (by rfl)
          ·intro a b;obtain ⟨e,f⟩:=b.rule;go_simp;all_goals (try rfl))
      simp only[sqA];try go_ints
      apply Flow.calm2 _ _ rfl rfl
      ·intro a b c d;obtain ⟨e,f⟩:=b.rule;go_simp;(try go_ints);exact d
      ·intro a b;simp only[sqA];exact b
      refine Flow.done ?_;go_wp2_with fail;go_meet;case rel=>exact ⟨by rw[show BAD=true from by exact HX.out],(Bl.refl _).drew⟩
    |false=>
     cases h6:(r.kind==6) with
     |true=>
      have HX:=aHH (show BAD=true by rw[HB1.out,hmfa,h6];rfl);refine aHZ [aHX 0,aHX 1,aHX 2,aHX 3,aHX 4,aHX 5,aHX 6,aHX 7,aHX 8,aHX 9,aHX 11,aHX 12,aHX 13,aHY 10,aHX 14,aHX 15,aHX 16,aHX 17,aHX 18,aHX 19,aHX 20,aHX 21,aHX 22,aHX 23,aHX 24,aHY 25,aHX 26,aHX 27] (by kernel_rfl) ?_
      iterate 3
       apply Flow.calm2 _ _ rfl rfl
       ·intro a b c d;obtain ⟨e,f⟩:=b.rule;go_simp;(try go_ints);exact d
       ·intro a b;simp only[sqA];exact b
      apply Flow.mv _ rfl
      ·intro a b;simp only[sqA,Act.eval,sqC];exact b
      iterate 9
       first
        | (apply Flow.pass rfl (by rfl))
        | (apply Flow.calmG _ rfl (by rfl)
           ·intro a b;obtain ⟨e,f⟩:=b.rule;go_simp;all_goals (try rfl))
       simp only[sqA];try go_ints
      apply Flow.move rfl;go_wp2_with fail;refine (show Calls Tryz.prog 117 #[fa.kind] _ fun e w'=>e=.returned (.bool false)∧_=w' from by rw[←hmfa];exact fC _ _).mono ?_;rintro e w' ⟨rfl,rfl⟩;go_wp2_with fail;refine ⟨fun _=>(by first|exact HB1|exact Bl.refl _),?_⟩
      first
       | (apply Flow.pass rfl (by rfl))
       | (apply Flow.calmG _ rfl (by rfl)
          ·intro a b;obtain ⟨e,f⟩:=b.rule;go_simp;all_goals (try rfl))
      simp only[sqA];try go_ints
      apply Flow.calm2 _ _ rfl rfl
      ·intro a b c d;obtain ⟨e,f⟩:=b.rule;go_simp;(try go_ints);exact d
      ·intro a b;simp only[sqA];exact b
      apply Flow.mv _ rfl
      ·intro a b;simp only[sqA,Act.eval,sqC];exact b
      iterate 8
       first
        | (apply Flow.pass rfl (by rfl))
        | (apply Flow.calmG _ rfl (by rfl)
           ·intro a b;obtain ⟨e,f⟩:=b.rule;go_simp;all_goals (try rfl))
       simp only[sqA];try go_ints
      apply Flow.move rfl;go_wp2_with fail;first|refine ⟨fun _=>Bl.refl _,?_⟩|refine ⟨Bl.refl _,?_⟩
      first
       | (apply Flow.pass rfl (by rfl))
       | (apply Flow.calmG _ rfl (by rfl)
          ·intro a b;obtain ⟨e,f⟩:=b.rule;go_simp;all_goals (try rfl))
      simp only[sqA];try go_ints
      apply Flow.calm2 _ _ rfl rfl
      ·intro a b c d;obtain ⟨e,f⟩:=b.rule;go_simp;(try go_ints);exact d
      ·intro a b;simp only[sqA];exact b
      refine Flow.done ?_;go_wp2_with fail;go_meet;case rel=>exact ⟨by rw[show BAD=true from by exact HX.out],(Bl.refl _).drew⟩
     |false=>
      have HX:=aHH (show BAD=false by rw[HB1.out,hmfa,h6];rfl);refine aHZ [aHX 0,aHX 1,aHX 2,aHX 3,aHX 4,aHX 5,aHX 6,aHX 7,aHX 8,aHX 9,aHX 11,aHX 12,aHX 13,aHY 10,aHX 14,aHX 15,aHX 16,aHX 17,aHX 18,aHX 19,aHX 20,aHX 21,aHX 22,aHX 23,aHX 24,aHY 25,aHX 26,aHX 27] (by kernel_rfl) ?_
      iterate 3
       apply Flow.calm2 _ _ rfl rfl
       ·intro a b c d;obtain ⟨e,f⟩:=b.rule;go_simp;(try go_ints);exact d
       ·intro a b;simp only[sqA];exact b
      apply Flow.mv _ rfl
      ·intro a b;simp only[sqA,Act.eval,sqC];exact b
      iterate 9
       first
        | (apply Flow.pass rfl (by rfl))
        | (apply Flow.calmG _ rfl (by rfl)
           ·intro a b;obtain ⟨e,f⟩:=b.rule;go_simp;all_goals (try rfl))
       simp only[sqA];try go_ints
      apply Flow.move rfl;go_wp2_with fail;refine (show Calls Tryz.prog 117 #[fa.kind] _ fun e w'=>e=.returned (.bool false)∧_=w' from by rw[←hmfa];exact fC _ _).mono ?_;rintro e w' ⟨rfl,rfl⟩;go_wp2_with fail;refine ⟨fun _=>(by first|exact HB1|exact Bl.refl _),?_⟩
      first
       | (apply Flow.pass rfl (by rfl))
       | (apply Flow.calmG _ rfl (by rfl)
          ·intro a b;obtain ⟨e,f⟩:=b.rule;go_simp;all_goals (try rfl))
      simp only[sqA];try go_ints
      apply Flow.calm2 _ _ rfl rfl
      ·intro a b c d;obtain ⟨e,f⟩:=b.rule;go_simp;(try go_ints);exact d
      ·intro a b;simp only[sqA];exact b
      apply Flow.mv _ rfl
      ·intro a b;simp only[sqA,Act.eval,sqC];exact b
      iterate 8
       first
        | (apply Flow.pass rfl (by rfl))
        | (apply Flow.calmG _ rfl (by rfl)
           ·intro a b;obtain ⟨e,f⟩:=b.rule;go_simp;all_goals (try rfl))
       simp only[sqA];try go_ints
      apply Flow.move rfl;go_wp2_with fail;first|refine ⟨fun _=>Bl.refl _,?_⟩|refine ⟨Bl.refl _,?_⟩
      first
       | (apply Flow.pass rfl (by rfl))
       | (apply Flow.calmG _ rfl (by rfl)
          ·intro a b;obtain ⟨e,f⟩:=b.rule;go_simp;all_goals (try rfl))
      simp only[sqA];try go_ints
      apply Flow.calm2 _ _ rfl rfl
      ·intro a b c d;obtain ⟨e,f⟩:=b.rule;go_simp;(try go_ints);exact d
      ·intro a b;simp only[sqA];exact b
      refine Flow.done ?_;go_wp2_with fail;go_meet;case rel=>exact ⟨by rw[show BAD=false from by exact HX.out],(Bl.refl _).drew⟩
  |true=>
   obtain ⟨hk1,hk6⟩:=XF RT.out;rcases jE Hib.out with ⟨hb0,hkb⟩|⟨jb,fb,rfl,aCe,hkb⟩
   ·exact absurd hkb (aCf.out r.other (by rw[sD RT.out];simp))
   obtain ⟨adF2,e2,i1,i2,i3,i4,i5,i6,i7,i8,i9⟩:=FldsAt.at_ (HF.out.flds.bl Hb3.out) aCe;obtain rfl:=aIw e2;have hjl2:=(aH3.1 aCe).1;have HB1:=aHH (show BAD=(cC fa.kind||cC fb.kind) by rw[aFK.out,sD RT.out];unfold fO;rw[List.any_cons,List.any_cons,Hka.out,hkb,aIt hk1,aIt hk6];simp);have q1:(r.kind != 1)=true:=(by simp[hk1]);have h6:(r.kind==6)=false:=(by simp[hk6]);clear hk1 hk6 hkb aCe e2;cases hmfa:cC fa.kind with
   |true=>
    have HX:=aHH (show BAD=true by rw[HB1.out,hmfa];rfl);refine aHZ [aHX 0,aHX 1,aHX 2,aHX 3,aHX 4,aHX 5,aHX 6,aHX 7,aHX 8,aHX 9,aHX 11,aHX 12,aHX 13,aHY 10,aHX 14,aHX 15,aHX 16,aHX 17,aHX 18,aHX 19,aHX 20,aHX 21,aHX 22,aHX 23,aHX 24,aHY 25,aHX 26,aHX 27] (by kernel_rfl) ?_
    iterate 3
     apply Flow.calm2 _ _ rfl rfl
     ·intro a b c d;obtain ⟨e,f⟩:=b.rule;go_simp;(try go_ints);exact d
     ·intro a b;simp only[sqA];exact b
    apply Flow.mv _ rfl
    ·intro a b;simp only[sqA,Act.eval,sqC];exact b
    iterate 9
     first
      | (apply Flow.pass rfl (by rfl))
      | (apply Flow.calmG _ rfl (by rfl)
         ·intro a b;obtain ⟨e,f⟩:=b.rule;go_simp;all_goals (try rfl))
     simp only[sqA];try go_ints
    apply Flow.move rfl;go_wp2_with fail;refine (show Calls Tryz.prog 117 #[fa.kind] _ fun e w'=>e=.returned (.bool true)∧_=w' from by rw[←hmfa];exact fC _ _).mono ?_;rintro e w' ⟨rfl,rfl⟩;go_wp2_with fail;refine ⟨fun _=>(by first|exact HB1|exact Bl.refl _),?_⟩
    first
     | (apply Flow.pass rfl (by rfl))
     | (apply Flow.calmG _ rfl (by rfl)
        ·intro a b;obtain ⟨e,f⟩:=b.rule;go_simp;all_goals (try rfl))
    simp only[sqA];try go_ints
    apply Flow.calm2 _ _ rfl rfl
    ·intro a b c d;obtain ⟨e,f⟩:=b.rule;go_simp;(try go_ints);exact d
    ·intro a b;simp only[sqA];exact b
    apply Flow.mv _ rfl
    ·intro a b;simp only[sqA,Act.eval,sqC];exact b
    iterate 8
     first
      | (apply Flow.pass rfl (by rfl))
      | (apply Flow.calmG _ rfl (by rfl)
         ·intro a b;obtain ⟨e,f⟩:=b.rule;go_simp;all_goals (try rfl))
     simp only[sqA];try go_ints
    apply Flow.move rfl;go_wp2_with fail;first|refine ⟨fun _=>Bl.refl _,?_⟩|refine ⟨Bl.refl _,?_⟩
    first
     | (apply Flow.pass rfl (by rfl))
     | (apply Flow.calmG _ rfl (by rfl)
        ·intro a b;obtain ⟨e,f⟩:=b.rule;go_simp;all_goals (try rfl))
    simp only[sqA];try go_ints
    apply Flow.calm2 _ _ rfl rfl
    ·intro a b c d;obtain ⟨e,f⟩:=b.rule;go_simp;(try go_ints);exact d
    ·intro a b;simp only[sqA];exact b
    refine Flow.done ?_;go_wp2_with fail;go_meet;case rel=>exact ⟨by rw[show BAD=true from by exact HX.out],(Bl.refl _).drew⟩
   |false=>
    cases hmfb:cC fb.kind with
    |true=>
     have HX:=aHH (show BAD=true by rw[HB1.out,hmfa,hmfb];rfl);refine aHZ [aHX 0,aHX 1,aHX 2,aHX 3,aHX 4,aHX 5,aHX 6,aHX 7,aHX 8,aHX 9,aHX 11,aHX 12,aHX 13,aHY 10,aHX 14,aHX 15,aHX 16,aHX 17,aHX 18,aHX 19,aHX 20,aHX 21,aHX 22,aHX 23,aHX 24,aHY 25,aHX 26,aHX 27] (by kernel_rfl) ?_
     iterate 3
      apply Flow.calm2 _ _ rfl rfl
      ·intro a b c d;obtain ⟨e,f⟩:=b.rule;go_simp;(try go_ints);exact d
      ·intro a b;simp only[sqA];exact b
     apply Flow.mv _ rfl
     ·intro a b;simp only[sqA,Act.eval,sqC];exact b
     iterate 9
      first
       | (apply Flow.pass rfl (by rfl))
       | (apply Flow.calmG _ rfl (by rfl)
          ·intro a b;obtain ⟨e,f⟩:=b.rule;go_simp;all_goals (try rfl))
      simp only[sqA];try go_ints
     apply Flow.move rfl;go_wp2_with fail;refine (show Calls Tryz.prog 117 #[fa.kind] _ fun e w'=>e=.returned (.bool false)∧_=w' from by rw[←hmfa];exact fC _ _).mono ?_;rintro e w' ⟨rfl,rfl⟩;go_wp2_with fail;refine ⟨fun _=>(by first|exact HB1|exact Bl.refl _),?_⟩
     first
      | (apply Flow.pass rfl (by rfl))
      | (apply Flow.calmG _ rfl (by rfl)
         ·intro a b;obtain ⟨e,f⟩:=b.rule;go_simp;all_goals (try rfl))
     simp only[sqA];try go_ints
     apply Flow.calm2 _ _ rfl rfl
     ·intro a b c d;obtain ⟨e,f⟩:=b.rule;go_simp;(try go_ints);exact d
     ·intro a b;simp only[sqA];exact b
     apply Flow.mv _ rfl
     ·intro a b;simp only[sqA,Act.eval,sqC];exact b
     iterate 8
      first
       | (apply Flow.pass rfl (by rfl))
       | (apply Flow.calmG _ rfl (by rfl)
          ·intro a b;obtain ⟨e,f⟩:=b.rule;go_simp;all_goals (try rfl))
      simp only[sqA];try go_ints
     apply Flow.move rfl;go_wp2_with fail;refine (show Calls Tryz.prog 117 #[fb.kind] _ fun e w'=>e=.returned (.bool true)∧_=w' from by rw[←hmfb];exact fC _ _).mono ?_;rintro e w' ⟨rfl,rfl⟩;go_wp2_with fail;refine ⟨fun _=>(by first|exact HB2|exact Bl.refl _),?_⟩
     first
      | (apply Flow.pass rfl (by rfl))
      | (apply Flow.calmG _ rfl (by rfl)
         ·intro a b;obtain ⟨e,f⟩:=b.rule;go_simp;all_goals (try rfl))
     simp only[sqA];try go_ints
     apply Flow.calm2 _ _ rfl rfl
     ·intro a b c d;obtain ⟨e,f⟩:=b.rule;go_simp;(try go_ints);exact d
     ·intro a b;simp only[sqA];exact b
     refine Flow.done ?_;go_wp2_with fail;go_meet;case rel=>exact ⟨by rw[show BAD=true from by exact HX.out],(Bl.refl _).drew⟩
    |false=>
     have HX:=aHH (show BAD=false by rw[HB1.out,hmfa,hmfb];rfl);refine aHZ [aHX 0,aHX 1,aHX 2,aHX 3,aHX 4,aHX 5,aHX 6,aHX 7,aHX 8,aHX 9,aHX 11,aHX 12,aHX 13,aHY 10,aHX 14,aHX 15,aHX 16,aHX 17,aHX 18,aHX 19,aHX 20,aHX 21,aHX 22,aHX 23,aHX 24,aHY 25,aHX 26,aHX 27] (by kernel_rfl) ?_
     iterate 3
      apply Flow.calm2 _ _ rfl rfl
      ·intro a b c d;obtain ⟨e,f⟩:=b.rule;go_simp;(try go_ints);exact d
      ·intro a b;simp only[sqA];exact b
     apply Flow.mv _ rfl
     ·intro a b;simp only[sqA,Act.eval,sqC];exact b
     iterate 9
      first
       | (apply Flow.pass rfl (by rfl))
       | (apply Flow.calmG _ rfl (by rfl)
          ·intro a b;obtain ⟨e,f⟩:=b.rule;go_simp;all_goals (try rfl))
      simp only[sqA];try go_ints
     apply Flow.move rfl;go_wp2_with fail;refine (show Calls Tryz.prog 117 #[fa.kind] _ fun e w'=>e=.returned (.bool false)∧_=w' from by rw[←hmfa];exact fC _ _).mono ?_;rintro e w' ⟨rfl,rfl⟩;go_wp2_with fail;refine ⟨fun _=>(by first|exact HB1|exact Bl.refl _),?_⟩
     first
      | (apply Flow.pass rfl (by rfl))
      | (apply Flow.calmG _ rfl (by rfl)
         ·intro a b;obtain ⟨e,f⟩:=b.rule;go_simp;all_goals (try rfl))
     simp only[sqA];try go_ints
     apply Flow.calm2 _ _ rfl rfl
     ·intro a b c d;obtain ⟨e,f⟩:=b.rule;go_simp;(try go_ints);exact d
     ·intro a b;simp only[sqA];exact b
     apply Flow.mv _ rfl
     ·intro a b;simp only[sqA,Act.eval,sqC];exact b
     iterate 8
      first
       | (apply Flow.pass rfl (by rfl))
       | (apply Flow.calmG _ rfl (by rfl)
          ·intro a b;obtain ⟨e,f⟩:=b.rule;go_simp;all_goals (try rfl))
      simp only[sqA];try go_ints
     apply Flow.move rfl;go_wp2_with fail;refine (show Calls Tryz.prog 117 #[fb.kind] _ fun e w'=>e=.returned (.bool false)∧_=w' from by rw[←hmfb];exact fC _ _).mono ?_;rintro e w' ⟨rfl,rfl⟩;go_wp2_with fail;refine ⟨fun _=>(by first|exact HB2|exact Bl.refl _),?_⟩
     first
      | (apply Flow.pass rfl (by rfl))
      | (apply Flow.calmG _ rfl (by rfl)
         ·intro a b;obtain ⟨e,f⟩:=b.rule;go_simp;all_goals (try rfl))
     simp only[sqA];try go_ints
     apply Flow.calm2 _ _ rfl rfl
     ·intro a b c d;obtain ⟨e,f⟩:=b.rule;go_simp;(try go_ints);exact d
     ·intro a b;simp only[sqA];exact b
     refine Flow.done ?_;go_wp2_with fail;go_meet;case rel=>exact ⟨by rw[show BAD=false from by exact HX.out],(Bl.refl _).drew⟩
 case rest=>
 clear j1 j2 j3 j4 j5 j6 j7 j8 j9;rename World=>w4;obtain ⟨rfl,hb4⟩:=hcut;have Hb4:=aHH (Hb3.out.trans hb4);have k1:=(w11.bl Hb4.out).all8;have k2:=(w12.bl Hb4.out).all4;clear hb4;cases BAD with
 |true=>have HX:=aHH (show RE=1 by rw[HE.out];rfl);go_wp2_with fail;go_ret;exact ⟨by rw[HX.out];rfl,dM.out.trans Hb4.out⟩
 |false=>
 have HE2:=aHH (show RE=aE TT 2 by rw[HE.out];cases TT<;>rfl);go_upto_region 10 with fail;obtain ⟨W0,hW0⟩:=aH0 (((!two&&!o)||(!tk&&!t)));have HW0:=aHH hW0;clear hW0;go_cut [9] from 77 to 93 (fun s wc=>s=.bool W0∧w4=wc);case first=>
  rcases T9 o two t tk with ⟨rfl,rfl⟩|⟨rfl|⟨rfl,rfl⟩,⟨rfl,rfl⟩|rfl|⟨rfl,rfl⟩⟩
  all_goals
   go_wp2_with fail;go_meet;case rel=>exact ⟨by rw[HW0.out];simp,rfl⟩
 case rest=>
 rename World=>wd2;obtain ⟨rfl,rfl⟩:=hcut;have HT2:=aHH (show TT=(W0||(((r.kind==3)&&!wd)||((r.kind==6)&&!nb))) by rw[HTT.out,HW0.out,Bool.or_assoc]);obtain ⟨cE,hcE⟩:=aH0 (decide (([]:List UInt8)∈cL r.text));obtain ⟨od,hod⟩:∃b,b=r.text.any fun b=>V3 b.toNat:=⟨_,rfl⟩;have aEf:=aHH (show wd = !(cE||od) by rw[←Hwd.out,T8,hcE,hod]);have aEg:=Hcf.out;rw[←hod] at aEg;have hct:=fun (g c:Nat) wx (hr:Reads wx 1 (some ⟨g,0,none⟩) (cL r.text).length (bR (cL r.text)))=>D3 (some ⟨g,0,none⟩) c (cL r.text) [] wx hr (by have:=yD r.text;omega);rw[←hcE] at hct;have aGV:=aHH aEg;have Hct:=aHH hct;have hn3:=Hn2.out;unfold CountRes at hn3;simp only[Hnb.out] at hn3;have Hn3:=aHH hn3;clear hcE hod aEg hct hn3;cases hk3:(r.kind==3) with
 |true=>
  have hk6:(r.kind==6)=false:=by
   have h3:r.kind=3:=(by simpa using hk3);rw[h3];rfl
  rw[hk3,hk6] at HT2;cases W0 with
  |true=>have HX:=aHH (show TT=true by rw[HT2.out];rfl);go_wp2_with (go_at_call 9;refine (aI _ _ _).mono ?_;rintro e w' ⟨rfl,rfl⟩);go_ret;exact ⟨by rw[HE2.out,HX.out];rfl,dM.out.trans (Hb4.out)⟩
  |false=>
   go_wp2_with fail;refine (Hsp.out _ (HC.out.bl Hb4.out)).mono ?_;rintro e w5 ⟨c5,rfl,hr5,hb5⟩;have Hr5:=aHH hr5;have Hb5:=aHH (Hb4.out.trans hb5);have k2:=(w12.bl Hb5.out).all4;clear hr5 hb5;go_wp2_with fail;refine (Hct.out _ _ _ Hr5.out).mono ?_;rintro e w' ⟨rfl,rfl⟩;cases cE with
   |true=>have HX:=aHH (show TT=true by rw[HT2.out];rw[aEf.out];rfl);go_wp2_with (go_at_call 9;refine (aI _ _ _).mono ?_;rintro e w' ⟨rfl,rfl⟩);go_ret;exact ⟨by rw[HE2.out,HX.out];rfl,dM.out.trans (Hb5.out)⟩
   |false=>
    go_wp2_with fail;refine (aGV.out _).mono ?_;rintro e w6 ⟨rfl,hb6⟩;have Hb6:=aHH (Hb5.out.trans hb6);clear hb6;cases od with
    |true=>have HX:=aHH (show TT=true by rw[HT2.out];rw[aEf.out];rfl);go_wp2_with (go_at_call 9;refine (aI _ _ _).mono ?_;rintro e w' ⟨rfl,rfl⟩);go_ret;exact ⟨by rw[HE2.out,HX.out];rfl,dM.out.trans (Hb6.out)⟩
    |false=>have HX:=aHH (show TT=false by rw[HT2.out];rw[aEf.out];rfl);go_wp2_with (go_at_call 9;refine (aI _ _ _).mono ?_;rintro e w' ⟨rfl,rfl⟩);go_ret;exact ⟨by rw[HE2.out,HX.out];rfl,dM.out.trans (Hb6.out)⟩
 |false=>
  rw[hk3] at HT2;cases hk6:(r.kind==6) with
  |true=>
   rw[hk6] at HT2;go_wp2_with fail;refine (Hn3.out _).mono ?_;rintro e w5 ⟨v5,rfl,-,hb5⟩;have Hb5:=aHH (Hb4.out.trans hb5);clear hb5;cases W0 with
   |true=>have HX:=aHH (show TT=true by rw[HT2.out];rfl);go_wp2_with (go_at_call 9;refine (aI _ _ _).mono ?_;rintro e w' ⟨rfl,rfl⟩);go_ret;exact ⟨by rw[HE2.out,HX.out];rfl,dM.out.trans (Hb5.out)⟩
   |false=>
    cases nb with
    |true=>have HX:=aHH (show TT=false by rw[HT2.out];rfl);go_wp2_with (go_at_call 9;refine (aI _ _ _).mono ?_;rintro e w' ⟨rfl,rfl⟩);go_ret;exact ⟨by rw[HE2.out,HX.out];rfl,dM.out.trans (Hb5.out)⟩
    |false=>have HX:=aHH (show TT=true by rw[HT2.out];rfl);go_wp2_with (go_at_call 9;refine (aI _ _ _).mono ?_;rintro e w' ⟨rfl,rfl⟩);go_ret;exact ⟨by rw[HE2.out,HX.out];rfl,dM.out.trans (Hb5.out)⟩
  |false=>
   rw[hk6] at HT2;cases W0 with
   |true=>have HX:=aHH (show TT=true by rw[HT2.out];rfl);go_wp2_with (go_at_call 9;refine (aI _ _ _).mono ?_;rintro e w' ⟨rfl,rfl⟩);go_ret;exact ⟨by rw[HE2.out,HX.out];rfl,dM.out.trans (Hb4.out)⟩
   |false=>have HX:=aHH (show TT=false by rw[HT2.out];rfl);go_wp2_with (go_at_call 9;refine (aI _ _ _).mono ?_;rintro e w' ⟨rfl,rfl⟩);go_ret;exact ⟨by rw[HE2.out,HX.out];rfl,dM.out.trans (Hb4.out)⟩
end Go.Proofs.YtllefinciimffaaGreatDoor
