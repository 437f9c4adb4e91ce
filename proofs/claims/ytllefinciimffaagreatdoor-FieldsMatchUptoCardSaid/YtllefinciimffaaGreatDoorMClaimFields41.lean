import Derived.Test.YtllefinciimffaaGreatDoorMClaimFields40
set_option maxHeartbeats 20000000
set_option maxRecDepth 100000
namespace Go.Proofs.YtllefinciimffaaGreatDoor
open Go.RowKit Go.Shelf
theorem EP (a:Int):aB [0,a]=a:=by show (if (0:Int)=0 then (if a=0 then 0 else a) else 0)=a;split<;>simp_all
theorem I7 {a b:Int} (h:a≠0):aB [a,b]=a:=by show (if a=0 then _ else a)=a;rw[if_neg h]
theorem Q4 (f : Frm) (bW bH : Int) (C : Option Addr) (n cc : Nat) (cs : List Bool) (fnm : List UInt8) (ht gap sp : Int) (L : Option Addr) (lc : Nat) (ls : List Ltr) (nm : List UInt8) (w : World) (hF : FrmAt w f) (hS : f.small 1048576) (hN : NumOk w) (hC : SplitOk w) (hT : SpOk w)
 (hL:LtrsAt w L ls) (hnm:fnm.length≤9223372036854775807) (hn:ls.length≤9223372036854775807) (hlc:ls.length≤lc) (hR:Reads w 1 C n (cs.map .bool)) (mK:f.err≠0) :
 Calls Tryz.prog 4 #[f.val,.agg #[bW,bH,.slice C n cc],.agg #[fnm,ht,gap,sp,.slice L ls.length lc],nm] w fun e w'=>e=.returned (.bool true)∧Bl w w':=by
 have hmk:=fun wx hF hN hC hR=>wC f bW bH C n cc cs nm wx hF hS hN hC hR;have hrd:=fun wx hF hN hC hT hL hR=>sO f bW bH C n cc cs fnm ht gap sp L lc ls wx hF hS hN hC hT hL hnm hn hR;have hfe:=fun wx hF hN hC=>kG f wx hF hS hN hC;have hfo:=fun wx hF=>nV f nm wx hF;have hte:=fun wx hL=>nN fnm ht gap sp L lc ls wx hL hnm hn hlc;have e1:EN f bW bH n nm=f.err:=by
  have h:mH f bW bH n=f.err:=(by unfold mH;rw[if_neg mK]);unfold EN;rw[h,if_neg mK]
 have e2:lI f.err (bN (cG fnm) ht gap sp ls) (iW f.W f.H bW bH n) (LK ht f.lf)=f.err:=(by unfold lI;rw[if_neg mK]);rw[e1] at hmk;rw[e2] at hrd;obtain ⟨ML,hML⟩:=aH0 (lF f cs nm);obtain ⟨VL,hVL⟩:=aH0 (sN f cs ht gap sp ls);rw[←hML] at hmk;rw[←hVL] at hrd;obtain ⟨TE,hTE⟩:=aH0 (bN (cG fnm) ht gap sp ls);simp only[←hTE] at hte;obtain ⟨E,hE⟩:=aH0 f.err;rw[←hE] at hmk hrd hfe mK;unfold MarkRes at hmk;unfold FReadRes at hrd;obtain ⟨nm',fW,fH,reach,dark,AL,ac,la,FL,fc,lf,RL,rc,lr⟩:=f;let w1:=(((w).alloc (.cells #[nm',fW,fH,reach,dark,.slice AL la.length ac,.slice FL lf.length fc,.slice RL lr.length rc] 26)).alloc (.cells #[bW,bH,.slice C n cc] 43)).alloc (.cells #[fnm,ht,gap,sp,.slice L ls.length lc] 46);obtain ⟨w1b,w11,w12,w13⟩:=aHQ (x:=w1) w _ _ _ _ _ _ rfl;unfold Frm.val at hmk hrd hfe hfo;have k1:=w11.all8;have k2:=w12.all3;have k3:=w13.all5;obtain ⟨dM,Hmk,Hrd,Hfe,Hfo,Hte,HF,HN⟩:=aHN w1b hmk hrd hfe hfo hte (hF.bl w1b) (hN.bl w1b);obtain ⟨HC,HT,HL,HR,Hfm⟩:=aHK (hC.bl w1b) (hT.bl w1b) (hL.bl w1b) (hR.bl w1b) (fun wx hN hC=>pF wx hN hC);have hq:(E==0)=false:=(by simp[mK]);have hq2:(E != E)=false:=(by simp);have hq3:(E != 0)=true:=(by simp[mK]);have ZR:=aHH mK;unfold Frm.val;clear hmk hrd hfe hfo hte hF hN hC hT hL hR hS hnm hn hlc hML hVL hTE hE w1b mK e1 e2
 go_in
 go_upto_region 1 with fail;rw[show ((w.alloc (.cells #[nm',fW,fH,reach,dark,.slice AL la.length ac,.slice FL lf.length fc,.slice RL lr.length rc] 26)).alloc (.cells #[bW,bH,.slice C n cc] 43)).alloc (.cells #[fnm,ht,gap,sp,.slice L ls.length lc] 46)=w1 from rfl];clear_value w1;go_upto_region 2 with (go_at_call 15;refine (Hmk.out _ HF.out HN.out HC.out HR.out).mono ?_;rintro e w2 ⟨⟨A2,m2,c2,rfl,hm2,-⟩,hb2⟩);obtain rfl:m2=0:=hm2 ZR.out;have Hb2:=aHH hb2;have k1:=(w11.bl hb2).all8;have k2:=(w12.bl hb2).all3;have k3:=(w13.bl hb2).all5;clear hb2 hm2;go_upto_region 3 with (go_at_call 16;refine (Hrd.out _ (HF.out.bl Hb2.out) (HN.out.bl Hb2.out) (HC.out.bl Hb2.out) (HT.out.bl Hb2.out) (HL.out.bl Hb2.out) (HR.out.bl Hb2.out)).mono ?_;rintro e w3 ⟨⟨A3,m3,c3,rfl,hm3,-⟩,hb3⟩);obtain rfl:m3=0:=hm3 ZR.out;have Hb3:=aHH (Hb2.out.trans hb3);have k1:=(w11.bl Hb3.out).all8;clear hb3 hm3 k2 k3;go_upto_region 4 with (go_at_call 7;refine (Hfe.out _ (HF.out.bl Hb3.out) (HN.out.bl Hb3.out) (HC.out.bl Hb3.out)).mono ?_;rintro e w4 ⟨rfl,hb4⟩);have Hb4:=aHH (Hb3.out.trans hb4);clear hb4 k1;go_upto_region 6 with (go_at_call 10;refine (Hfm.out _ (HN.out.bl Hb4.out) (HC.out.bl Hb4.out)).mono ?_;rintro e w5 ⟨rfl,hb5⟩;have k1:=(w11.bl (Hb4.out.trans hb5)).all8);have Hb5:=aHH (Hb4.out.trans hb5);have k1:=(w11.bl Hb5.out).all8;clear hb5;go_upto_region 11 with (go_at_call 19;refine (Hfo.out _ (HF.out.bl Hb5.out)).mono ?_;rintro e w6 ⟨ix,rfl,-,hb6⟩);have Hb6:=aHH (Hb5.out.trans hb6);clear hb6 k1;go_upto_region 17 with fail;obtain ⟨w7,hw7⟩:=aH0 (w6.alloc (.cells #[.int .i64 0,.int .i64 0,.slice none 0 0] 43));have hb7:=aHU hw7;rw[←hw7];have Hb7:=aHH (Hb6.out.trans hb7);have k3:=(w13.bl Hb7.out).all5;clear hw7 hb7;go_upto_region 19 with fail;refine aHZ [aHX 0,aHX 1,aHX 2,aHX 3,aHX 4,aHX 5,aHX 6,aHX 7,aHX 8,aHX 9,aHX 10,aHX 11,aHX 12,aHX 13,aHX 14,aHX 15,aHX 16,aHX 17,aHX 18,aHX 19,aHX 20,aHX 21,aHX 22,aHX 23,aHY 24,aHY 25,aHX 26,aHX 27,aHX 28] (by kernel_rfl) ?_
 iterate 2
  apply Flow.mv _ rfl
  ·intro a b;simp only[sqA,Act.eval,sqC];exact b
 apply Flow.calm2 _ _ rfl rfl
 ·intro a b c d;obtain ⟨e,f⟩:=b.rule;go_simp;(try go_ints);exact d
 ·intro a b;simp only[sqA];exact b
 apply Flow.mv _ rfl
 ·intro a b;simp only[sqA,Act.eval,sqC];exact b
 iterate 7
  first
   | (apply Flow.pass rfl (by rfl))
   | (apply Flow.calmG _ rfl (by rfl)
      ·intro a b;obtain ⟨e,f⟩:=b.rule;go_simp;all_goals (try rfl))
  simp only[sqA];try go_ints
 apply Flow.calm2 _ _ rfl rfl
 ·intro a b c d;obtain ⟨e,f⟩:=b.rule;go_simp;(try go_ints);exact d
 ·intro a b;simp only[sqA];exact b
 apply Flow.mv _ rfl
 ·intro a b;simp only[sqA,Act.eval,sqC];exact b
 iterate 11
  first
   | (apply Flow.pass rfl (by rfl))
   | (apply Flow.calmG _ rfl (by rfl)
      ·intro a b;obtain ⟨e,f⟩:=b.rule;go_simp;all_goals (try rfl))
  simp only[sqA];try go_ints
 apply Flow.move rfl;go_wp2_with fail;first|refine ⟨fun _=>Bl.refl _,?_⟩|refine ⟨Bl.refl _,?_⟩
 apply Flow.move rfl;go_wp2_with fail;first|refine ⟨fun _=>Bl.refl _,?_⟩|refine ⟨Bl.refl _,?_⟩
 iterate 2
  first
   | (apply Flow.pass rfl (by rfl))
   | (apply Flow.calmG _ rfl (by rfl)
      ·intro a b;obtain ⟨e,f⟩:=b.rule;go_simp;all_goals (try rfl))
  simp only[sqA];try go_ints
 apply Flow.calm2 _ _ rfl rfl
 ·intro a b c d;obtain ⟨e,f⟩:=b.rule;go_simp;(try go_ints);exact d
 ·intro a b;simp only[sqA];exact b
 refine Flow.done ?_;go_upto_region 21 with fail;go_wp2_with fail;refine (Hte.out _ (HL.out.bl Hb7.out.drew)).mono ?_;rintro e w8 ⟨rfl,hb8⟩;go_wp2_with fail;refine (dN _ _ _ _ (Blk.new _ _ _)).mono ?_;rintro e w' ⟨rfl,rfl⟩;rw[show aB [E,TE]=E from I7 ZR.out];go_wp2_with fail;go_ret;exact ⟨by simp,dM.out.trans (Hb7.out.trans ((Bl.ofDrew hb8).alloc _))⟩
theorem Q5 (f : Frm) (bW bH : Int) (C : Option Addr) (n cc : Nat) (cs : List Bool) (fnm : List UInt8) (ht gap sp : Int) (L : Option Addr) (lc : Nat) (ls : List Ltr) (nm : List UInt8) (w : World) (hF : FrmAt w f) (hS : f.small 1048576) (hN : NumOk w) (hC : SplitOk w) (hT : SpOk w)
 (hL:LtrsAt w L ls) (hnm:fnm.length≤9223372036854775807) (hn:ls.length≤9223372036854775807) (hR:Reads w 1 C n (cs.map .bool)) (h0:f.err=0) (aA5:jU f=false∨12<ls.length) :
 Calls Tryz.prog 4 #[f.val,.agg #[bW,bH,.slice C n cc],.agg #[fnm,ht,gap,sp,.slice L ls.length lc],nm] w fun e w'=>e=.returned (.bool true)∧Bl w w':=by
 have hmk:=fun wx hF hN hC hR=>wC f bW bH C n cc cs nm wx hF hS hN hC hR;have hrd:=fun wx hF hN hC hT hL hR=>sO f bW bH C n cc cs fnm ht gap sp L lc ls wx hF hS hN hC hT hL hnm hn hR;have hfe:=fun wx hF hN hC=>kG f wx hF hS hN hC;have hli:=fun wx=>show Calls Tryz.prog 17 #[f.val] wx fun e w'=>e=.returned (.bool (jU f))∧Bl wx w' by
  obtain ⟨W,H,r,dW⟩:=KU h0;exact tN f W H r wx dW
 rw[h0] at hfe hrd;obtain ⟨E1,hE1⟩:=aH0 (EN f bW bH n nm);obtain ⟨E2,hE2⟩:=aH0 (lI 0 (bN (cG fnm) ht gap sp ls) (iW f.W f.H bW bH n) (LK ht f.lf));rw[←hE1] at hmk;rw[←hE2] at hrd;obtain ⟨ML,hML⟩:=aH0 (lF f cs nm);obtain ⟨VL,hVL⟩:=aH0 (sN f cs ht gap sp ls);rw[←hML] at hmk;rw[←hVL] at hrd;obtain ⟨LB,hLB⟩:=aH0 (jU f);rw[←hLB] at hli aA5;unfold MarkRes at hmk;unfold FReadRes at hrd;obtain ⟨nm',fW,fH,reach,dark,AL,ac,la,FL,fc,lf,RL,rc,lr⟩:=f;let w1:=(((w).alloc (.cells #[nm',fW,fH,reach,dark,.slice AL la.length ac,.slice FL lf.length fc,.slice RL lr.length rc] 26)).alloc (.cells #[bW,bH,.slice C n cc] 43)).alloc (.cells #[fnm,ht,gap,sp,.slice L ls.length lc] 46);obtain ⟨w1b,w11,w12,w13⟩:=aHQ (x:=w1) w _ _ _ _ _ _ rfl;unfold Frm.val at hmk hrd hfe hli;have k1:=w11.all8;have k2:=w12.all3;have k3:=w13.all5;obtain ⟨dM,Hmk,Hrd,Hfe,Hli,HF,HN,HC⟩:=aHN w1b hmk hrd hfe hli (hF.bl w1b) (hN.bl w1b) (hC.bl w1b);obtain ⟨HT,HL,HR,Hfm⟩:=aHJ (hT.bl w1b) (hL.bl w1b) (hR.bl w1b) (fun wx hN hC=>pF wx hN hC);unfold Frm.val;clear hmk hrd hfe hli hF hN hC hT hL hR hS hnm hn hML hVL hE1 hE2 hLB w1b h0
 go_in
 go_upto_region 1 with fail;rw[show ((w.alloc (.cells #[nm',fW,fH,reach,dark,.slice AL la.length ac,.slice FL lf.length fc,.slice RL lr.length rc] 26)).alloc (.cells #[bW,bH,.slice C n cc] 43)).alloc (.cells #[fnm,ht,gap,sp,.slice L ls.length lc] 46)=w1 from rfl];clear_value w1;go_upto_region 2 with (go_at_call 15;refine (Hmk.out _ HF.out HN.out HC.out HR.out).mono ?_;rintro e w2 ⟨⟨A2,m2,c2,rfl,-,-⟩,hb2⟩);have Hb2:=aHH hb2;have k1:=(w11.bl hb2).all8;have k2:=(w12.bl hb2).all3;have k3:=(w13.bl hb2).all5;clear hb2;go_upto_region 3 with (go_at_call 16;refine (Hrd.out _ (HF.out.bl Hb2.out) (HN.out.bl Hb2.out) (HC.out.bl Hb2.out) (HT.out.bl Hb2.out) (HL.out.bl Hb2.out) (HR.out.bl Hb2.out)).mono ?_;rintro e w3 ⟨⟨A3,m3,c3,rfl,-,-⟩,hb3⟩);have Hb3:=aHH (Hb2.out.trans hb3);have k1:=(w11.bl Hb3.out).all8;clear hb3 k2 k3;go_upto_region 4 with (go_at_call 7;refine (Hfe.out _ (HF.out.bl Hb3.out) (HN.out.bl Hb3.out) (HC.out.bl Hb3.out)).mono ?_;rintro e w4 ⟨rfl,hb4⟩);have Hb4:=aHH (Hb3.out.trans hb4);clear hb4 k1;cases LB with
 |false=>go_upto_region 5 with (first|(go_at_call 10;refine (Hfm.out _ (HN.out.bl Hb4.out) (HC.out.bl Hb4.out)).mono ?_;rintro e w5 ⟨rfl,hb5⟩;have k1:=(w11.bl (Hb4.out.trans hb5)).all8)|(go_at_call 17;refine (Hli.out _).mono ?_;rintro e w6 ⟨rfl,hb6⟩));have Hb6:=aHH (Hb4.out.trans (hb5.trans hb6));clear hb5 hb6 k1;go_wp2_with fail;refine (Hfm.out _ (HN.out.bl Hb6.out) (HC.out.bl Hb6.out)).mono ?_;rintro e w7 ⟨rfl,hb7⟩;go_wp2_with fail;go_ret;exact ⟨rfl,dM.out.trans (Hb6.out.trans hb7)⟩
 |true=>have h12:12<ls.length:=(by rcases aA5 with h|h;exact absurd h (by decide);exact h);have aF7:(12:Int)<(ls.length:Int):=(by omega);clear aA5;go_upto_region 5 with (first|(go_at_call 10;refine (Hfm.out _ (HN.out.bl Hb4.out) (HC.out.bl Hb4.out)).mono ?_;rintro e w5 ⟨rfl,hb5⟩;have k1:=(w11.bl (Hb4.out.trans hb5)).all8)|(go_at_call 17;refine (Hli.out _).mono ?_;rintro e w6 ⟨rfl,hb6⟩;have k3:=(w13.bl (Hb4.out.trans (hb5.trans hb6))).all5));have Hb6:=aHH (Hb4.out.trans (hb5.trans hb6));clear hb5 hb6 k1 k3;go_wp2_with fail;refine (Hfm.out _ (HN.out.bl Hb6.out) (HC.out.bl Hb6.out)).mono ?_;rintro e w7 ⟨rfl,hb7⟩;go_wp2_with fail;go_ret;exact ⟨rfl,dM.out.trans (Hb6.out.trans hb7)⟩
theorem LP (f : Frm) (bW bH : Int) (C : Option Addr) (n cc : Nat) (cs : List Bool) (fnm : List UInt8) (ht gap sp : Int) (L : Option Addr) (lc : Nat) (ls : List Ltr) (nm : List UInt8) (w : World) (hF : FrmAt w f) (hS : f.small 1048576) (hN : NumOk w) (hC : SplitOk w) (hT : SpOk w)
 (hL:LtrsAt w L ls) (hnm:fnm.length≤9223372036854775807) (hn:ls.length≤9223372036854775807) (hlc:ls.length≤lc) (hR:Reads w 1 C n (cs.map .bool)) (h0:f.err=0) (VW:jU f=true) (h12:ls.length≤12) (mK:iW f.W f.H bW bH n≠0) :
 Calls Tryz.prog 4 #[f.val,.agg #[bW,bH,.slice C n cc],.agg #[fnm,ht,gap,sp,.slice L ls.length lc],nm] w fun e w'=>e=.returned (.bool true)∧Bl w w':=by
 have hmk:=fun wx hF hN hC hR=>wC f bW bH C n cc cs nm wx hF hS hN hC hR;have hrd:=fun wx hF hN hC hT hL hR=>sO f bW bH C n cc cs fnm ht gap sp L lc ls wx hF hS hN hC hT hL hnm hn hR;have hfe:=fun wx hF hN hC=>kG f wx hF hS hN hC;have hfo:=fun wx hF=>nV f nm wx hF;have hte:=fun wx hL=>nN fnm ht gap sp L lc ls wx hL hnm hn hlc;have hsz:=fun wx=>IR f bW bH C n cc wx;have hli:=fun wx=>show Calls Tryz.prog 17 #[f.val] wx fun e w'=>e=.returned (.bool true)∧Bl wx w' by
  obtain ⟨W,H,r,dW⟩:=KU h0;have:=tN f W H r wx dW
  rwa [VW] at this
 have e1:EN f bW bH n nm=iW f.W f.H bW bH n:=by
  have h:mH f bW bH n=iW f.W f.H bW bH n:=(by unfold mH;rw[if_pos h0]);unfold EN;rw[h,if_neg mK]
 rw[h0] at hfe hrd;rw[e1] at hmk;have e2:lI 0 (bN (cG fnm) ht gap sp ls) (iW f.W f.H bW bH n) (LK ht f.lf)=if bN (cG fnm) ht gap sp ls=0 then iW f.W f.H bW bH n else bN (cG fnm) ht gap sp ls:=(by unfold lI;rw[if_pos rfl,if_neg mK]);rw[e2] at hrd;obtain ⟨TE,hTE⟩:=aH0 (bN (cG fnm) ht gap sp ls);simp only[←hTE] at hte hrd;obtain ⟨E,hE⟩:=aH0 (iW f.W f.H bW bH n);simp only[←hE] at hmk hrd hsz mK;obtain ⟨E2,hE2⟩:∃y,y=if TE=0 then E else TE:=⟨_,rfl⟩;rw[←hE2] at hrd;have aES:E2≠0:=(by rw[hE2];split<;>assumption);obtain ⟨ML,hML⟩:=aH0 (lF f cs nm);obtain ⟨VL,hVL⟩:=aH0 (sN f cs ht gap sp ls);rw[←hML] at hmk;rw[←hVL] at hrd;unfold MarkRes at hmk;unfold FReadRes at hrd;obtain ⟨nm',fW,fH,reach,dark,AL,ac,la,FL,fc,lf,RL,rc,lr⟩:=f;let w1:=(((w).alloc (.cells #[nm',fW,fH,reach,dark,.slice AL la.length ac,.slice FL lf.length fc,.slice RL lr.length rc] 26)).alloc (.cells #[bW,bH,.slice C n cc] 43)).alloc (.cells #[fnm,ht,gap,sp,.slice L ls.length lc] 46);obtain ⟨w1b,w11,w12,w13⟩:=aHQ (x:=w1) w _ _ _ _ _ _ rfl;unfold Frm.val at hmk hrd hfe hfo hli hsz;have k1:=w11.all8;have k2:=w12.all3;have k3:=w13.all5;obtain ⟨dM,Hmk,Hrd,Hfe,Hfo,Hte,Hli,Hsz⟩:=aHN w1b hmk hrd hfe hfo hte hli hsz;obtain ⟨HE2,HF,HN,HC,HT,HL,HR,Hfm⟩:=aHN hE2 (hF.bl w1b) (hN.bl w1b) (hC.bl w1b) (hT.bl w1b) (hL.bl w1b) (hR.bl w1b) (fun wx hN hC=>pF wx hN hC);have hq:(E==0)=false:=(by simp[mK]);have hq2:(E != E)=false:=(by simp);have hq3:(E != 0)=true:=(by simp[mK]);have hq4:(E2 != 0)=true:=(by simp[aES]);have ZR:=aHH mK;have aHp:=aHH aES;have aF7:¬(12:Int)<(ls.length:Int):=(by omega);unfold Frm.val;clear hmk hrd hfe hfo hte hli hsz hF hN hC hT hL hR hS hnm hn hlc hML hVL hTE hE w1b mK e1 e2 h0 VW hE2 aES
 go_in
 go_upto_region 1 with fail;rw[show ((w.alloc (.cells #[nm',fW,fH,reach,dark,.slice AL la.length ac,.slice FL lf.length fc,.slice RL lr.length rc] 26)).alloc (.cells #[bW,bH,.slice C n cc] 43)).alloc (.cells #[fnm,ht,gap,sp,.slice L ls.length lc] 46)=w1 from rfl];clear_value w1;go_upto_region 2 with (go_at_call 15;refine (Hmk.out _ HF.out HN.out HC.out HR.out).mono ?_;rintro e w2 ⟨⟨A2,m2,c2,rfl,hm2,-⟩,hb2⟩);obtain rfl:m2=0:=hm2 ZR.out;have Hb2:=aHH hb2;have k1:=(w11.bl hb2).all8;have k2:=(w12.bl hb2).all3;have k3:=(w13.bl hb2).all5;clear hb2 hm2;go_upto_region 3 with (go_at_call 16;refine (Hrd.out _ (HF.out.bl Hb2.out) (HN.out.bl Hb2.out) (HC.out.bl Hb2.out) (HT.out.bl Hb2.out) (HL.out.bl Hb2.out) (HR.out.bl Hb2.out)).mono ?_;rintro e w3 ⟨⟨A3,m3,c3,rfl,hm3,-⟩,hb3⟩);obtain rfl:m3=0:=hm3 aHp.out;have Hb3:=aHH (Hb2.out.trans hb3);have k1:=(w11.bl Hb3.out).all8;clear hb3 hm3 k2 k3;go_upto_region 4 with (go_at_call 7;refine (Hfe.out _ (HF.out.bl Hb3.out) (HN.out.bl Hb3.out) (HC.out.bl Hb3.out)).mono ?_;rintro e w4 ⟨rfl,hb4⟩);have Hb4:=aHH (Hb3.out.trans hb4);clear hb4 k1;go_upto_region 6 with (first|(go_at_call 10;refine (Hfm.out _ (HN.out.bl Hb4.out) (HC.out.bl Hb4.out)).mono ?_;rintro e w5 ⟨rfl,hb5⟩;have k1:=(w11.bl (Hb4.out.trans hb5)).all8)|(go_at_call 17;refine (Hli.out _).mono ?_;rintro e w6 ⟨rfl,hb6⟩;have k3:=(w13.bl (Hb4.out.trans (hb5.trans hb6))).all5));have Hb6:=aHH (Hb4.out.trans (hb5.trans hb6));have k1:=(w11.bl Hb6.out).all8;have k2:=(w12.bl Hb6.out).all3;clear hb5 hb6 k3;go_upto_region 9 with (go_at_call 18;refine (Hsz.out _).mono ?_;rintro e w7 ⟨rfl,hb7⟩);have Hb7:=aHH (Hb6.out.trans hb7);have k1:=(w11.bl Hb7.out).all8;clear hb7 k2;go_upto_region 11 with (go_at_call 19;refine (Hfo.out _ (HF.out.bl Hb7.out)).mono ?_;rintro e w8 ⟨ix,rfl,-,hb8⟩);have Hb8:=aHH (Hb7.out.trans hb8);clear hb8 k1;obtain ⟨neg,aET⟩:=aH1 (decide (ix<0));go_wp2_with fail;refine (aI _ _ _).mono ?_;rintro e w' ⟨rfl,rfl⟩;go_wp2_with fail;refine (dN _ _ _ _ (Blk.new _ _ _)).mono ?_;rintro e w' ⟨rfl,rfl⟩;rw[show ∀x,aB [E,x]=E from fun x=>I7 ZR.out];go_upto_region 17 with fail;obtain ⟨w9,hw9⟩:=aH0 ((w8.alloc (.cells #[E,.int .i64 (aE neg 10)] 27)).alloc (.cells #[.int .i64 0,.int .i64 0,.slice none 0 0] 43));have hb9:Bl w8 w9:=(by rw[hw9];exact ((Bl.refl _).alloc _).alloc _);rw[←hw9];have Hb9:=aHH (Hb8.out.trans hb9);have k3:=(w13.bl Hb9.out).all5;clear hw9 hb9;go_upto_region 19 with fail;refine aHZ [aHX 0,aHX 1,aHX 2,aHX 3,aHX 4,aHX 5,aHX 6,aHX 7,aHX 8,aHX 9,aHX 10,aHX 11,aHX 12,aHX 13,aHX 14,aHX 15,aHX 16,aHX 17,aHX 18,aHX 19,aHX 20,aHX 21,aHX 22,aHX 23,aHY 24,aHY 25,aHX 26,aHX 27,aHX 28] (by kernel_rfl) ?_
 iterate 2
  apply Flow.mv _ rfl
  ·intro a b;simp only[sqA,Act.eval,sqC];exact b
 apply Flow.calm2 _ _ rfl rfl
 ·intro a b c d;obtain ⟨e,f⟩:=b.rule;go_simp;(try go_ints);exact d
 ·intro a b;simp only[sqA];exact b
 apply Flow.mv _ rfl
 ·intro a b;simp only[sqA,Act.eval,sqC];exact b
 iterate 7
  first
   | (apply Flow.pass rfl (by rfl))
   | (apply Flow.calmG _ rfl (by rfl)
      ·intro a b;obtain ⟨e,f⟩:=b.rule;go_simp;all_goals (try rfl))
  simp only[sqA];try go_ints
 apply Flow.calm2 _ _ rfl rfl
 ·intro a b c d;obtain ⟨e,f⟩:=b.rule;go_simp;(try go_ints);exact d
 ·intro a b;simp only[sqA];exact b
 apply Flow.mv _ rfl
 ·intro a b;simp only[sqA,Act.eval,sqC];exact b
 iterate 11
  first
   | (apply Flow.pass rfl (by rfl))
   | (apply Flow.calmG _ rfl (by rfl)
      ·intro a b;obtain ⟨e,f⟩:=b.rule;go_simp;all_goals (try rfl))
  simp only[sqA];try go_ints
 apply Flow.move rfl;go_wp2_with fail;first|refine ⟨fun _=>Bl.refl _,?_⟩|refine ⟨Bl.refl _,?_⟩
 apply Flow.move rfl;go_wp2_with fail;first|refine ⟨fun _=>Bl.refl _,?_⟩|refine ⟨Bl.refl _,?_⟩
 iterate 2
  first
   | (apply Flow.pass rfl (by rfl))
   | (apply Flow.calmG _ rfl (by rfl)
      ·intro a b;obtain ⟨e,f⟩:=b.rule;go_simp;all_goals (try rfl))
  simp only[sqA];try go_ints
 apply Flow.calm2 _ _ rfl rfl
 ·intro a b c d;obtain ⟨e,f⟩:=b.rule;go_simp;(try go_ints);exact d
 ·intro a b;simp only[sqA];exact b
 refine Flow.done ?_;go_upto_region 21 with fail;go_wp2_with fail;refine (Hte.out _ (HL.out.bl Hb9.out.drew)).mono ?_;rintro e w10 ⟨rfl,ER⟩;go_wp2_with fail;refine (dN _ _ _ _ (Blk.new _ _ _)).mono ?_;rintro e w' ⟨rfl,rfl⟩;rw[EP];have ZY:=aHH (Hb9.out.trans ((Bl.ofDrew ER).alloc (.cells #[.int .i64 0,TE] 27)));clear ER;by_cases hz:TE=0
 ·have hE2:E2=E:=(by rw[HE2.out,if_pos hz]);subst hz;subst hE2;go_wp2_with fail;go_ret;exact ⟨by simp,dM.out.trans ZY.out⟩
 ·have hE2:E2=TE:=(by rw[HE2.out,if_neg hz]);have hq5:(TE==0)=false:=(by simp[hz]);subst hE2;go_wp2_with fail;go_ret;exact ⟨by simp,dM.out.trans ZY.out⟩
theorem Q6 {w:World} {o:Nat} {T:TypeId} {a b:Int} {A1:Option Addr} {m1 k1 n:Nat} {A:Option Addr} {bs:List Bool} (hb:Blk w o T #[a,b,.slice A1 m1 k1]) (hr:Reads w 1 A n (bs.map .bool)):∀ad,A=some ad→0<n→ad.block≠o:=by
 intro ad hA hn hp;obtain ⟨ad2,u,e,hu,hc⟩:=hr.at_ hn;rw[hA] at e;obtain rfl:=aIw e;rw[aId] at hu;obtain ⟨v,-,rfl⟩:=Option.map_eq_some_iff.1 hu;have hbl:(ad.add 0).block=o:=(gX _ _).trans hp;generalize ad.add 0=z at hbl hc;obtain ⟨bl,off,spot⟩:=z;have aEQ:bl=o:=hbl;subst aEQ;cases spot with
 |some x=>unfold Blk at hb;unfold World.cell? at hc;simp only[hb] at hc;cases hc
 |none=>
  rw[hb.cell] at hc
  match off,hc with
  |0,hc=>simp at hc
  |1,hc=>simp at hc
  |2,hc=>simp at hc
  |n+3,hc=>simp at hc
theorem I8 {cs:List Bool} {W:Nat} {dark:Int} {ht:Nat} {ls:List Ltr} {gs:Int} {x:Fld} (h:x.marks.length≤20):(lG cs W dark ht ls gs x).2.2.1.length≤20:=by
 unfold lG;split
 ·exact Nat.zero_le _
 ·split
  ·exact Nat.zero_le _
  ·exact aII (gC _ _ _ _ _) h
theorem LQ (f : Frm) (W H r : Nat) (C : Option Addr) (cc : Nat) (cs : List Bool) (fnm : List UInt8) (ht gap sp : Int) (L : Option Addr) (lc : Nat) (ls : List Ltr) (nm : List UInt8) (w : World) (hF : FrmAt w f) (hS : f.small 1048576) (hN : NumOk w) (hC : SplitOk w) (hT : SpOk w)
 (hL:LtrsAt w L ls) (hnm:fnm.length≤9223372036854775807) (hn:ls.length≤9223372036854775807) (hlc:ls.length≤lc) (hR:Reads w 1 C (W*H) (cs.map .bool)) (h0:f.err=0) (dW:Fits f W H r) (VW:jU f=true) (h12:ls.length≤12) (hpe:iW f.W f.H W H (W*H)=0) :
 Calls Tryz.prog 4 #[f.val,.agg #[W,H,.slice C (W*H) cc],.agg #[fnm,ht,gap,sp,.slice L ls.length lc],nm] w fun e w'=>e=.returned (.bool true)∧Bl w w':=by
 have hmk:=fun wx hF hN hC hR=>wC f W H C (W*H) cc cs nm wx hF hS hN hC hR;have hrd:=fun wx hF hN hC hT hL hR=>sO f W H C (W*H) cc cs fnm ht gap sp L lc ls wx hF hS hN hC hT hL hnm hn hR;have hfe:=fun wx hF hN hC=>kG f wx hF hS hN hC;have hfo:=fun wx hF=>nV f nm wx hF;have hte:=fun wx hL=>nN fnm ht gap sp L lc ls wx hL hnm hn hlc;have hsz:=fun wx=>IR f W H C (W*H) cc wx;rw[hpe] at hsz;have hli:=fun wx=>show Calls Tryz.prog 17 #[f.val] wx fun e w'=>e=.returned (.bool true)∧Bl wx w' by
  have:=tN f W H r wx dW
  rwa [VW] at this
 have aEU:W*H≤40000∧r≤6:=by
  unfold jU at VW;rw[aIs,aIs,decide_eq_true_eq,decide_eq_true_eq] at VW;obtain ⟨q1,q2,-⟩:=VW;rw[dW.fW,dW.fH] at q1;rw[dW.fr] at q2;have:=aIG W H;omega
 have hs:=zB dW;have hdk:=EM h0;have aA6:=fun x (hx:x∈f.lf)=>NU h0 dW hx;have hlf:f.lf.length≤50:=(NB h0).1;have hpl:=fun wx hF hR=>IH f C cc cs W H r wx dW (by omega) hF hR;obtain ⟨PB,hPB⟩:=aH0 (kW f cs);have e1:EN f W H (W*H) nm=tY f nm:=by
  have h:mH f W H (W*H)=0:=(by unfold mH;rw[if_pos h0];exact hpe);unfold EN;rw[h,if_pos rfl]
 rw[h0,hpe] at hrd;rw[h0] at hfe;rw[e1] at hmk;have hmO:=fun (x:Fld) (hx:x∈f.lf) A c wx hM hR=>uS f x W H A c PB wx hs hM (aA6 x hx).marks (aA6 x hx).m20 hdk hR;have hmE:tM f.lf nm=none→tY f nm=10:=fun h=>(by unfold tY;rw[h]);have aCF:∀x,tM f.lf nm=some x→tY f nm=(if cC x.kind=true then 0 else 1)∧lF f cs nm=dA PB W f.dark x.marks x.marks.length:=fun x h=>by
  unfold tY lF;rw[h,hPB,dW.fW,aIF];exact ⟨rfl,rfl⟩
 have hro:=fun (hz:bN (cG fnm) ht gap sp ls=0) (RV:LK ht f.lf=false)=>show ∃FV:Fld→VP,sN f cs ht gap sp ls=f.lf.map FV∧(∀x∈f.lf,(FV x).2.2.1.length≤20)∧∀x∈f.lf,∀A c wx,FrmAt wx f→SpOk wx→LtrsAt wx L ls→Reads wx 1 A (W*H) (PB.map .bool)→Calls Tryz.prog 27 #[f.val,x.val,.agg #[W,H,.slice A (W*H) c],.agg #[fnm,ht,gap,sp,.slice L ls.length lc]] wx fun e w'=>ValRes (FV x) e w'∧Bl wx w' by
  obtain ⟨⟨-,hq2,-⟩,-⟩:=g9 hz;unfold eT at hq2;rw[aIs,aIs,aQ,aQ,aQ] at hq2;obtain ⟨ht',rfl⟩:=Int.eq_ofNat_of_zero_le (show 0≤ht by omega);obtain ⟨gap',rfl⟩:=Int.eq_ofNat_of_zero_le (show 0≤gap by omega);obtain ⟨sp',rfl⟩:=Int.eq_ofNat_of_zero_le (show 0≤sp by omega);refine ⟨lG PB W f.dark ht' ls (((gap':Int)+(sp':Int)+1) / 2),?_,fun x hx=>I8 (aA6 x hx).m20,fun x hx A c wx hFx hTx hLx hA => ?_⟩
  ·unfold sN;rw[hPB,dW.fW,aIF,aIF]
  ·have hfl:=hFx.flds.2 x hx;refine Q2 f x W H A c PB fnm ht' gap' sp' L lc ls wx hs aEU.1 (aA6 x hx) hfl.2.2.2 hdk (fun hk => ?_) hfl.1 hTx hLx hz hA;apply Classical.byContradiction;intro hlt;rw[I4 hx hk (by omega)] at RV;cases RV
 obtain ⟨TE,hTE⟩:=aH0 (bN (cG fnm) ht gap sp ls);simp only[←hTE] at hte hrd hro;obtain ⟨LO,hLO⟩:=aH0 (LK ht f.lf);simp only[←hLO] at hrd hro;obtain ⟨E2,hE2⟩:=aH0 (lI 0 TE 0 LO);rw[←hE2] at hrd;obtain ⟨E1,hE1⟩:=aH0 (tY f nm);simp only[←hE1] at hmk hmE aCF;obtain ⟨ML,hML⟩:=aH0 (lF f cs nm);obtain ⟨VL,hVL⟩:=aH0 (sN f cs ht gap sp ls);rw[←hML] at hmk;simp only[←hML] at aCF;rw[←hVL] at hrd;simp only[←hVL] at hro;rw[←hPB] at hpl;unfold MarkRes at hmk;unfold FReadRes at hrd;have aA7:=fun g wx hb=>Q3 g fnm ht gap sp L ls.length lc f.lf wx hb;have YR:=aAx ht f.lf;rw[←hLO] at YR;obtain ⟨nm',fW,fH,reach,dark,AL,ac,la,FL,fc,lf,RL,rc,lr⟩:=f;simp only at hmE aCF hro hmO aA6 hlf aA7 YR hVL;let w1:=(((w).alloc (.cells #[nm',fW,fH,reach,dark,.slice AL la.length ac,.slice FL lf.length fc,.slice RL lr.length rc] 26)).alloc (.cells #[W,H,.slice C (W*H) cc] 43)).alloc (.cells #[fnm,ht,gap,sp,.slice L ls.length lc] 46);obtain ⟨w1b,w11,w12,w13⟩:=aHQ (x:=w1) w _ _ _ _ _ _ rfl;unfold Frm.val at hmk hrd hfe hfo hli hsz hpl hmO hro;unfold Fld.val at hmO hro;have k1:=w11.all8;have k2:=w12.all3;have k3:=w13.all5;obtain ⟨dM,Hmk,Hrd,Hfe,Hfo,Hte,Hli,Hsz⟩:=aHN w1b hmk hrd hfe hfo hte hli hsz;obtain ⟨HE2,Hpl,HmO,HmE,aF8,Hro,aEV,aEW⟩:=aHN hE2 hpl hmO hmE aCF hro aA7 YR;obtain ⟨aHq,HF,HN,HC,HT,HL,HR,Hfm⟩:=aHN (fun x hx=>(aA6 x hx).m20) (hF.bl w1b) (hN.bl w1b) (hC.bl w1b) (hT.bl w1b) (hL.bl w1b) (hR.bl w1b) (fun wx hN hC=>pF wx hN hC);have aF7:¬(12:Int)<(ls.length:Int):=(by omega);unfold Frm.val;clear hmk hrd hfe hfo hte hli hsz hpl hmO hmE aCF hro aA7 YR hF hN hC hT hL hR hS hnm hn hlc hML hVL hTE hLO hE1 hPB w1b e1 h0 VW hE2 dW hpe hs hdk aA6
 go_in
 go_upto_region 1 with fail;rw[show ((w.alloc (.cells #[nm',fW,fH,reach,dark,.slice AL la.length ac,.slice FL lf.length fc,.slice RL lr.length rc] 26)).alloc (.cells #[W,H,.slice C (W*H) cc] 43)).alloc (.cells #[fnm,ht,gap,sp,.slice L ls.length lc] 46)=w1 from rfl];clear_value w1;go_upto_region 2 with (go_at_call 15;refine (Hmk.out _ HF.out HN.out HC.out HR.out).mono ?_;rintro e w2 ⟨⟨A2,m2,c2,rfl,hm2,aCG⟩,hb2⟩);obtain ⟨Hb2,Hm2,aHr⟩:=aHI hb2 hm2 aCG;have k1:=(w11.bl hb2).all8;have k2:=(w12.bl hb2).all3;have k3:=(w13.bl hb2).all5;clear hb2 hm2 aCG;go_upto_region 3 with (go_at_call 16;refine (Hrd.out _ (HF.out.bl Hb2.out) (HN.out.bl Hb2.out) (HC.out.bl Hb2.out) (HT.out.bl Hb2.out) (HL.out.bl Hb2.out) (HR.out.bl Hb2.out)).mono ?_;rintro e w3 ⟨⟨A3,m3,c3,rfl,hm3,aF9⟩,hb3⟩);obtain ⟨Hb3,aHs,Hm3,aHt⟩:=aHJ (Hb2.out.trans hb3) hb3 hm3 aF9;have k1:=(w11.bl Hb3.out).all8;clear hb3 hm3 aF9 k2 k3;go_upto_region 4 with (go_at_call 7;refine (Hfe.out _ (HF.out.bl Hb3.out) (HN.out.bl Hb3.out) (HC.out.bl Hb3.out)).mono ?_;rintro e w4 ⟨rfl,hb4⟩);have Hb4:=aHH (Hb3.out.trans hb4);have aHu:=aHH hb4;clear hb4 k1;go_upto_region 6 with (first|(go_at_call 10;refine (Hfm.out _ (HN.out.bl Hb4.out) (HC.out.bl Hb4.out)).mono ?_;rintro e w5 ⟨rfl,hb5⟩;have k1:=(w11.bl (Hb4.out.trans hb5)).all8)|(go_at_call 17;refine (Hli.out _).mono ?_;rintro e w6 ⟨rfl,hb6⟩;have k3:=(w13.bl (Hb4.out.trans (hb5.trans hb6))).all5));have Hb6:=aHH (Hb4.out.trans (hb5.trans hb6));have aHv:=aHH (aHu.out.trans (hb5.trans hb6));have k1:=(w11.bl Hb6.out).all8;have k2:=(w12.bl Hb6.out).all3;clear hb5 hb6 k3;go_upto_region 9 with (go_at_call 18;refine (Hsz.out _).mono ?_;rintro e w7 ⟨rfl,hb7⟩);have Hb7:=aHH (Hb6.out.trans hb7);have aHw:=aHH (aHv.out.trans hb7);have k1:=(w11.bl Hb7.out).all8;clear hb7 k2;go_upto_region 11 with (go_at_call 19;refine (Hfo.out _ (HF.out.bl Hb7.out)).mono ?_;rintro e w8 ⟨ix,rfl,hix,hb8⟩);have Hb8:=aHH (Hb7.out.trans hb8);have aHx:=aHH (aHw.out.trans hb8);have aGa:=BS hix;have k1:=(w11.bl Hb8.out).all8;clear hb8 hix;have HFx:=aHH aGa;clear aGa;obtain ⟨E0,hE0⟩:=aH0 (aE (decide (ix<0)) 10);have HE0:=aHH hE0;clear hE0;go_upto_if 66 with fail;go_cut [15] from 65 to 72 (fun s15 wc=>s15=.int .i64 E0∧Bl w8 wc);case first=>
  go_wp2_with fail;refine (aI _ _ _).mono ?_;rintro e w' ⟨rfl,rfl⟩;go_wp2_with fail;refine (dN _ _ _ _ (Blk.new _ _ _)).mono ?_;rintro e w' ⟨rfl,rfl⟩;rw[EP];go_wp2_with fail;go_meet;case rel=>exact ⟨by rw[HE0.out],(Bl.refl _).alloc _⟩
 case rest=>
 rename World=>w9;obtain ⟨rfl,hb9⟩:=hcut;have Hb9:=aHH (Hb8.out.trans hb9);have aHy:=aHH (aHx.out.trans hb9);have k1:=(w11.bl Hb9.out).all8;clear hb9;go_upto_if 74 with fail;go_cut [15,17] from 73 to 87 (fun s15 s17 wc=>s15=.int .i64 E1∧Bl w9 wc);case first=>
  rcases HFx.out with ⟨aET,hno⟩|⟨j,x,rfl,hjx,hfx⟩
  ·have hE0:E0=10:=(by rw[HE0.out,aIu aET];rfl);have hE1:E1=10:=HmE.out hno;subst hE0;have HX:=aHH hE1;clear hE1 hno;go_wp2_with fail;go_meet;case rel=>exact ⟨by rw[HX.out],Bl.refl _⟩
  ·have hE0:E0=0:=(by rw[HE0.out,aIt (by omega)];rfl);obtain ⟨hE1,-⟩:=aF8.out x hfx;subst hE0;have hxm:x∈lf:=List.mem_of_getElem? hjx;obtain ⟨adF,eF,f1,f2,f3,f4,f5,f6,f7,f8,f9⟩:=FldsAt.at_ (HF.out.flds.bl Hb9.out) hjx;simp only at eF;subst eF;have hjl:=(aH3.1 hjx).1;have hln:lf.length≤9223372036854775807:=HF.out.fn.2;have HX:=aHH hE1;clear hE1 hfx hjx;by_cases h3:x.kind=3
   ·have HY:=aHH (show E1=0 by rw[HX.out,h3];rfl);have q1:(x.kind != 3)=false:=(by simp[h3]);go_wp2_with (go_at_call 9;refine (aI _ _ _).mono ?_;rintro e w' ⟨rfl,rfl⟩);go_meet;case rel=>exact ⟨by rw[HY.out]<;>rfl,Bl.refl _⟩
   ·by_cases h4:x.kind=4
    ·have HY:=aHH (show E1=0 by rw[HX.out,h4];rfl);have q1:(x.kind != 3)=true:=(by simp[h3]);have q2:(x.kind != 4)=false:=(by simp[h4]);go_wp2_with (go_at_call 9;refine (aI _ _ _).mono ?_;rintro e w' ⟨rfl,rfl⟩);go_meet;case rel=>exact ⟨by rw[HY.out]<;>rfl,Bl.refl _⟩
    ·have HY:=aHH (show E1=1 by rw[HX.out];unfold cC;rw[aIt h3,aIt h4];rfl);have q1:(x.kind != 3)=true:=(by simp[h3]);have q2:(x.kind != 4)=true:=(by simp[h4]);go_wp2_with (go_at_call 9;refine (aI _ _ _).mono ?_;rintro e w' ⟨rfl,rfl⟩);go_meet;case rel=>exact ⟨by rw[HY.out]<;>rfl,Bl.refl _⟩
 case rest=>
 rename World=>w10;obtain ⟨rfl,ER⟩:=hcut;have ZY:=aHH (Hb9.out.trans ER);have aEX:=aHH (aHy.out.trans ER);clear ER k1;go_upto_region 17 with fail;obtain ⟨o,ho⟩:=aH0 w10.heap.size;obtain ⟨w11a,YT⟩:=aH0 (w10.alloc (.cells #[.int .i64 0,.int .i64 0,.slice none 0 0] 43));have bo:=aHW YT ho;have aBq:=aHU YT;rw[←YT,←ho];obtain ⟨aBr,aGb,BO,Ho⟩:=aHJ (ZY.out.trans aBq) aBq bo ho;have k1:=(w11.bl aBr.out).all8;have k2:=(w12.bl aBr.out).all3;clear YT bo aBq ho;go_upto_region 18 with fail;go_upto_region 19 with (go_at_call 21;refine (Hpl.out _ (HF.out.bl aBr.out) (HR.out.bl aBr.out)).mono ?_;rintro e w12a ⟨v12,rfl,⟨A12,c12,rfl,aEY⟩,YN⟩;have BO2:=aHH (BO.out.bl YN);have k4:=BO2.out.all3);obtain ⟨w13a,VX⟩:=aH0 (((w12a.setCell ⟨o,0,none⟩ (.int .i64 W)).setCell ⟨o,1,none⟩ (.int .i64 H)).setCell ⟨o,2,none⟩ (.slice A12 (W*H) c12));have b13:Blk w13a o 43 #[W,H,.slice A12 (W*H) c12]:=(by rw[VX];exact ((BO2.out.set_ 0 _).set_ 1 _).set_ 2 _);have r13:Reads w13a 1 A12 (W*H) (PB.map .bool):=by
  have hne:=Q6 BO2.out aEY;rw[VX];exact ((aEY.far hne _).far hne _).far hne _
 have aEZ:Bl w10 w13a:=(by rw[VX];exact (((aGb.out.trans YN).setCell (by rw[Ho.out];exact Nat.le_refl _) _).setCell (by rw[Ho.out];exact Nat.le_refl _) _).setCell (by rw[Ho.out];exact Nat.le_refl _) _);rw[←VX];obtain ⟨B13,R13,aCH,aCI⟩:=aHJ b13 r13 (ZY.out.trans aEZ) (aEX.out.trans aEZ);have k1:=(w11.bl aCH.out).all8;have k3:=(w13.bl aCH.out).all5;have k4:=b13.all3;clear VX b13 r13 aEZ YN aEY BO2 k2 BO aGb;go_cut [125] from 97 to 125 (fun s125 wc=>s125=.bool false∧Bl w13a wc);case first=>
  by_cases hz:E1=0
  ·rcases HFx.out with ⟨aET,hno⟩|⟨j,x,aHz,hjx,hfx⟩
   ·have:=HmE.out hno;omega
   ·have hxm:x∈lf:=List.mem_of_getElem? hjx;obtain ⟨-,aE0⟩:=aF8.out x hfx;obtain ⟨aHA,aCG⟩:=aHr.out hz;have V6:ML.length≤20:=(by rw[aE0];exact aII (gC _ _ _ _ _) (aHq.out x hxm));have cI:=fun A c wx hM hR=>HmO.out x hxm A c wx hM hR;rw[←aE0] at cI;subst hz;subst aHA;subst aHz;obtain ⟨adF,eF,f1,f2,f3,f4,f5,f6,f7,f8,f9⟩:=FldsAt.at_ (HF.out.flds.bl aCH.out) hjx;simp only at eF;subst eF;have hjl:=(aH3.1 hjx).1;have hln:lf.length≤9223372036854775807:=HF.out.fn.2;have fP:=aHH cI;have HM2:=aHH aCG;have HMx:=aHH (HF.out.flds.2 x hxm).1;clear cI aCG aE0 hfx hjx;refine aHZ [aHX 0,aHX 1,aHX 2,aHX 3,aHX 4,aHX 5,aHX 6,aHX 7,aHX 8,aHX 9,aHX 10,aHX 11,aHX 12,aHX 13,aHX 14,aHX 15,aHX 16,aHX 17,aHX 18,aHX 19,aHX 20,aHX 21,aHX 22,aHX 23,aHY 24,aHY 25,aHX 26,aHX 27,aHX 28] (by kernel_rfl) ?_
    iterate 2
     apply Flow.mv _ rfl
     ·intro a b;simp only[sqA,Act.eval,sqC];exact b
    apply Flow.calm2 _ _ rfl rfl
    ·intro a b c d;obtain ⟨e,f⟩:=b.rule;go_simp;(try go_ints);exact d
    ·intro a b;simp only[sqA];exact b
    apply Flow.mv _ rfl
    ·intro a b;simp only[sqA,Act.eval,sqC];exact b
    iterate 7
     first
      | (apply Flow.pass rfl (by rfl))
      | (apply Flow.calmG _ rfl (by rfl)
         ·intro a b;obtain ⟨e,f⟩:=b.rule;go_simp;all_goals (try rfl))
     simp only[sqA];try go_ints
    apply Flow.calm2 _ _ rfl rfl
    ·intro a b c d;obtain ⟨e,f⟩:=b.rule;go_simp;(try go_ints);exact d
    ·intro a b;simp only[sqA];exact b
    apply Flow.mv _ rfl
    ·intro a b;simp only[sqA,Act.eval,sqC];exact b
    iterate 11
     first
      | (apply Flow.pass rfl (by rfl))
      | (apply Flow.calmG _ rfl (by rfl)
         ·intro a b;obtain ⟨e,f⟩:=b.rule;go_simp;all_goals (try rfl))
     simp only[sqA];try go_ints
    apply Flow.move rfl;go_wp2_with fail;refine (fP.out A12 c12 _ (HMx.out.bl aCH.out.drew) (R13.out.bl (Bl.refl _).drew)).mono ?_;rintro e w14 ⟨v14,rfl,aCJ,HB1⟩;obtain ⟨A14,c14,rfl,aHB⟩:=bL aCJ;have Z0:Bl w13a w14:=Bl.ofDrew HB1;go_wp2_with fail;refine ⟨fun _=>(by first|exact HB1|exact Bl.refl _),?_⟩;apply Flow.move rfl;go_wp2_with fail;refine (rL A2 A14 c2 c14 ML ML w14 (HM2.out.bl (aHs.out.trans (aCI.out.trans Z0))) aHB (by omega)).mono ?_;rintro e w15 ⟨rfl,HB2⟩;go_wp2_with fail;refine ⟨fun _=>(by first|exact HB2|exact Bl.refl _),?_⟩
    iterate 2
     first
      | (apply Flow.pass rfl (by rfl))
      | (apply Flow.calmG _ rfl (by rfl)
         ·intro a b;obtain ⟨e,f⟩:=b.rule;go_simp;all_goals (try rfl))
     simp only[sqA];try go_ints
    apply Flow.calm2 _ _ rfl rfl
    ·intro a b c d;obtain ⟨e,f⟩:=b.rule;go_simp;(try go_ints);exact d
    ·intro a b;simp only[sqA];exact b
    refine Flow.done ?_;go_wp2_with fail;go_meet;case rel=>exact ⟨by simp,Z0.trans HB2⟩
  ·have hq:(E1==0)=false:=(by simp[hz]);have hq2:(E1 != E1)=false:=(by simp);have hq3:(E1 != 0)=true:=(by simp[hz]);obtain rfl:m2=0:=Hm2.out hz;clear hz;refine aHZ [aHX 0,aHX 1,aHX 2,aHX 3,aHX 4,aHX 5,aHX 6,aHX 7,aHX 8,aHX 9,aHX 10,aHX 11,aHX 12,aHX 13,aHX 14,aHX 15,aHX 16,aHX 17,aHX 18,aHX 19,aHX 20,aHX 21,aHX 22,aHX 23,aHY 24,aHY 25,aHX 26,aHX 27,aHX 28] (by kernel_rfl) ?_
   iterate 2
    apply Flow.mv _ rfl
    ·intro a b;simp only[sqA,Act.eval,sqC];exact b
   apply Flow.calm2 _ _ rfl rfl
   ·intro a b c d;obtain ⟨e,f⟩:=b.rule;go_simp;(try go_ints);exact d
   ·intro a b;simp only[sqA];exact b
   apply Flow.mv _ rfl
   ·intro a b;simp only[sqA,Act.eval,sqC];exact b
   iterate 7
    first
     | (apply Flow.pass rfl (by rfl))
     | (apply Flow.calmG _ rfl (by rfl)
        ·intro a b;obtain ⟨e,f⟩:=b.rule;go_simp;all_goals (try rfl))
    simp only[sqA];try go_ints
   apply Flow.calm2 _ _ rfl rfl
   ·intro a b c d;obtain ⟨e,f⟩:=b.rule;go_simp;(try go_ints);exact d
   ·intro a b;simp only[sqA];exact b
   apply Flow.mv _ rfl
   ·intro a b;simp only[sqA,Act.eval,sqC];exact b
   iterate 11
    first
     | (apply Flow.pass rfl (by rfl))
     | (apply Flow.calmG _ rfl (by rfl)
        ·intro a b;obtain ⟨e,f⟩:=b.rule;go_simp;all_goals (try rfl))
    simp only[sqA];try go_ints
   apply Flow.move rfl;go_wp2_with fail;first|refine ⟨fun _=>Bl.refl _,?_⟩|refine ⟨Bl.refl _,?_⟩
   apply Flow.move rfl;go_wp2_with fail;first|refine ⟨fun _=>Bl.refl _,?_⟩|refine ⟨Bl.refl _,?_⟩
   iterate 2
    first
     | (apply Flow.pass rfl (by rfl))
     | (apply Flow.calmG _ rfl (by rfl)
        ·intro a b;obtain ⟨e,f⟩:=b.rule;go_simp;all_goals (try rfl))
    simp only[sqA];try go_ints
   apply Flow.calm2 _ _ rfl rfl
   ·intro a b c d;obtain ⟨e,f⟩:=b.rule;go_simp;(try go_ints);exact d
   ·intro a b;simp only[sqA];exact b
   refine Flow.done ?_;go_wp2_with fail;go_meet;case rel=>exact ⟨by simp,(Bl.refl _).drew⟩
 case rest=>
 rename World=>w14;obtain ⟨rfl,Z0⟩:=hcut;obtain ⟨aE1,aE2,B14,R14⟩:=aHJ (aCH.out.trans Z0) (aCI.out.trans Z0) (B13.out.bl Z0) (R13.out.bl Z0);have k3:=(w13.bl aE1.out).all5;clear Z0 k1 k4 B13 R13;go_upto_region 21 with fail;go_wp2_with fail;refine (Hte.out _ (HL.out.bl aE1.out)).mono ?_;rintro e w15 ⟨rfl,aAP⟩;go_wp2_with fail;refine (dN _ _ _ _ (Blk.new _ _ _)).mono ?_;rintro e w' ⟨rfl,rfl⟩;rw[EP];obtain ⟨w16,aE3⟩:=aH0 (w15.alloc (.cells #[.int .i64 0,TE] 27));have ZH:Bl w14 w16:=(by rw[aE3];exact aAP.alloc _);rw[←aE3];obtain ⟨aDg,aE4,B16,R16⟩:=aHJ (aE1.out.trans ZH) (aE2.out.trans ZH) (B14.out.bl ZH) (R14.out.bl ZH);clear aE3 ZH aAP k3 B14 R14;have k1:=(w11.bl aDg.out).all8;by_cases hz:TE=0;case neg=>
  have hE2:E2=TE:=(by rw[HE2.out];unfold lI;rw[if_pos rfl,if_neg hz]);have hq5:(TE==0)=false:=(by simp[hz]);have hq6:(TE != 0)=true:=(by simp[hz]);obtain rfl:m3=0:=Hm3.out (by rw[hE2];exact hz);subst hE2;go_wp2_with fail;go_ret;exact ⟨by simp,dM.out.trans aDg.out⟩
 case pos=>
 have aHC:=aHH (Hro.out hz);clear Hro;subst hz;have Hct:=aHH (fun wx (hx:Bl w1 wx)=>oX FL fc lf 26 #[.pointer (some ⟨w.heap.size+1+1,0,none⟩)] (I6 ht) wx (HF.out.flds.bl hx) (aEV.out _ wx (w13.bl hx)) HF.out.fn.2);rw[aEW.out] at Hct;go_upto_region 25 with fail;go_wp2_with fail;refine (Hct.out _ aDg.out).mono ?_;rintro e w17 ⟨rfl,aCK⟩;go_wp2_with fail;refine (aI _ _ _).mono ?_;rintro e w' ⟨rfl,rfl⟩;obtain ⟨VY,aE5,B17,R17⟩:=aHJ (aDg.out.trans aCK) (aE4.out.trans aCK) (B16.out.bl aCK) (R16.out.bl aCK);clear aCK k1 B16 R16;cases LO with
 |true=>have hE2:E2=15:=(by rw[HE2.out];rfl);subst hE2;obtain rfl:m3=0:=Hm3.out (by decide);have hwi:aE true 15=15:=rfl;go_wp2_with fail;go_ret;exact ⟨by simp,dM.out.trans VY.out⟩
 |false=>
  have hE2:E2=0:=(by rw[HE2.out];rfl);subst hE2;obtain ⟨l3,hl3,rfl,-,hv3⟩:=aHt.out rfl;obtain ⟨FV,hVF,aGc,cI⟩:=aHC.out rfl;have hwi:aE false 15=0:=rfl;obtain ⟨fP,HV3,HEq⟩:=aHI cI hv3 (hl3.trans hVF);have aHD:=aHH (show ∀v∈l3,v.marks.length≤20 from fun v hv=>by
   have h1:v.plain∈l3.map Vlu.plain:=List.mem_map_of_mem hv;rw[hl3,hVF] at h1;obtain ⟨x,hx,h2⟩:=aIK.1 h1;have h3:=aGc x hx;rw[h2] at h3;exact h3)
  have hl3n:l3.length≤50:=(by have:=congrArg List.length (hl3.trans hVF);rw[aH6,aH6] at this;omega);have k1:=(w11.bl VY.out).all8;clear cI hv3 hl3 hVF aGc Hct;go_wp2_with fail;go_loopw [19,154] (fun s u wr=>∃(i:Nat) (l:List Vlu),i≤lf.length∧u=.int .i64 i∧OwnVals wr w17.heap.size s l∧l.map Vlu.plain=(lf.take i).map FV∧Bl w17 wr) (fun _ u _=>lf.length-(RowKit.intOf u).toNat);case atStart=>exact ⟨0,[],Nat.zero_le _,rfl,OwnVals.nil _ _,rfl,Bl.refl _⟩
  case round=>
   rename World=>wr;obtain ⟨i,l,hi,rfl,aV,hpl,hbr⟩:=hrel;obtain ⟨Hbr,HO,HPl⟩:=aHI hbr aV hpl;have hll:l.length=i:=(by have:=congrArg List.length hpl;rw[aH6,aH6,aH7] at this;omega);have Hll:=aHH hll;have aFM:l.length≤50:=(by omega);have k1:=(w11.bl (VY.out.trans hbr)).all8;have k3:=(w13.bl (VY.out.trans hbr)).all5;have k4:=(B17.out.bl hbr).all3;clear hbr aV hpl hll;by_cases hlt:i<lf.length
   ·have hg:lf[i]? = some lf[i]:=aH2 hlt;obtain ⟨x,hx0⟩:=aH0 (lf[i]);rw[←hx0] at hg;have hxm:x∈lf:=List.mem_of_getElem? hg;obtain ⟨adF,eF,f1,f2,f3,f4,f5,f6,f7,f8,f9⟩:=FldsAt.at_ (HF.out.flds.bl (VY.out.trans Hbr.out)) hg;simp only at eF;subst eF;have HG:=aHH hg;clear hg hx0;go_upto_region 32 with fail;obtain ⟨q,hq⟩:=aH0 wr.heap.size;obtain ⟨w18,aDh⟩:=aH0 (wr.alloc (.cells #[.string ⟨x.name.toArray⟩,.int .i64 x.kind,.int .i64 x.box.X,.int .i64 x.box.Y,.int .i64 x.box.W,.int .i64 x.box.H,.slice x.M x.marks.length x.mc,.int .i64 x.most,.bool x.needed] 61));have bq:=aHW aDh hq;have aE6:=aHU aDh;rw[←aDh,←hq];have Z1:=aHH (Hbr.out.trans aE6);have aHE:=aHH (HO.out.bl aE6);have k1:=(w11.bl (VY.out.trans Z1.out)).all8;have k3:=(w13.bl (VY.out.trans Z1.out)).all5;have k4:=(B17.out.bl Z1.out).all3;have k5:=bq.all9;have Hc:=aHH (fP.out x hxm A12 c12 w18 (HF.out.bl (VY.out.trans Z1.out)) (HT.out.bl (VY.out.trans Z1.out)) (HL.out.bl (VY.out.trans Z1.out)) (R17.out.bl Z1.out));clear aDh hq bq aE6 f1 f2 f3 f4 f5 f6 f7 f8 f9 HO Hbr;go_wp2_with fail;refine Hc.out.mono ?_;rintro e w19 ⟨⟨x',rfl,aBp,hm',ht'⟩,aE7⟩;obtain ⟨aGd,aGe,Hm2,Ht2⟩:=aHJ (Z1.out.trans aE7) (aHE.out.bl aE7) hm' ht';have hle19:=aGd.out.le;have HPx:=aHH (BF HPl.out aBp);clear aBp hm' ht' aE7 k1 k3 k4 k5;unfold Vlu.val;go_wp2_with (at_builtin;refine aG (w1:=w17) rfl (.tmp 158) (.tmp 164) 50 rfl 69 (.agg #[.string ⟨#[]⟩,.string ⟨#[]⟩,.slice none 0 0,.int .i64 0]) 4 64 Tryz.underlying50 NV rfl (by omega) w17.heap.size _ l.length (l.flatMap Vlu.cells) rfl (aGd.out.alloc _) (Nat.le_refl _) (by simp;omega) (aGe.out.row.alloc _) (some ⟨w19.heap.size,0,none⟩) 1 1 [.string ⟨x'.field.toArray⟩,.string ⟨x'.text.toArray⟩,.slice x'.M x'.marks.length x'.mc,.int .i64 x'.sure] rfl ((Blk.new w19 _ _).reads 1 4 rfl) (by simp[Value.oneCell']) (by unfold maxLen;omega) (by omega) ?_;intro v' w20 Z2 aGf aGg;have HOw:=aHH ((aGe.out.bl ((Bl.refl w19).alloc _)).snoc (x:=x') aGg Z2 (let ⟨B',h⟩:=Hm2.out;⟨B',cX h ((Bl.refl w19).alloc _)⟩) Ht2.out);have aHF:=aHH aGf;clear Z2 aGf aGg);exact ⟨⟨i+1,l++[x'],hlt,by go_num,HOw.out,by rw[HPx.out,eN HG.out,aIp];rfl,aHF.out⟩,by simp[RowKit.intOf];omega⟩
   ·obtain rfl:i=lf.length:=(by omega);obtain ⟨A,c',rfl,hva⟩:=HO.out.at_;have VM:=HPl.out;rw[aH9] at VM;have Hsv:=aHH (AB A3 A c3 c' l3 l wr (HEq.out.trans VM.symm) (HV3.out.bl (aE5.out.trans Hbr.out)) hva (by omega) (fun v hv=>by have:=aHD.out v hv;omega));clear hva VM k1 k3 k4;go_wp2_with fail;refine Hsv.out.mono ?_;rintro e w21 ⟨rfl,aHG⟩;go_wp2_with fail;go_ret;exact ⟨by simp,dM.out.trans (VY.out.trans (Hbr.out.trans aHG))⟩
theorem EQ (f : Frm) (bW bH : Int) (C : Option Addr) (n cc : Nat) (cs : List Bool) (fnm : List UInt8) (ht gap sp : Int) (L : Option Addr) (lc : Nat) (ls : List Ltr) (nm : List UInt8) (w : World) (hF : FrmAt w f) (hS : f.small 1048576) (hN : NumOk w) (hC : SplitOk w) (hT : SpOk w)
 (hL:LtrsAt w L ls) (hnm:fnm.length≤9223372036854775807) (hn:ls.length≤9223372036854775807) (hlc:ls.length≤lc) (hR:Reads w 1 C n (cs.map .bool)) :
 Calls Tryz.prog 4 #[f.val,.agg #[bW,bH,.slice C n cc],.agg #[fnm,ht,gap,sp,.slice L ls.length lc],nm] w fun e w'=>e=.returned (.bool true)∧Bl w w':=by
 by_cases h0:f.err=0
 ·by_cases aA5:jU f=false∨12<ls.length
  ·exact Q5 f bW bH C n cc cs fnm ht gap sp L lc ls nm w hF hS hN hC hT hL hnm hn hR h0 aA5
  ·have VW:jU f=true:=by
    cases h:jU f
    ·exact absurd (Or.inl h) aA5
    ·rfl
   have h12:ls.length≤12:=by
    apply Classical.byContradiction;intro h;exact aA5 (Or.inr (by omega))
   by_cases hp:iW f.W f.H bW bH n=0
   ·have hw:mH f bW bH n=0:=(by unfold mH;rw[if_pos h0];exact hp);obtain ⟨-,W,H,r,dW,rfl,rfl,rfl⟩:=EF hw;exact LQ f W H r C cc cs fnm ht gap sp L lc ls nm w hF hS hN hC hT hL hnm hn hlc hR h0 dW VW h12 hp
   ·exact LP f bW bH C n cc cs fnm ht gap sp L lc ls nm w hF hS hN hC hT hL hnm hn hlc hR h0 VW h12 hp
 ·exact Q4 f bW bH C n cc cs fnm ht gap sp L lc ls nm w hF hS hN hC hT hL hnm hn hlc hR h0
end Go.Proofs.YtllefinciimffaaGreatDoor
