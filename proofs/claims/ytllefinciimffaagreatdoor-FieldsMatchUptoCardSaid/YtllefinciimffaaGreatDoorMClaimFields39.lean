import Derived.Test.YtllefinciimffaaGreatDoorMClaimFields38
set_option maxHeartbeats 20000000
set_option maxRecDepth 100000
namespace Go.Proofs.YtllefinciimffaaGreatDoor
open Go.RowKit Go.Shelf
theorem QZ {t:List UInt8} (h:iJ t=true):t.length≤4:=by
 unfold iJ at h;simp only[aIs,decide_eq_true_eq] at h;omega
def sM (cs:List Bool) (W X Y BW ht:Nat) (ls:List Ltr) (most gs:Int):List Sn:=zY (fS BW ht (iU cs W X Y)) BW ht ls most ht gs
structure FieldSeen (ht:Nat) (SS:List Sn):Prop where
 line:∀s∈SS,SnLine s
 len:SS.length≤8000
 says:LineSays SS
theorem zC {nm:List UInt8} {ht gap sp:Nat} {ls:List Ltr} (hfe:bN (cG nm) ht gap sp ls=0) {cs:List Bool} {W X Y BW:Nat} {most:Int} (hBW:BW≤4000) :
 FieldSeen ht (sM cs W X Y BW ht ls most (((gap : Int) + (sp : Int) + 1) / 2)) ∧ (DT (fS BW ht (iU cs W X Y)) BW ht ls most ht (((gap : Int) + (sp : Int) + 1) / 2)).flatten = iN (sM cs W X Y BW ht ls most (((gap : Int) + (sp : Int) + 1) / 2)) ∧
  (DT (fS BW ht (iU cs W X Y)) BW ht ls most ht (((gap:Int)+(sp:Int)+1) / 2)).length=(sM cs W X Y BW ht ls most (((gap:Int)+(sp:Int)+1) / 2)).length:=by
 obtain ⟨⟨-,-,-,-,-,aDN,aDO⟩,VJ⟩:=g9 hfe;obtain ⟨h1,h2,h3,h4⟩:=KK (bs:=fS BW ht (iU cs W X Y)) (W:=BW) (H:=ht) (ls:=ls) (most:=most) (ht:=ht) (gs:=((gap:Int)+(sp:Int)+1) / 2) hBW (by omega) (fun l hl=>by
  have h:=VJ l hl;have:=(fU h.2.1).1;exact ⟨⟨h.2.2.2,by have:=aR this;omega⟩,QZ h.1⟩) (by omega)
 exact ⟨⟨h3,h4,QW fun l hl=>QX (VJ l hl).1⟩,h1,h2⟩
theorem LJ {a b A B:Int} (h1:0≤a∧a≤A) (h2:0≤b∧b≤B) (hA:0≤A):0≤a*b∧a*b≤A*B:=⟨Int.mul_nonneg h1.1 h2.1,Int.mul_le_mul h1.2 h2.2 h2.1 hA⟩
theorem VC {a b A:Int} (h1:0≤a∧a≤A) (h2:1≤b):0≤a / b∧a / b≤A:=⟨Int.ediv_nonneg h1.1 (by omega),Int.le_trans (Int.ediv_le_self b h1.1) h1.2⟩
theorem I2 (x : Fld) (fnm : List UInt8) (ht gap sp : Nat) (L : Option Addr) (lc : Nat) (ls : List Ltr) (W H : Nat) (C : Option Addr) (cc : Nat) (cs : List Bool) (X Y BW BH : Nat) (w : World) (hx : x.box = ⟨X, Y, BW, BH⟩) (hmo : 0 ≤ x.most ∧ x.most ≤ 1000) (hL : LtrsAt w L ls) (hnm : fnm.length ≤ 9223372036854775807) (hn : ls.length ≤ 9223372036854775807) (hfe : bN (cG fnm) ht gap sp ls = 0)
 (hC:Reads w 1 C (W*H) (cs.map .bool)) (hs:aM (W:Int) (H:Int)=0) (hbx:X+BW≤W∧Y+BH≤H∧1≤BW∧1≤BH) (hh:ht≤BH) :
 Calls Tryz.prog 81 #[x.val, .agg #[W, H, .slice C (W * H) cc], .agg #[fnm, ht, gap, sp, .slice L ls.length lc]] w
  fun e w'=>e=.returned (.tuple #[.string ⟨(KM ht (sM cs W X Y BW ht ls x.most (((gap:Int)+(sp:Int)+1) / 2))).1.toArray⟩,.int .i64 (KM ht (sM cs W X Y BW ht ls x.most (((gap:Int)+(sp:Int)+1) / 2))).2])∧Bl w w':=by
 have hz:=aR hs;obtain ⟨⟨-,-,-,-,-,aDN,aDO⟩,VJ⟩:=g9 hfe;have hht:1≤ht∧ht≤64:=(by omega);have hBW:BW≤4000:=(by omega);obtain ⟨gs,hgs⟩:=aH0 ((((gap:Int)+(sp:Int)+1) / 2):Int);have hok:=zC hfe (cs:=cs) (W:=W) (X:=X) (Y:=Y) (BW:=BW) (most:=x.most) hBW;rw[←hgs] at hok ⊢;obtain ⟨SS,hSS⟩:=aH0 (sM cs W X Y BW ht ls x.most gs);rw[←hSS] at hok ⊢;obtain ⟨JD,hfl,cT⟩:=hok;obtain ⟨PB,hPB⟩:=aH0 (fS BW ht (iU cs W X Y));have hcu:=fun wx (hx:Reads wx 1 C (W*H) (cs.map .bool))=>NT W H X Y BW ht C cc cs wx hx hs (by omega) (by omega) (by omega) (by omega);rw[←hPB] at hfl cT;simp only[←hPB] at hcu;have hsz:aM (BW:Int) (ht:Int)=0:=by
  have:=aIG BW ht;have:=aIH hBW hht.2;unfold aM;rw[if_pos (by omega),if_neg (by omega)]
 have hrd:=fun (A:Option Addr) (ac:Nat) (wx:World) (hA:Reads wx 1 A (BW*ht) (PB.map .bool)) (hLx:LtrsAt wx L ls)=>show Calls Tryz.prog 139 #[.agg #[fnm,ht,gap,sp,.slice L ls.length lc],.agg #[BW,ht,.slice A (BW*ht) ac],x.most] wx fun e w'=>∃R d,e=.returned (.tuple #[.slice R SS.length d,.int .i64 0])∧Reads w' 7 R SS.length (iN SS)∧Bl wx w' from
  (S0 fnm ht gap sp L lc ls BW ht A (BW*ht) ac PB x.most wx hLx hA hnm hn).mono fun e w' ⟨R,m,d,err,he,hr,hb⟩=>by
    obtain ⟨⟨h1,-,h3⟩,-⟩:=hr;have hp:aF (BW:Int) (ht:Int) (BW*ht)=0:=(by unfold aF;rw[if_pos hsz,if_pos (by simp)]);have aBo:err=0:=by
     rw[h1,hfe,hp,rU (by simp),show inB x.most 0 1000=true from aQ.2 hmo];rfl
    subst aBo;obtain ⟨hm1,h5⟩:=h3 rfl;simp only[aIF] at hm1 h5;rw[←hgs] at hm1 h5;have hm2:m=SS.length:=(by rw[←cT];exact hm1);rw[show (bK (gN PB BW ht ls x.most ht) gs ht (aD (kH PB BW ht) BW) (aD (kH PB BW ht) BW).length).flatten=iN SS from hfl] at h5;subst hm2;exact ⟨R,d,he,h5,hb⟩
 have htx:=fun A d wx hr=>WR A d SS wx hr (by have:=JD.len;omega) (fun s hs=>(JD.line s hs).ok.1);obtain ⟨xn,xk,xb,M,mc,ms,xm,xd⟩:=x;obtain rfl:xb=⟨X,Y,BW,BH⟩:=hx;obtain ⟨TV,hTV⟩:=aH0 (KM ht SS);rw[←hTV];unfold Fld.val;let w1:=(((w).alloc (.cells #[xn,xk,X,Y,BW,BH,.slice M ms.length mc,xm,.bool xd] 61)).alloc (.cells #[W,H,.slice C (W*H) cc] 43)).alloc (.cells #[fnm,ht,gap,sp,.slice L ls.length lc] 46);obtain ⟨w1b,w11,w12,w13⟩:=aHQ (x:=w1) w _ _ _ _ _ _ rfl;obtain ⟨HL,HC,Hcu,Hrd,Htx,HTV,HSn⟩:=aHM (hL.bl w1b) (hC.bl w1b) hcu hrd htx hTV JD;have k1:=w11.all9;have k2:=w12.all3;have k3:=w13.all5;have dM:=aHH w1b;clear hL hC hcu hrd htx hTV JD hfl cT hPB hSS hgs w1b hfe VJ hsz hs hz hnm hn
 go_in
 go_upto_region 1 with fail;rw[show ((w.alloc (.cells #[xn,xk,X,Y,BW,BH,.slice M ms.length mc,xm,.bool xd] 61)).alloc (.cells #[W,H,.slice C (W*H) cc] 43)).alloc (.cells #[fnm,ht,gap,sp,.slice L ls.length lc] 46)=w1 from rfl];clear_value w1;go_upto_region 2 with fail;obtain ⟨o2,ho2⟩:=aH0 w1.heap.size;obtain ⟨w2,hw2⟩:=aH0 (w1.alloc (.cells #[X,Y,BW,BH] 58));have b2:=aHW hw2 ho2;have hb2:=aHU hw2;rw[←hw2,←ho2];have k1:=(w11.bl hb2).all9;have k2:=(w12.bl hb2).all3;have k3:=(w13.bl hb2).all5;have k4:=b2.all4;obtain ⟨B2,Hb2,Ho2⟩:=aHI b2 hb2 ho2;clear hw2 b2 hb2 ho2;go_upto_region 3 with fail;obtain ⟨w3,hw3⟩:=aH0 (w2.setCell ⟨o2,3,none⟩ (.int .i64 ht));have b3:Blk w3 o2 58 #[X,Y,BW,ht]:=(by rw[hw3];exact B2.out.set_ 3 _);have hb3:Bl w1 w3:=(by rw[hw3];exact Hb2.out.setCell (by rw[Ho2.out];exact Nat.le_refl _) _);rw[←hw3];have k1:=(w11.bl hb3).all9;have k2:=(w12.bl hb3).all3;have k3:=(w13.bl hb3).all5;have k4:=b3.all4;have Hb3:=aHH hb3;clear hw3 b3 hb3;go_upto_region 4 with (go_at_call 138;refine (Hcu.out _ (HC.out.bl Hb3.out)).mono ?_;rintro e w4 ⟨v4,rfl,⟨g4,rfl,hg4,ZV,aCq⟩,hb4⟩);obtain ⟨o5,ho5⟩:=aH0 w4.heap.size;obtain ⟨w5,hw5⟩:=aH0 (w4.alloc (.cells #[BW,ht,.slice (some ⟨g4,0,none⟩) (BW*ht) (BW*ht)] 43));have b5:=aHW hw5 ho5;have hb5:=aHU hw5;rw[←hw5,←ho5];have Hb5:=aHH (Hb3.out.trans (hb4.trans hb5));have hr5:Reads w5 1 (some ⟨g4,0,none⟩) (BW*ht) (PB.map .bool):=(by have:=(hg4.bl hb5).reads (BW*ht) 1 (by simp[ZV]);simpa using this);have Hrc:=aHH (Hrd.out _ (BW*ht) w5 hr5 (HL.out.bl Hb5.out));have k1:=(w11.bl Hb5.out).all9;have k3:=(w13.bl Hb5.out).all5;have k5:=b5.all3;clear hw5 ho5 b5 hb5 hb4 hr5 hg4 ZV aCq k2 k4;go_upto_region 5 with (go_at_call 139;refine Hrc.out.mono ?_;rintro e w6 ⟨R6,d6,rfl,hr6,hb6⟩);have Hb6:=aHH (Hb5.out.trans hb6);have HR6:=aHH hr6;have hln:=HSn.out.len;clear k1 k3 k5 hb6 hr6;go_wp2_with fail;go_loopw [13,14,15,39] (fun a b c u wr=>∃i:Nat,i≤SS.length∧u=.int .i64 i∧a=.int .i64 (jX SS i)∧b=.int .i64 (eY SS i)∧c=.bool (mX SS i)∧Bl w6 wr) (fun _ _ _ u _=>SS.length-(RowKit.intOf u).toNat);case atStart=>exact ⟨0,Nat.zero_le _,rfl,rfl,rfl,rfl,Bl.refl _⟩
 case round=>
  obtain ⟨i,hi,rfl,rfl,rfl,rfl,hbr⟩:=hrel;have hfb:=yA HSn.out.line i;have hwb:=r7 HSn.out.line i;by_cases hlt:i<SS.length
  ·have hg:SS[i]? = some SS[i]:=aH2 hlt;obtain ⟨s,hs0⟩:=aH0 (SS[i]);rw[←hs0] at hg;have hsl:=HSn.out.line s (List.mem_of_getElem? hg);have hsd:=hsl.ok.2.1;have hsW:=hsl.W;obtain ⟨HF,HW,HLo⟩:=aHI (qN hg) (kY hg) (x9 hg);obtain ⟨F0,hF0⟩:=aH0 (jX SS i);obtain ⟨V0,hV0⟩:=aH0 (eY SS i);obtain ⟨L0,hL0⟩:=aH0 (mX SS i);rw[←hF0] at HF hfb ⊢;rw[←hV0] at HW hwb ⊢;rw[←hL0] at HLo ⊢;obtain ⟨ad,rfl,x0,x1,x2,x3,x4,x5,x6⟩:=aAd (HR6.out.bl hbr) hg;clear hs0 hg hsl hF0 hV0 hL0;go_upto_region 10 with fail;obtain ⟨q,hq⟩:=aH0 wr.heap.size;obtain ⟨w7,hw7⟩:=aH0 (wr.alloc (.cells #[.string ⟨s.t.toArray⟩,.int .i64 s.X,.int .i64 s.Y,.int .i64 s.W,.int .i64 s.H,.int .i64 s.d,.int .i64 s.e] 157));have bq:=aHW hw7 hq;have hb7:=aHU hw7;rw[←hw7,←hq];have Hb7:=aHH (hbr.trans hb7);have k1:=bq.all7';clear hw7 hq x0 x1 x2 x3 x4 x5 x6 bq hb7 hbr;obtain ⟨isp,aAY⟩:=aH1 (fN s);have aCB:=aHH (show decide (s.t=[32])=isp from aAY);go_cut [45] from 43 to 45 (fun s45 wx=>s45=.bool isp∧w7=wx);case first=>
    go_wp2_with fail;go_meet;case rel=>exact ⟨by rw[←aCB.out];by_cases h:s.t=[32]<;>simp[h],rfl⟩
   case rest=>
   obtain ⟨rfl,rfl⟩:=hcut;have hsp:=aAY;rw[hsp] at HF HW HLo;clear aCB aAY;cases isp with
   |true=>rw[if_pos rfl,Int.add_zero] at HF HW;have hlo:mX SS (i+1)=L0:=(by rw[HLo.out];simp);have aCC:=aHH hlo;clear hsp HLo hlo;go_wp2_with fail;exact ⟨⟨i+1,hlt,by go_num,by rw[HF.out],by rw[HW.out],by rw[aCC.out],Hb7.out⟩,by simp[RowKit.intOf];omega⟩
   |false=>
    rw[if_neg (by simp)] at HF HW;obtain ⟨dm,hdm⟩:=aH1 (max s.d 0);have hdb:0≤dm∧dm≤32000000:=(by omega);rw[hdm] at HF;have aHh:max 0 s.d=dm:=(by omega);clear hsp;by_cases e2:s.d<0
    ·have hlo:mX SS (i+1)=true:=(by rw[HLo.out,aIu e2];simp);have aCC:=aHH hlo;clear HLo hlo;go_wp2_with fail;exact ⟨⟨i+1,hlt,by go_num,by rw[HF.out],by rw[HW.out],by rw[aCC.out],Hb7.out⟩,by simp[RowKit.intOf];omega⟩
    ·have hlo:mX SS (i+1)=L0:=(by rw[HLo.out,aIt e2];simp);have aCC:=aHH hlo;clear HLo hlo;go_wp2_with fail;exact ⟨⟨i+1,hlt,by go_num,by rw[HF.out],by rw[HW.out],by rw[aCC.out],Hb7.out⟩,by simp[RowKit.intOf];omega⟩
  ·obtain rfl:i=SS.length:=(by omega);obtain ⟨F0,hF0⟩:=aH0 (jX SS SS.length);obtain ⟨V0,hV0⟩:=aH0 (eY SS SS.length);obtain ⟨L0,hL0⟩:=aH0 (mX SS SS.length);have htv:TV=if V0=0 then ([],1000) else if L0=true then (eV SS,0) else (eV SS,max (1000-F0 / ((ht:Int)*V0)) 0):=(by rw[HTV.out,hF0,hV0,hL0];rfl);rw[←hF0] at hfb ⊢;rw[←hV0] at hwb ⊢;rw[←hL0];have Hbr:=aHH hbr;have Htc:=aHH (fun wx (hb:Bl w6 wx)=>Htx.out R6 d6 wx (HR6.out.bl hb));have k3:=(w13.bl (Hb6.out.trans hbr)).all5;by_cases hv:V0=0
   ·rw[if_pos hv] at htv;have HT:=aHH htv;clear htv hF0 hV0 hL0 hbr;go_wp2_with fail
    go_ret2
    exact ⟨by rw[HT.out]<;>rfl,dM.out.trans (Hb6.out.trans Hbr.out)⟩
   ·rw[if_neg hv] at htv;cases L0 with
    |true=>
     rw[if_pos rfl] at htv;have HT:=aHH htv;clear htv hF0 hV0 hL0 hbr;go_wp2_with fail;refine (Htc.out _ Hbr.out).mono ?_;rintro e w7 ⟨rfl,hb7⟩;go_wp2_with fail
     go_ret2
     exact ⟨by rw[HT.out]<;>rfl,dM.out.trans (Hb6.out.trans (Hbr.out.trans hb7))⟩
    |false=>
     rw[if_neg (by simp)] at htv;have hV1:1≤V0:=(by omega);obtain ⟨D,hD⟩:=aH1 ((ht:Int)*V0);have hDb:=LJ (a:=(ht:Int)) (b:=V0) (A:=64) (B:=4000*8000) (by omega) (by omega) (by decide);have hD1:1≤D:=by
      have:(1:Int)*1≤(ht:Int)*V0:=Int.mul_le_mul (by omega) hV1 (by decide) (by omega);omega
     rw[hD] at hDb htv;have hD0:D≠0:=(by omega);obtain ⟨Q,hQ⟩:=aH1 (F0 / D);have hQb:=VC (a:=F0) (b:=D) (A:=32000000000*8000) (by omega) hD1;rw[hQ] at hQb htv;obtain ⟨Z,hZ⟩:=aH1 (max (1000-Q) 0);have hZ2:max 0 (1000-Q)=Z:=(by omega);rw[hZ] at htv;have HT:=aHH htv;clear htv hF0 hV0 hL0 hbr;go_upto_region 20 with fail;refine aHZ [aHX 0,aHX 2,aHX 3,aHX 4,aHX 5,aHX 6,aHX 7,aHX 8,aHX 9,aHY 1,aHX 10,aHX 11] (by kernel_rfl) ?_
     iterate 2
      apply Flow.mv _ rfl
      ·intro a b;simp only[sqA,Act.eval,sqC];exact b
     iterate 2
      apply Flow.calm2 _ _ rfl rfl
      ·intro a b c d;obtain ⟨e,f⟩:=b.rule;go_simp;(try go_ints);exact d
      ·intro a b;simp only[sqA];exact b
     apply Flow.mv _ rfl
     ·intro a b;simp only[sqA,Act.eval,sqC];exact b
     iterate 4
      apply Flow.calm2 _ _ rfl rfl
      ·intro a b c d;obtain ⟨e,f⟩:=b.rule;go_simp;(try go_ints);exact d
      ·intro a b;simp only[sqA];exact b
     apply Flow.move rfl;go_wp2_with fail;refine (Htc.out _ (Hbr.out.drew)).mono ?_;rintro e w7 ⟨rfl,HB1⟩;obtain ⟨hc7,hf7⟩:=HB1.rule;go_wp2_with fail;refine ⟨fun _=>(by first|exact HB1|exact Bl.refl _),?_⟩
     iterate 2
      apply Flow.asg _ rfl
      ·intro a b;simp only[sqA,Act.eval,sqC];exact b
     refine Flow.done ?_;have hb7:Bl _ w7:=Bl.ofDrew HB1;go_wp2_with fail
     go_ret2
     exact ⟨by rw[HT.out]<;>rfl,dM.out.trans (Hb6.out.trans (Hbr.out.trans hb7))⟩
theorem I3 (x:Fld) (W H:Nat) (C:Option Addr) (cc:Nat) (cs:List Bool) (X Y BW BH:Nat) (w:World) (hx:x.box=⟨X,Y,BW,BH⟩) (hC:Reads w 1 C (W*H) (cs.map .bool)) (hs:aM (W:Int) (H:Int)=0) (hbx:X+BW≤W∧Y+BH≤H∧1≤BW∧1≤BH) (hT:SpOk w) :
 Calls Tryz.prog 82 #[x.val, .agg #[W, H, .slice C (W * H) cc]] w
  fun e w'=>e=.returned (.tuple #[.string ⟨(LH BH (iF (fS BW BH (iU cs W X Y)) BW BH) (decide (true∈fS BW BH (iU cs W X Y)))).1.toArray⟩,.int .i64 (LH BH (iF (fS BW BH (iU cs W X Y)) BW BH) (decide (true∈fS BW BH (iU cs W X Y)))).2])∧Bl w w':=by
 have hz:=aR hs;have hBW:BW≤4000:=(by omega);have hBH:BH≤4000:=(by omega);have cT:=nF BW BH (iU cs W X Y);obtain ⟨PB,hPB⟩:=aH0 (fS BW BH (iU cs W X Y));have hcu:=fun wx (hx:Reads wx 1 C (W*H) (cs.map .bool))=>NT W H X Y BW BH C cc cs wx hx hs (by omega) (by omega) (by omega) (by omega);simp only[←hPB] at hcu cT ⊢;have hWH:W*H≤1048576:=(by have:=aIG W H;omega);have hsz:aM (BW:Int) (BH:Int)=0:=by
  have:=aIG BW BH;have:=aIH (show BW≤W by omega) (show BH≤H by omega);unfold aM;rw[if_pos (by omega),if_neg (by omega)]
 have hp:aF (BW:Int) (BH:Int) (BW*BH)=0:=(by unfold aF;rw[if_pos hsz,if_pos (by simp)]);have hfi:=fun (A:Option Addr) (wx:World) (hA:Reads wx 1 A (BW*BH) (PB.map .bool)) hT=>VB BW BH A (BW*BH) PB wx hA (Nat.le_refl _) hsz hT;have aAZ:=I0 (bs:=PB) (W:=BW) (H:=BH) hBW hBH;obtain ⟨CS,hCS⟩:=aH0 (iF PB BW BH);rw[←hCS] at aAZ ⊢;simp only[←hCS] at hfi;have hbo:=fun (A:Option Addr) (wx:World) (hA:Reads wx 1 A (BW*BH) (PB.map .bool))=>show Calls Tryz.prog 33 #[.agg #[BW,BH,.slice A (BW*BH) (BW*BH)]] wx fun e w'=>∃X Y a b,e=.returned (.tuple #[.agg #[.int .i64 X,.int .i64 Y,.int .i64 a,.int .i64 b],.int .i64 (aE (!decide (true∈PB)) 10)])∧Bl wx w' from
  (AR BW BH A (BW*BH) (BW*BH) PB wx hA).mono fun e w' ⟨X,Y,a,b,err,he,_,h2,hb⟩=>by
    obtain ⟨is,hbi,aBo⟩:=h2 hp;simp only[aIF] at hbi;rw[TL hbi cT] at aBo;subst aBo;exact ⟨X,Y,a,b,he,hb⟩
 obtain ⟨ink,aA0⟩:=aH0 (decide (true∈PB));rw[←aA0] at ⊢;simp only[←aA0] at hbo;obtain ⟨xn,xk,xb,M,mc,ms,xm,xd⟩:=x;obtain rfl:xb=⟨X,Y,BW,BH⟩:=hx;obtain ⟨TV,hTV⟩:=aH0 (LH BH CS ink);rw[←hTV];unfold Fld.val;let w1:=((w).alloc (.cells #[xn,xk,.int .i64 X,.int .i64 Y,BW,BH,.slice M ms.length mc,xm,.bool xd] 61)).alloc (.cells #[W,H,.slice C (W*H) cc] 43);obtain ⟨w1b,w11,w12⟩:=aHP (x:=w1) w _ _ _ _ rfl;obtain ⟨HC,Hcu,Hfi,Hbo,HTV,aDf,HT⟩:=aHM (hC.bl w1b) hcu hfi hbo hTV aAZ (hT.bl w1b);have k1:=w11.all9;have k2:=w12.all3;have dM:=aHH w1b;clear hC hcu hfi hbo hTV aAZ hCS aA0 w1b hsz hs hz hp hT hPB cT
 go_in
 go_upto_region 1 with fail;rw[show (w.alloc (.cells #[xn,xk,.int .i64 X,.int .i64 Y,BW,BH,.slice M ms.length mc,xm,.bool xd] 61)).alloc (.cells #[W,H,.slice C (W*H) cc] 43)=w1 from rfl];clear_value w1;go_upto_region 2 with (go_at_call 138;refine (Hcu.out _ HC.out).mono ?_;rintro e w4 ⟨v4,rfl,⟨g4,rfl,hg4,ZV,aCq⟩,hb4⟩);obtain ⟨o5,ho5⟩:=aH0 w4.heap.size;obtain ⟨w5,hw5⟩:=aH0 (w4.alloc (.cells #[BW,BH,.slice (some ⟨g4,0,none⟩) (BW*BH) (BW*BH)] 43));have b5:=aHW hw5 ho5;have hb5:=aHU hw5;rw[←hw5,←ho5];have Hb5:=aHH (hb4.trans hb5);have hr5:Reads w5 1 (some ⟨g4,0,none⟩) (BW*BH) (PB.map .bool):=(by have:=(hg4.bl hb5).reads (BW*BH) 1 (by simp[ZV]);simpa using this);have HR5:=aHH hr5;have B5:=aHH b5;have k1:=(w11.bl Hb5.out).all9;have k5:=b5.all3;clear hw5 ho5 b5 hb5 hb4 hr5 hg4 ZV aCq k2;go_upto_region 3 with (go_at_call 141;refine (Hfi.out _ _ HR5.out (HT.out.bl Hb5.out)).mono ?_;rintro e w6 ⟨R6,d6,E6,rfl,hr6,hb6⟩);obtain ⟨Hb6,HR6,aFY⟩:=aHI (Hb5.out.trans hb6) hr6 hb6;have hln:=aDf.out.2;clear k1 k5 hb6 hr6;go_wp2_with fail;go_loopw [4,10,29] (fun a b u wr=>∃i:Nat,i≤CS.length∧u=.int .i64 i∧a=.string ⟨(d4 CS i).1.toArray⟩∧b=.int .i64 (d4 CS i).2∧Bl w6 wr) (fun _ _ u _=>CS.length-(RowKit.intOf u).toNat);case atStart=>exact ⟨0,Nat.zero_le _,rfl,rfl,rfl,Bl.refl _⟩
 case round=>
  obtain ⟨i,hi,rfl,rfl,rfl,hbr⟩:=hrel;have hbb:=EK aDf.out.1 i;by_cases hlt:i<CS.length
  ·have hg:CS[i]? = some CS[i]:=aH2 hlt;obtain ⟨s,hs0⟩:=aH0 (CS[i]);rw[←hs0] at hg;have HS:=aHH (pR hg);obtain ⟨T0,hT0⟩:=aH0 ((d4 CS i).1);obtain ⟨N0,hN0⟩:=aH0 ((d4 CS i).2);rw[←hN0] at HS hbb ⊢;rw[←hT0] at ⊢;obtain ⟨ad,rfl,x0,x1,x2,x3,x4,x5⟩:=O0 (HR6.out.bl hbr) hg;have HT0:=aHH hT0;have HN0:=aHH hN0;clear hs0 hg hT0 hN0;go_upto_region 7 with fail;obtain ⟨q,hq⟩:=aH0 wr.heap.size;obtain ⟨w7,hw7⟩:=aH0 (wr.alloc (.cells #[s.k,s.t,s.X,s.Y,s.W,s.n] 161));have bq:=aHW hw7 hq;have hb7:=aHU hw7;rw[←hw7,←hq];have Hb7:=aHH (hbr.trans hb7);have k1:=bq.all6';clear hw7 hq x0 x1 x2 x3 x4 x5 bq hb7 hbr;by_cases e1:N0<s.n
   ·have hst:d4 CS (i+1)=(s.t,s.n):=(by rw[HS.out,if_pos e1]);have HSt:=aHH hst;clear HS hst;go_upto_region 8 with fail;refine aHZ [aHX 0,aHX 1,aHX 2,aHX 3,aHX 4,aHX 5] (by kernel_rfl) ?_
    iterate 4
     apply Flow.calm2 _ _ rfl rfl
     ·intro a b c d;obtain ⟨e,f⟩:=b.rule;go_simp;(try go_ints);exact d
     ·intro a b;simp only[sqA];exact b
    iterate 2
     apply Flow.asg _ rfl
     ·intro a b;simp only[sqA,Act.eval,sqC];exact b
    refine Flow.done ?_;go_wp2_with fail;exact ⟨⟨i+1,hlt,by go_num,by rw[HSt.out],by rw[HSt.out],Hb7.out.drew⟩,by simp[RowKit.intOf];omega⟩
   ·have hst:d4 CS (i+1)=d4 CS i:=(by rw[HS.out,if_neg e1]);have HSt:=aHH hst;clear HS hst;go_wp2_with fail;exact ⟨⟨i+1,hlt,by go_num,by rw[HSt.out,HT0.out],by rw[HSt.out,HN0.out],Hb7.out⟩,by simp[RowKit.intOf];omega⟩
  ·obtain rfl:i=CS.length:=(by omega);obtain ⟨T0,hT0⟩:=aH0 ((d4 CS CS.length).1);obtain ⟨N0,hN0⟩:=aH0 ((d4 CS CS.length).2);have htv:TV=(T0,if N0=0∧ink=false then 1000 else 1000*N0 / (BH:Int)):=(by rw[HTV.out,hT0,hN0];rfl);rw[←hT0,←hN0] at hbb;rw[←hT0,←hN0];have Hbr:=aHH (Hb6.out.trans hbr);have k1:=(w11.bl Hbr.out).all9;have k5:=(B5.out.bl (aFY.out.trans hbr)).all3;have HRb:=aHH (HR5.out.bl (aFY.out.trans hbr));obtain ⟨Q,hQ⟩:=aH1 (1000*N0 / (BH:Int));rw[hQ] at htv;have hBH1:1≤(BH:Int):=(by omega);have hBH0:BH≠0:=(by omega);have Htv:=aHH htv;clear hT0 hN0 hbr htv;by_cases hv:N0=0
   ·have hT1:=hbb.2.2 hv;subst hv;have HT1:=aHH hT1;clear hbb hT1;go_upto_region 11 with fail;go_upto_region 12 with (go_at_call 33;refine (Hbo.out _ _ HRb.out).mono ?_;rintro e w7 ⟨Xb,Yb,ab,bb,rfl,hb7⟩);obtain ⟨w8,hw8⟩:=aH0 (w7.alloc (.cells #[Xb,Yb,ab,bb] 58));have hb8:=aHU hw8;rw[←hw8];have Hb8:=aHH (Hbr.out.trans (hb7.trans hb8));have k1:=(w11.bl Hb8.out).all9;clear hw8 hb8 hb7 k5;cases ink with
    |false=>
     have HX:=aHH (show TV=([],1000) by rw[Htv.out,HT1.out];rfl);have hwi:aE (!false) 10=10:=rfl;go_wp2_with fail
     go_ret2
     exact ⟨by rw[HX.out]<;>rfl,dM.out.trans Hb8.out⟩
    |true=>
     have HX:=aHH (show TV=(T0,0) by rw[Htv.out,if_neg (by simp),←hQ];simp);have hwi:aE (!true) 10=0:=rfl;clear hQ;go_upto_region 14 with fail;refine aHZ [aHX 0,aHX 1,aHX 2,aHX 3,aHX 4,aHX 5,aHX 6,aHX 7,aHX 8] (by kernel_rfl) ?_
     iterate 2
      apply Flow.mv _ rfl
      ·intro a b;simp only[sqA,Act.eval,sqC];exact b
     iterate 5
      apply Flow.calm2 _ _ rfl rfl
      ·intro a b c d;obtain ⟨e,f⟩:=b.rule;go_simp;(try go_ints);exact d
      ·intro a b;simp only[sqA];exact b
     iterate 2
      apply Flow.asg _ rfl
      ·intro a b;simp only[sqA,Act.eval,sqC];exact b
     refine Flow.done ?_;go_wp2_with fail
     go_ret2
     exact ⟨by rw[HX.out]<;>rfl,(dM.out.trans Hb8.out).drew⟩
   ·have HX:=aHH (show TV=(T0,1000*N0 / (BH:Int)) by rw[Htv.out,if_neg (by simp[hv]),hQ]);clear hQ;go_upto_region 14 with fail;refine aHZ [aHX 0,aHX 1,aHX 2,aHX 3,aHX 4,aHX 5,aHX 6,aHX 7,aHX 8] (by kernel_rfl) ?_
    iterate 2
     apply Flow.mv _ rfl
     ·intro a b;simp only[sqA,Act.eval,sqC];exact b
    iterate 5
     apply Flow.calm2 _ _ rfl rfl
     ·intro a b c d;obtain ⟨e,f⟩:=b.rule;go_simp;(try go_ints);exact d
     ·intro a b;simp only[sqA];exact b
    iterate 2
     apply Flow.asg _ rfl
     ·intro a b;simp only[sqA,Act.eval,sqC];exact b
    refine Flow.done ?_;go_wp2_with fail
    go_ret2
    exact ⟨by rw[HX.out]<;>rfl,(dM.out.trans Hbr.out).drew⟩
theorem NV:(Tryz.prog.info? 69).map (fun i=>(i.zero,i.size,i.bytes))=some (some (.agg #[.string ⟨#[]⟩,.string ⟨#[]⟩,.slice none 0 0,.int .i64 0]),4,64):=by kernel_rfl
def X6 (cs:List Bool) (W:Nat) (b:Bx):List Bool:=fS b.W.toNat b.H.toNat (iU cs W b.X.toNat b.Y.toNat)
def X7 (cs:List Bool) (W ht:Nat) (ls:List Ltr) (gs:Int) (x:Fld):List UInt8 × Int:=KM ht (sM cs W x.box.X.toNat x.box.Y.toNat x.box.W.toNat ht ls x.most gs)
def X8 (cs:List Bool) (W:Nat) (x:Fld):List UInt8 × Int:=LH x.box.H (iF (X6 cs W x.box) x.box.W.toNat x.box.H.toNat) (decide (true∈X6 cs W x.box))
theorem YA {w:World} {base:Nat} {e:TypeId} {size n cap:Nat} {A:Option Addr} {xs:List Value} (h:w.ownsRow base e size (.slice A n cap) n xs):n≤cap:=by
 rcases h.2 with ⟨hv,h0⟩|⟨g,cap',cur,hv,-,-,hc,-⟩
 ·omega
 ·injection hv with _ _ h3;omega
def lG (cs:List Bool) (W:Nat) (dark:Int) (ht:Nat) (ls:List Ltr) (gs:Int) (x:Fld):VP:=
 if x.kind=1 then (x.name,(X7 cs W ht ls gs x).1,[],(X7 cs W ht ls gs x).2)
 else if x.kind=2 then (x.name,(X8 cs W x).1,[],(X8 cs W x).2)
 else (x.name,[],dA cs W dark x.marks x.marks.length,if x.kind=3∧1<(dA cs W dark x.marks x.marks.length).length then 0 else 1000)
def LK (ht:Int) (lf:List Fld):Bool:=lf.any fun x=>decide (x.kind=1)&&decide (x.box.H<ht)
theorem I4 {ht:Int} {lf:List Fld} {x:Fld} (hx:x∈lf) (h1:x.kind=1) (h2:x.box.H<ht):LK ht lf=true:=aIm.2 ⟨x,hx,by rw[aIu h1,aIu h2];rfl⟩
theorem aAw {ht:Int} {lf:List Fld} (h:∀x∈lf,x.kind=1→ht≤x.box.H):LK ht lf=false:=by
 unfold LK;rw[List.any_eq_false];intro x hx hc;rw[aIs,decide_eq_true_eq,decide_eq_true_eq] at hc;have:=h x hx hc.1;omega
def lI (fe te pe:Int) (low:Bool):Int:=if fe=0 then (if te=0 then (if pe=0 then aE low 15 else pe) else te) else fe
def FReadRes (E:Int) (ps:List VP) (e:Ending) (w':World):Prop:=∃A m c,e=.returned (.tuple #[.slice A m c,E])∧(E≠0→m=0)∧(E=0→∃l:List Vlu,l.map Vlu.plain=ps∧m=l.length∧m≤c∧VlusAt w' A l)
theorem VD (f : Frm) (bW bH : Int) (C : Option Addr) (n cc : Nat) (fnm : List UInt8) (ht gap sp : Int) (L : Option Addr) (lc : Nat) (ls : List Ltr) (low : Bool) (ps : List VP) (w : World) (hF : FrmAt w f) (hS : f.small 1048576) (hN : NumOk w) (hC : SplitOk w)
 (hL:LtrsAt w L ls) (hnm:fnm.length≤9223372036854775807) (hn:ls.length≤9223372036854775807) (mK:¬(f.err=0∧bN (cG fnm) ht gap sp ls=0∧iW f.W f.H bW bH n=0)) :
 Calls Tryz.prog 16 #[f.val, .agg #[bW, bH, .slice C n cc], .agg #[fnm, ht, gap, sp, .slice L ls.length lc]] w
  fun e w'=>FReadRes (lI f.err (bN (cG fnm) ht gap sp ls) (iW f.W f.H bW bH n) low) ps e w'∧Bl w w':=by
 have hck:=fun wx hF hN hC=>mZ f wx hF hS hN hC;have hfc:=fun wx hL=>xM fnm ht gap sp L lc ls wx hL hnm hn;have hfi:=fun wx=>EG f bW bH C n cc wx;obtain ⟨a,ha⟩:=aH0 f.err;obtain ⟨b,hb⟩:=aH0 (bN (cG fnm) ht gap sp ls);obtain ⟨c,hc⟩:=aH0 (iW f.W f.H bW bH n);rw[←ha] at hck mK ⊢;simp only[←hb] at hfc mK ⊢;simp only[←hc] at hfi mK ⊢;obtain ⟨E,hE⟩:=aH0 (lI a b c low);rw[←hE];have vF:=fun (hz:E≠0) wx=>show FReadRes E ps (.returned (.tuple #[.slice none 0 0,E])) wx from ⟨none,0,0,rfl,fun _=>rfl,fun h=>absurd h hz⟩;obtain ⟨RS,hRS⟩:=aH0 (FReadRes E ps);rw[←hRS] at vF ⊢;obtain ⟨nm',fW,fH,reach,dark,AL,ac,la,FL,fc,lf,RL,rc,lr⟩:=f;let w1:=(((w).alloc (.cells #[nm',fW,fH,reach,dark,.slice AL la.length ac,.slice FL lf.length fc,.slice RL lr.length rc] 26)).alloc (.cells #[bW,bH,.slice C n cc] 43)).alloc (.cells #[fnm,ht,gap,sp,.slice L ls.length lc] 46);obtain ⟨w1b,w11,w12,w13⟩:=aHQ (x:=w1) w _ _ _ _ _ _ rfl;unfold Frm.val at hck hfi;have k1:=w11.all8;have k2:=w12.all3;have k3:=w13.all5;obtain ⟨dM,Hck,Hfc,HL,Hfi,aEO,HE⟩:=aHM w1b (hck w1 (hF.bl w1b) (hN.bl w1b) (hC.bl w1b)) hfc (hL.bl w1b) hfi vF hE;unfold Frm.val;clear w1b hE hck hfc hfi vF hF hN hC hS hL hRS ha hb hc hnm hn
 go_in
 go_upto_region 1 with fail;rw[show ((w.alloc (.cells #[nm',fW,fH,reach,dark,.slice AL la.length ac,.slice FL lf.length fc,.slice RL lr.length rc] 26)).alloc (.cells #[bW,bH,.slice C n cc] 43)).alloc (.cells #[fnm,ht,gap,sp,.slice L ls.length lc] 46)=w1 from rfl];clear_value w1;go_upto_region 2 with (go_at_call 39;refine Hck.out.mono ?_;rintro e w2 ⟨rfl,hb2⟩);have Hb2:=aHH hb2;have k1:=(w11.bl hb2).all8;have k2:=(w12.bl hb2).all3;have k3:=(w13.bl hb2).all5;clear hb2;by_cases ha:a=0;case neg=>
  have q:(a != 0)=true:=(by simp[ha]);have hEa:E=a:=(by rw[HE.out];unfold lI;rw[if_neg ha]);subst hEa;have Hz:=aHH ha;clear ha;go_wp2_with fail
  go_ret2
  exact ⟨aEO.out Hz.out _,dM.out.trans Hb2.out⟩
 case pos=>
  subst ha;go_upto_region 5 with (go_at_call 79;refine (Hfc.out _ (HL.out.bl Hb2.out)).mono ?_;rintro e w3 ⟨rfl,hb3⟩);have Hb3:=aHH (Hb2.out.trans hb3);have k1:=(w11.bl Hb3.out).all8;have k2:=(w12.bl Hb3.out).all3;clear hb3 k3;by_cases hb:b=0;case neg=>
   have q:(b != 0)=true:=(by simp[hb]);have hEb:E=b:=(by rw[HE.out];unfold lI;rw[if_pos rfl,if_neg hb]);subst hEb;have Hz:=aHH hb;clear hb;go_wp2_with fail
   go_ret2
   exact ⟨aEO.out Hz.out _,dM.out.trans Hb3.out⟩
  case pos=>
   subst hb;have hc:c≠0:=fun h=>mK (by simp[h]);clear mK;go_upto_region 8 with (go_at_call 80;refine (Hfi.out _).mono ?_;rintro e w4 ⟨rfl,hb4⟩);have q:(c != 0)=true:=(by simp[hc]);have hEc:E=c:=(by rw[HE.out];unfold lI;rw[if_pos rfl,if_pos rfl,if_neg hc]);subst hEc;have Hz:=aHH hc;clear hc;go_wp2_with fail
   go_ret2
   exact ⟨aEO.out Hz.out _,dM.out.trans (Hb3.out.trans hb4)⟩
theorem YB (f : Frm) (W H r : Nat) (C : Option Addr) (cc : Nat) (cs : List Bool) (fnm : List UInt8) (ht gap sp : Nat) (L : Option Addr) (lc : Nat) (ls : List Ltr) (w : World) (hf : f.err = 0) (dW : Fits f W H r) (hF : FrmAt w f) (hS : f.small 1048576) (hN : NumOk w) (hC : SplitOk w) (hT : SpOk w)
 (hL:LtrsAt w L ls) (hnm:fnm.length≤9223372036854775807) (hn:ls.length≤9223372036854775807) (hfe:bN (cG fnm) ht gap sp ls=0) (hp:iW f.W f.H W H (W*H)=0) (hR:Reads w 1 C (W*H) (cs.map .bool)) :
 Calls Tryz.prog 16 #[f.val, .agg #[W, H, .slice C (W * H) cc], .agg #[fnm, ht, gap, sp, .slice L ls.length lc]] w
  fun e w'=>FReadRes (aE (LK ht f.lf) 15) (f.lf.map (lG (kW f cs) W f.dark ht ls (((gap:Int)+(sp:Int)+1) / 2))) e w'∧Bl w w':=by
 have hck:=fun wx hF hN hC=>mZ f wx hF hS hN hC;rw[hf] at hck;have hfc:=fun wx hL=>xM fnm ht gap sp L lc ls wx hL hnm hn;rw[hfe] at hfc;have hfi:=fun wx=>EG f W H C (W*H) cc wx;rw[hp] at hfi;have hs:=zB dW;have hdk:=EM hf;have hpl:=fun wx hF hR=>IG f C cc cs W H r wx dW hF hR;have hok:=fun x (hx:x∈f.lf)=>NU hf dW hx;have hlf:f.lf.length≤50:=(NB hf).1;obtain ⟨PB,hPB⟩:=aH0 (kW f cs);simp only[←hPB] at hpl ⊢;obtain ⟨gs,hgs⟩:=aH0 ((((gap:Int)+(sp:Int)+1) / 2):Int);rw[←hgs];obtain ⟨FV,hFV⟩:=aH0 (lG PB W f.dark ht ls gs);rw[←hFV];have hmk:=fun (x:Fld) (hx:x∈f.lf) A c wx hM hR=>BJ f x W H A c PB wx hs hM (hok x hx).marks (hok x hx).m20 hdk hR
 have hrt := fun (x : Fld) (hx : x ∈ f.lf) (hk : x.kind = 1) (hh : (ht : Int) ≤ x.box.H) (A : Option Addr) (c : Nat) wx (hLx : LtrsAt wx L ls) (hA : Reads wx 1 A (W * H) (PB.map .bool)) => show Calls Tryz.prog 81 #[x.val, .agg #[W, H, .slice A (W * H) c], .agg #[fnm, ht, gap, sp, .slice L ls.length lc]] wx
  fun e w'=>∃t s,FV x=(x.name,t,[],s)∧t.length≤9223372036854775807∧e=.returned (.tuple #[.string ⟨t.toArray⟩,.int .i64 s])∧Bl wx w' by
  obtain ⟨X,Y,bw,bh,hb,h1,h2,h3,h4⟩:=((hok x hx).box (by rw[hk];rfl)).inW;have hh2:ht≤bh:=(by rw[hb] at hh;have:(ht:Int)≤(bh:Int):=hh;omega);have hW:=dW.hW;have cT:=(zC hfe (cs:=PB) (W:=W) (X:=X) (Y:=Y) (BW:=bw) (most:=x.most) (by omega)).1;rw[←hgs] at cT;refine (I2 x fnm ht gap sp L lc ls W H A c PB X Y bw bh wx hb (hok x hx).most hLx hnm hn hfe hA hs ⟨h3,h4,h1,h2⟩ hh2).mono ?_;rintro e w' ⟨rfl,hbl⟩;refine ⟨_,_,?_,?_,rfl,hbl⟩
  ·rw[hFV];unfold lG;rw[if_pos hk];unfold X7;rw[hb,hgs];rfl
  ·rw[←hgs];have h5:(eV (sM PB W X Y bw ht ls x.most gs)).length≤4*8000:=by
    refine aII ?_ (aIH (Nat.le_refl 4) cT.len);unfold eV;rw[List.length_flatMap];exact sL fun s hs=>(cT.line s hs).ok.1
   unfold KM;split
   ·exact Nat.zero_le _
   ·split
    ·show (eV _).length≤_;omega
    ·show (eV _).length≤_;omega
 have hrc := fun (x : Fld) (hx : x ∈ f.lf) (hk : x.kind = 2) (A : Option Addr) (c : Nat) wx (hTx : SpOk wx) (hA : Reads wx 1 A (W * H) (PB.map .bool)) => show Calls Tryz.prog 82 #[x.val, .agg #[W, H, .slice A (W * H) c]] wx
  fun e w'=>∃t s,FV x=(x.name,t,[],s)∧t.length≤9223372036854775807∧e=.returned (.tuple #[.string ⟨t.toArray⟩,.int .i64 s])∧Bl wx w' by
  obtain ⟨X,Y,bw,bh,hb,h1,h2,h3,h4⟩:=((hok x hx).box (by rw[hk];rfl)).inW;have hW:=dW.hW;have hH:=dW.hH;refine (I3 x W H A c PB X Y bw bh wx hb hA hs ⟨h3,h4,h1,h2⟩ hTx).mono ?_;rintro e w' ⟨rfl,hbl⟩;refine ⟨_,_,?_,?_,rfl,hbl⟩
  ·rw[hFV];unfold lG;rw[if_neg (by rw[hk];decide),if_pos hk];unfold X8 X6;rw[hb];rfl
  ·show (d4 _ _).1.length≤_;exact tX (zA (bs:=fS bw bh (iU PB W X Y)) (W:=bw) (H:=bh) (by omega) (by omega)) _
 have hfm:=fun (x:Fld) (h1:x.kind≠1) (h2:x.kind≠2)=>show FV x=(x.name,[],dA PB W f.dark x.marks x.marks.length,if x.kind=3∧1<(dA PB W f.dark x.marks x.marks.length).length then 0 else 1000) by
  rw[hFV];unfold lG;rw[if_neg h1,if_neg h2]
 obtain ⟨E,hE⟩:=aH0 (aE (LK ht f.lf) 15);rw[←hE];obtain ⟨nm',fW,fH,reach,dark,AL,ac,la,FL,fc,lf,RL,rc,lr⟩:=f;simp only at hdk hok hlf hE;obtain ⟨MF,hMF⟩:∃g,g=fun x:Fld=>dA PB W dark x.marks x.marks.length:=⟨_,rfl⟩;have hMx:∀x:Fld,dA PB W dark x.marks x.marks.length=MF x:=fun x=>(by rw[hMF]);have hML:∀x:Fld,(MF x).length≤x.marks.length:=fun x=>(by rw[hMF];exact gC _ _ _ _ _);simp only[hMx] at hmk hfm;let w1:=(((w).alloc (.cells #[nm',fW,fH,reach,dark,.slice AL la.length ac,.slice FL lf.length fc,.slice RL lr.length rc] 26)).alloc (.cells #[W,H,.slice C (W*H) cc] 43)).alloc (.cells #[fnm,ht,gap,sp,.slice L ls.length lc] 46);obtain ⟨w1b,w11,w12,w13⟩:=aHQ (x:=w1) w _ _ _ _ _ _ rfl;have sz1:w1.heap.size=w.heap.size+1+1+1:=(by simp[w1]);unfold Frm.val at hck hfi hpl hmk;unfold Fld.val at hmk hrt hrc;have k1:=w11.all8;have k2:=w12.all3;have k3:=w13.all5;obtain ⟨dM,Hck,Hfc,HL,Hfi,HE,HF,HT⟩:=aHN w1b (hck w1 (hF.bl w1b) (hN.bl w1b) (hC.bl w1b)) hfc hL hfi hE hF hT;obtain ⟨HR,Hpl,Hmk,Hrt,Hrc,Hfm,Hok,HML⟩:=aHN hR hpl hmk hrt hrc hfm hok hML;unfold Frm.val;show Calls _ _ _ w fun e w'=>FReadRes E (lf.map FV) e w'∧Bl w w';clear w1b hE hck hfc hfi hF hN hC hS hL hnm hn dW hf hfe hp hR hT hpl hmk hrt hrc hfm hok hML hMx hMF hFV hgs hPB hs hdk
 go_in
 go_upto_region 1 with fail;rw[show ((w.alloc (.cells #[nm',fW,fH,reach,dark,.slice AL la.length ac,.slice FL lf.length fc,.slice RL lr.length rc] 26)).alloc (.cells #[W,H,.slice C (W*H) cc] 43)).alloc (.cells #[fnm,ht,gap,sp,.slice L ls.length lc] 46)=w1 from rfl];clear_value w1;go_upto_region 4 with (go_at_call 39;refine Hck.out.mono ?_;rintro e w2 ⟨rfl,hb2⟩);have Hb2:=aHH hb2;have k3:=(w13.bl hb2).all5;clear hb2 k1 k2;go_upto_region 7 with (go_at_call 79;refine (Hfc.out _ (HL.out.bl (dM.out.trans Hb2.out))).mono ?_;rintro e w3 ⟨rfl,hb3⟩);have Hb3:=aHH (Hb2.out.trans hb3);have k1:=(w11.bl Hb3.out).all8;have k2:=(w12.bl Hb3.out).all3;clear hb3 k3;go_upto_region 10 with (go_at_call 80;refine (Hfi.out _).mono ?_;rintro e w4 ⟨rfl,hb4⟩);have Hb4:=aHH (Hb3.out.trans hb4);have k1:=(w11.bl Hb4.out).all8;clear hb4 k2;go_wp2_with fail;go_loopw [36] (fun u wr=>∃i:Nat,i≤lf.length∧u=.int .i64 i∧Bl w1 wr∧Hid (∀x∈lf.take i,x.kind=1→(ht:Int)≤x.box.H)) (fun u _=>lf.length-(RowKit.intOf u).toNat);case atStart=>exact ⟨0,Nat.zero_le _,rfl,Hb4.out,aHH (fun x hx=>by simp at hx)⟩
 case round=>
  obtain ⟨i,hi,rfl,hbr,RV⟩:=hrel;have k1:=(w11.bl hbr).all8;have k3:=(w13.bl hbr).all5;have Hbr:=aHH hbr;clear hbr;by_cases hlt:i<lf.length
  ·have hg:lf[i]? = some lf[i]:=aH2 hlt;obtain ⟨x,hx0⟩:=aH0 (lf[i]);rw[←hx0] at hg;have hxm:x∈lf:=List.mem_of_getElem? hg;obtain ⟨adF,eF,f1,f2,f3,f4,f5,f6,f7,f8,f9⟩:=FldsAt.at_ (HF.out.flds.bl (dM.out.trans Hbr.out)) hg;simp only at eF;subst eF;have HG:=aHH hg;clear hg hx0;go_upto_region 13 with fail;obtain ⟨q,hq⟩:=aH0 wr.heap.size;obtain ⟨w5,hw5⟩:=aH0 (wr.alloc (.cells #[.string ⟨x.name.toArray⟩,.int .i64 x.kind,.int .i64 x.box.X,.int .i64 x.box.Y,.int .i64 x.box.W,.int .i64 x.box.H,.slice x.M x.marks.length x.mc,.int .i64 x.most,.bool x.needed] 61));have bq:=aHW hw5 hq;have hb5:=aHU hw5;rw[←hw5,←hq];have Hb5:=aHH (Hbr.out.trans hb5);have k3:=(w13.bl Hb5.out).all5;have k4:=bq.all9;clear hw5 hq bq hb5 f1 f2 f3 f4 f5 f6 f7 f8 f9 k1;by_cases hk:x.kind=1
   ·by_cases hh:x.box.H<(ht:Int)
    ·have aHi:E=15:=(by rw[HE.out,I4 hxm hk hh];rfl);subst aHi;clear HE;go_wp2_with fail
     go_ret2
     exact ⟨⟨none,0,0,rfl,fun _=>rfl,fun h=>absurd h (by decide)⟩,dM.out.trans Hb5.out⟩
    ·have HH:=aHH (show ∀y∈lf.take (i+1),y.kind=1→(ht:Int)≤y.box.H from fun y hy hky=>by
      rw[eN HG.out] at hy;rcases aIj.1 hy with hy|hy
      ·exact RV.out y hy hky
      ·rw[aIn.1 hy];omega)
     clear RV;go_wp2_with fail;exact ⟨⟨i+1,hlt,by go_num,Hb5.out,HH⟩,by simp[RowKit.intOf];omega⟩
   ·have HH:=aHH (show ∀y∈lf.take (i+1),y.kind=1→(ht:Int)≤y.box.H from fun y hy hky=>by
     rw[eN HG.out] at hy;rcases aIj.1 hy with hy|hy
     ·exact RV.out y hy hky
     ·rw[aIn.1 hy] at hky;exact absurd hky hk)
    clear RV;go_wp2_with fail;exact ⟨⟨i+1,hlt,by go_num,Hb5.out,HH⟩,by simp[RowKit.intOf];omega⟩
  ·obtain rfl:i=lf.length:=(by omega);have hlo:=RV.out;rw[aH9] at hlo;have HLo:=aHH hlo;have hE0:E=0:=(by rw[HE.out,aAw hlo];rfl);subst hE0;have B2:=aHH (w12.bl Hbr.out);have k2:=B2.out.all3;have hler:=Hbr.out.le;clear HE hlo RV k3;go_upto_region 16 with fail;go_upto_region 17 with (go_at_call 78;refine (Hpl.out _ (HF.out.bl (dM.out.trans Hbr.out)) (HR.out.bl (dM.out.trans Hbr.out))).mono ?_;rintro e w5 ⟨v5,rfl,⟨g5,rfl,hg5,aFZ,aHj⟩,hb5⟩;have HB5:=aHH (w12.bl (Hbr.out.trans hb5));have k2:=HB5.out.all3);obtain ⟨wS,hwS⟩:=aH0 (((w5.setCell ⟨w.heap.size+1,0,none⟩ (.int .i64 W)).setCell ⟨w.heap.size+1,1,none⟩ (.int .i64 H)).setCell ⟨w.heap.size+1,2,none⟩ (.slice (some ⟨g5,0,none⟩) (W*H) (W*H)));have b12:Blk wS (w.heap.size+1) 43 #[W,H,.slice (some ⟨g5,0,none⟩) (W*H) (W*H)]:=(by rw[hwS];exact (((w12.bl (Hbr.out.trans hb5)).set_ 0 _).set_ 1 _).set_ 2 _);have b11:Blk wS w.heap.size 26 #[nm',fW,fH,reach,dark,.slice AL la.length ac,.slice FL lf.length fc,.slice RL lr.length rc]:=by
    rw[hwS];exact (((w11.bl (Hbr.out.trans hb5)).far (by show w.heap.size≠w.heap.size+1;omega) _).far (by show w.heap.size≠w.heap.size+1;omega) _).far (by show w.heap.size≠w.heap.size+1;omega) _
   have b13:Blk wS (w.heap.size+1+1) 46 #[fnm,ht,gap,sp,.slice L ls.length lc]:=by
    rw[hwS];exact (((w13.bl (Hbr.out.trans hb5)).far (by show w.heap.size+1+1≠w.heap.size+1;omega) _).far (by show w.heap.size+1+1≠w.heap.size+1;omega) _).far (by show w.heap.size+1+1≠w.heap.size+1;omega) _
   have RU:g5≠w.heap.size+1:=(by omega);have bG:Blk wS g5 4 (PB.map Value.bool).toArray:=(by rw[hwS];exact ((hg5.far RU _).far RU _).far RU _);have hbS:Bl w wS:=(by rw[hwS];exact (((dM.out.trans (Hbr.out.trans hb5)).setCell (by show _≤_+1;omega) _).setCell (by show _≤_+1;omega) _).setCell (by show _≤_+1;omega) _);have hrS:Reads wS 1 (some ⟨g5,0,none⟩) (W*H) (PB.map .bool):=(by have:=bG.reads (W*H) 1 (by simp[aFZ]);simpa using this);rw[←hwS];obtain ⟨B11,B12,B13,HbS,HrS⟩:=aHK b11 b12 b13 hbS hrS;have k1:=b11.all8;clear hwS b12 b11 b13 bG hbS hrS aHj aFZ hg5 hb5 RU k2 w11 w12 w13 B2 Hbr HB5;go_wp2_with fail;go_loopw [13,58] (fun s u wr=>∃(i:Nat) (l:List Vlu),i≤lf.length∧u=.int .i64 i∧OwnVals wr wS.heap.size s l∧l.map Vlu.plain=(lf.take i).map FV∧Bl wS wr) (fun _ u _=>lf.length-(RowKit.intOf u).toNat);case atStart=>exact ⟨0,[],Nat.zero_le _,rfl,OwnVals.nil _ _,rfl,Bl.refl _⟩
   case round=>
    rename World=>wr;obtain ⟨i,l,hi,rfl,aV,hpl,hbr⟩:=hrel;obtain ⟨Hbr,HO,HPl⟩:=aHI hbr aV hpl;have hll:l.length=i:=(by have:=congrArg List.length hpl;rw[aH6,aH6,aH7] at this;omega);clear hbr aV hpl;by_cases hlt:i<lf.length
    ·have hg:lf[i]? = some lf[i]:=aH2 hlt;obtain ⟨x,hx0⟩:=aH0 (lf[i]);rw[←hx0] at hg;have hxm:x∈lf:=List.mem_of_getElem? hg;obtain ⟨adF,eF,f1,f2,f3,f4,f5,f6,f7,f8,f9⟩:=FldsAt.at_ (HF.out.flds.bl (HbS.out.trans Hbr.out)) hg;simp only at eF;subst eF;have HG:=aHH hg;have HMx:=aHH (HF.out.flds.2 x hxm);clear hg hx0;go_upto_region 21 with fail;obtain ⟨q,hq⟩:=aH0 wr.heap.size;obtain ⟨w6,hw6⟩:=aH0 (wr.alloc (.cells #[.string ⟨x.name.toArray⟩,.int .i64 x.kind,.int .i64 x.box.X,.int .i64 x.box.Y,.int .i64 x.box.W,.int .i64 x.box.H,.slice x.M x.marks.length x.mc,.int .i64 x.most,.bool x.needed] 61));have bq:=aHW hw6 hq;have hb6:=aHU hw6;rw[←hw6,←hq];have Hb6:=aHH (Hbr.out.trans hb6);have HO6:=aHH (HO.out.bl hb6);have k4:=bq.all9;have BQ:=aHH bq;clear hw6 hq bq hb6 f1 f2 f3 f4 f5 f6 f7 f8 f9 k1 HO Hbr;go_upto_region 22 with fail;obtain ⟨p,hp⟩:=aH0 w6.heap.size;obtain ⟨w7,hw7⟩:=aH0 (w6.alloc (.cells #[.string ⟨x.name.toArray⟩,.string ⟨#[]⟩,.slice none 0 0,.int .i64 1000] 69));have bp:=aHW hw7 hp;have hb7:=aHU hw7;rw[←hw7,←hp];have Hr7:=aHH hb7;have Hb7:=aHH (Hb6.out.trans hb7);have k4:=(BQ.out.bl hb7).all9;have BP:=aHH bp;have k5:=bp.all4;have Hp:=aHH hp;have aF0:=Hok.out x hxm;have k1:=(B11.out.bl Hb7.out).all8;have k2:=(B12.out.bl Hb7.out).all3;have k3:=(B13.out.bl Hb7.out).all5;clear hw7 hp bp hb7;go_cut [66] from 65 to 66 (fun s wc=>s=.int .i64 x.kind∧w7=wc);case first=>
      go_wp2_with fail;go_meet;case rel=>exact ⟨rfl,rfl⟩
     case rest=>
     obtain ⟨rfl,rfl⟩:=hcut;go_step;have hMl:=HML.out x;have V6:=aF0.m20;have hkd:=aF0.kind;go_cut [66] from 59 to 102 (fun s66 wc=>(∃k:Int,s66=.int .i64 k)∧∃x':Vlu,Blk wc p 69 #[x'.field,x'.text,.slice x'.M x'.marks.length x'.mc,x'.sure]∧x'.plain=FV x∧(∃B',wc.ownsRow B' 3 1 (.slice x'.M x'.marks.length x'.mc) x'.marks.length (x'.marks.map (.int .i64)))∧(x'.field.length≤9223372036854775807∧x'.text.length≤9223372036854775807∧x'.marks.length≤9223372036854775807)∧Bl w6 wc);case first=>
      by_cases hk:x.kind=1
      ·have cI:=Hrt.out x hxm hk (HLo.out x hxm hk) (some ⟨g5,0,none⟩) (W*H) w7 (HL.out.bl (HbS.out.trans Hb7.out)) (HrS.out.bl Hb7.out);rw[hk] at cI;have fP:=aHH cI;clear cI;go_upto_region 27 with fail;go_wp2_with (go_at_call 81;refine fP.out.mono ?_;rintro e w8 ⟨t,s,hFx,htl,rfl,hb8⟩;have HB8:=aHH (BP.out.bl hb8);have k5:=HB8.out.all4;have Hr8:=aHH hb8;clear hb8);go_meet;case rel=>
        obtain ⟨wV,hwV⟩:=aH0 ((w8.setCell ⟨p,1,none⟩ (.string ⟨t.toArray⟩)).setCell ⟨p,3,none⟩ (.int .i64 s));have bV:Blk wV p 69 #[.string ⟨x.name.toArray⟩,.string ⟨t.toArray⟩,.slice none 0 0,.int .i64 s]:=(by rw[hwV];exact (HB8.out.set_ 1 _).set_ 3 _);have hV:Bl w6 wV:=(by rw[hwV];exact ((Hr7.out.trans Hr8.out).setCell (by rw[Hp.out];exact Nat.le_refl _) _).setCell (by rw[Hp.out];exact Nat.le_refl _) _);rw[←hwV];exact ⟨⟨_,rfl⟩,⟨x.name,t,none,0,[],s⟩,bV,by rw[hFx];rfl,⟨0,World.ownsRow_nil _ _ _ _⟩,⟨HMx.out.2.2.2,htl,Nat.zero_le _⟩,hV⟩
      ·by_cases hk2:x.kind=2
       ·have cI:=Hrc.out x hxm hk2 (some ⟨g5,0,none⟩) (W*H) w7 (HT.out.bl (HbS.out.trans Hb7.out)) (HrS.out.bl Hb7.out);rw[hk2] at cI;have fP:=aHH cI;clear cI;go_upto_region 29 with fail;go_wp2_with (go_at_call 82;refine fP.out.mono ?_;rintro e w8 ⟨t,s,hFx,htl,rfl,hb8⟩;have HB8:=aHH (BP.out.bl hb8);have k5:=HB8.out.all4;have Hr8:=aHH hb8;clear hb8);go_meet;case rel=>
         obtain ⟨wV,hwV⟩:=aH0 ((w8.setCell ⟨p,1,none⟩ (.string ⟨t.toArray⟩)).setCell ⟨p,3,none⟩ (.int .i64 s));have bV:Blk wV p 69 #[.string ⟨x.name.toArray⟩,.string ⟨t.toArray⟩,.slice none 0 0,.int .i64 s]:=(by rw[hwV];exact (HB8.out.set_ 1 _).set_ 3 _);have hV:Bl w6 wV:=(by rw[hwV];exact ((Hr7.out.trans Hr8.out).setCell (by rw[Hp.out];exact Nat.le_refl _) _).setCell (by rw[Hp.out];exact Nat.le_refl _) _);rw[←hwV];exact ⟨⟨_,rfl⟩,⟨x.name,t,none,0,[],s⟩,bV,by rw[hFx];rfl,⟨0,World.ownsRow_nil _ _ _ _⟩,⟨HMx.out.2.2.2,htl,Nat.zero_le _⟩,hV⟩
       ·have fP:=aHH (Hmk.out x hxm (some ⟨g5,0,none⟩) (W*H) w7 (HMx.out.1.bl (HbS.out.trans Hb7.out)) (HrS.out.bl Hb7.out));have HFx:=aHH (Hfm.out x hk hk2);go_upto_region 23 with fail;go_upto_region 24 with (go_at_call 77;refine fP.out.mono ?_;rintro e w8 ⟨v8,rfl,bF,hb8⟩;obtain ⟨A8,c8,rfl,-⟩:=bL bF;have HB8:=aHH (BP.out.bl hb8);have k5:=HB8.out.all4;have Hr8:=aHH hb8;have HO8:=aHH bF;have k4:=(BQ.out.bl (Hr7.out.trans hb8)).all9;clear hb8 bF);obtain ⟨ml,EV⟩:=aH0 ((MF x).length);rw[←EV] at hMl;have Hml:=aHH EV;obtain ⟨w9,hw9⟩:=aH0 (w8.setCell ⟨p,2,none⟩ (.slice A8 (MF x).length c8));have b9:Blk w9 p 69 #[.string ⟨x.name.toArray⟩,.string ⟨#[]⟩,.slice A8 (MF x).length c8,.int .i64 1000]:=(by rw[hw9];exact HB8.out.set_ 2 _);have bq9:Blk w9 q 61 #[.string ⟨x.name.toArray⟩,.int .i64 x.kind,.int .i64 x.box.X,.int .i64 x.box.Y,.int .i64 x.box.W,.int .i64 x.box.H,.slice x.M x.marks.length x.mc,.int .i64 x.most,.bool x.needed]:=by
         rw[hw9];exact (BQ.out.bl (Hr7.out.trans Hr8.out)).far (by have:=BQ.out.lt;have:=Hp.out;show q≠p;omega) _
        have h9:Bl w6 w9:=(by rw[hw9];exact (Hr7.out.trans Hr8.out).setCell (by rw[Hp.out];exact Nat.le_refl _) _);have o9:w9.ownsRow w7.heap.size 3 1 (.slice A8 (MF x).length c8) (MF x).length ((MF x).map (.int .i64)):=(by rw[hw9];exact ownsRow_setCell_below HO8.out (by have:=BP.out.lt;show p<_;omega) _);rw[←hw9];rw[←EV] at b9 o9 ⊢;have k4:=bq9.all9;have k5:=b9.all4;obtain ⟨H9,O9,B9⟩:=aHI h9 o9 b9;clear hw9 EV h9 o9 b9 bq9;by_cases hk3:x.kind=3
        ·by_cases hm1:1<ml
         ·have HX:=aHH (show FV x=(x.name,[],MF x,0) by rw[HFx.out,if_pos ⟨hk3,by rw[←Hml.out];exact hm1⟩]);have aEP:(1:Int)<(ml:Int):=(by omega);go_wp2_with fail;go_meet;case rel=>
           obtain ⟨wV,hwV⟩:=aH0 (w9.setCell ⟨p,3,none⟩ (.int .i64 0));have bV:Blk wV p 69 #[.string ⟨x.name.toArray⟩,.string ⟨#[]⟩,.slice A8 ml c8,.int .i64 0]:=(by rw[hwV];exact B9.out.set_ 3 _);have hV:Bl w6 wV:=(by rw[hwV];exact H9.out.setCell (by rw[Hp.out];exact Nat.le_refl _) _);have oV:wV.ownsRow w7.heap.size 3 1 (.slice A8 ml c8) ml ((MF x).map (.int .i64)):=(by rw[hwV];exact ownsRow_setCell_below O9.out (by have:=BP.out.lt;show p<_;omega) _);rw[←hwV];rw[Hml.out] at bV oV;exact ⟨⟨_,rfl⟩,⟨x.name,[],A8,c8,MF x,0⟩,bV,by rw[HX.out];rfl,⟨_,oV⟩,⟨HMx.out.2.2.2,Nat.zero_le _,by have:=Hml.out;show (MF x).length≤_;omega⟩,hV⟩
         ·have HX:=aHH (show FV x=(x.name,[],MF x,1000) by rw[HFx.out,if_neg (fun h=>hm1 (by rw[Hml.out];exact h.2))]);have aEP:¬(1:Int)<(ml:Int):=(by omega);go_wp2_with fail;go_meet;case rel=>
           have bV:=B9.out;have oV:=O9.out;rw[Hml.out] at bV oV;exact ⟨⟨_,rfl⟩,⟨x.name,[],A8,c8,MF x,1000⟩,bV,by rw[HX.out];rfl,⟨_,oV⟩,⟨HMx.out.2.2.2,Nat.zero_le _,by have:=Hml.out;show (MF x).length≤_;omega⟩,H9.out⟩
        ·have HX:=aHH (show FV x=(x.name,[],MF x,1000) by rw[HFx.out,if_neg (fun h=>hk3 h.1)]);go_wp2_with fail;go_meet;case rel=>
          have bV:=B9.out;have oV:=O9.out;rw[Hml.out] at bV oV;exact ⟨⟨_,rfl⟩,⟨x.name,[],A8,c8,MF x,1000⟩,bV,by rw[HX.out];rfl,⟨_,oV⟩,⟨HMx.out.2.2.2,Nat.zero_le _,by have:=Hml.out;show (MF x).length≤_;omega⟩,H9.out⟩
     case rest=>
     rename World=>w10;obtain ⟨⟨k66,rfl⟩,x',b10,aBp,hm',ht',ER⟩:=hcut;have k5:=b10.all4;obtain ⟨ZY,aF1,Hpl2,Hm2,Ht2⟩:=aHK (Hb6.out.trans ER) (HO6.out.bl ER) aBp hm' ht';have hle10:=ZY.out.le;have HPx:=aHH (BF HPl.out aBp);clear aBp hm' ht' ER b10 k1 k2 k3 k4;go_wp2_with (at_builtin;refine aG (w1:=wS) rfl (.tmp 103) (.tmp 105) 50 rfl 69 (.agg #[.string ⟨#[]⟩,.string ⟨#[]⟩,.slice none 0 0,.int .i64 0]) 4 64 Tryz.underlying50 NV rfl (by omega) wS.heap.size _ l.length (l.flatMap Vlu.cells) rfl (ZY.out.alloc _) (Nat.le_refl _) (by simp;omega) (aF1.out.row.alloc _) (some ⟨w10.heap.size,0,none⟩) 1 1 [.string ⟨x'.field.toArray⟩,.string ⟨x'.text.toArray⟩,.slice x'.M x'.marks.length x'.mc,.int .i64 x'.sure] rfl ((Blk.new w10 _ _).reads 1 4 rfl) (by simp[Value.oneCell']) (by unfold maxLen;omega) (by omega) ?_;intro v' w11 ZZ aBq aF2;have HOw:=aHH ((aF1.out.bl ((Bl.refl w10).alloc _)).snoc (x:=x') aF2 ZZ (let ⟨B',h⟩:=Hm2.out;⟨B',cX h ((Bl.refl w10).alloc _)⟩) Ht2.out);have aBr:=aHH aBq;clear ZZ aBq aF2);exact ⟨⟨i+1,l++[x'],hlt,by go_num,HOw.out,by rw[HPx.out,eN HG.out,aIp];rfl,aBr.out⟩,by simp[RowKit.intOf];omega⟩
    ·obtain rfl:i=lf.length:=(by omega);obtain ⟨A,c',rfl,hva⟩:=HO.out.at_;have VM:=HPl.out;rw[aH9] at VM;obtain ⟨HV,HP2,aC0⟩:=aHI hva VM (YA HO.out.row);clear hva VM;go_wp2_with fail
     go_ret2
     exact ⟨⟨A,_,c',rfl,fun h=>absurd rfl h,fun _=>⟨l,HP2.out,rfl,aC0.out,HV.out⟩⟩,HbS.out.trans Hbr.out⟩
end Go.Proofs.YtllefinciimffaaGreatDoor
