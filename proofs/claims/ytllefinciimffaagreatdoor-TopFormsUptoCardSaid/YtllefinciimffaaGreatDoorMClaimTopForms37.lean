import Derived.Test.YtllefinciimffaaGreatDoorMClaimTopForms36
set_option maxHeartbeats 20000000
set_option maxRecDepth 100000
namespace Go.Proofs.YtllefinciimffaaGreatDoor
open Go.RowKit Go.Shelf
def aCm (r:Nat) (dx dy:Int) (n:Nat):Bool:=decide (dx < -(r:Int))||(decide ((r:Int)<dx)||(decide (dy < -(r:Int))||(decide ((r:Int)<dy)||decide (n=0))))
theorem K0 {f:Frm} {cs:List Bool} {ht gap sp:Int} {ls:List Ltr} (h:∀x∈f.lf,x.marks.length≤20):∀p∈wT f cs ht gap sp ls,p.2.2.1.length≤20:=by
 intro p hp;unfold wT at hp;obtain ⟨x,hx,rfl⟩:=aMf.1 hp;unfold oZ;split
 ·exact Nat.zero_le _
 ·split
  ·exact Nat.zero_le _
  ·exact aMb (mI _ _ _ _ _) (h x hx)
theorem NX (f : Frm) (W H r : Nat) (A : Option Addr) (c : Nat) (l : List Vlu) (fnm : List UInt8) (ht gap sp : Nat) (adl : Addr) (lc : Nat) (ls : List Ltr) (dx dy : Int) (BS : List Bool) (w : World) (hf : f.err = 0) (cM : Fits f W H r)
 (AY:∀wx,Bl w wx→Calls Tryz.prog 31 #[f.val,.slice A l.length c,.agg #[fnm,ht,gap,sp,.slice (some adl) ls.length lc]] wx fun e w'=>DrawnRes wx.heap.size 0 W H BS e w'∧Bl wx w') (hBS:FillInv ls ht gap sp W H f.lf l BS) (hwv:∀v∈l,∃x tw,lT f.lf v.field=some x∧cP f.lf tw v=0∧(v.text≠[]→iP ls ht gap sp x v.text=0))
 (hfe:bN (dA fnm) ht gap sp ls=0) (hRi:Right ht gap sp ls) (hF:FrmAt w f) (hS:f.small 1048576) (hL:VlusAt w A l) (hln:l.length≤9223372036854775807) (hLs:LtrsAt w (some adl) ls) (UW:fnm.length≤9223372036854775807) (UX:ls.length≤9223372036854775807) (aGr:ls.length≤lc)
 (hN:NumOk w) (hC:SplitOk w) (hSp:SpOk w) (hdx:-9223372036854775808≤dx∧dx≤9223372036854775807) (hdy:-9223372036854775808≤dy∧dy≤9223372036854775807) :
 Calls Tryz.prog 5 #[f.val,.slice A l.length c,.agg #[fnm,ht,gap,sp,.slice (some adl) ls.length lc],dx,dy] w fun e w'=>e=.returned (.bool true)∧Bl w w':=by
 have hap:=fun wx hL=>WJ fnm ht gap sp adl lc ls wx hL hRi aGr;have hsz:=KS cM;have hW4:=cM.hW;have hH4:=cM.hH;have hWH:=cM.hWH;have hp0:aD (W:Int) (H:Int) (W*H)=0:=(by unfold aD;rw[if_pos hsz,if_pos (by simp)]);have hpe:rE f.W f.H W H (W*H)=0:=by
  unfold rE;rw[if_pos hp0,cM.fW,cM.fH,aLX rfl,aLX rfl];rfl
 have hwF:AC f W H (W*H)=0:=(by unfold AC;rw[if_pos hf];exact hpe);have aJh:=aAS hLs hRi hfe;have hbo:=fun (R:Option Addr) (d:Nat) wx (hR:Reads wx 1 R (W*H) (BS.map .bool))=>show Calls Tryz.prog 33 #[.agg #[W,H,.slice R (W*H) d]] wx fun e w'=>∃is X Y BW BH,e=.returned (.tuple #[.agg #[.int .i64 X,.int .i64 Y,.int .i64 BW,.int .i64 BH],.int .i64 (aF (!is) 10)])∧BoundsIs BS W H is X Y BW BH∧Bl wx w' from
  (uH W H R (W*H) d BS wx hR).mono fun e w' ⟨X,Y,BW,BH,err,he,_,h2,hb⟩=>by
    obtain ⟨is,h3,rfl⟩:=h2 hp0;exact ⟨is,X,Y,BW,BH,he,by simpa using h3,hb⟩
 have hbk:=fun wx=>yK W H wx hsz;have hpa:=fun (bv cv:Value) (x y:Int) wx hA hC hx hy=>qI W H W H bv cv (List.replicate (W*H) false) BS x y wx hA hC hsz hsz hx hy;have ZE:∀x y,eS W H (fZ (List.replicate (W*H) false) BS W H W H x y)=wR BS W H x y:=fun x y=>rfl;simp only[ZE] at hpa;have han:=fun (M:List Bool) (R:Option Addr) (d:Nat) wx hF hN hC hR=>BO f W H R (W*H) d M wx hF hS hN hC hR;rw[hwF] at han;unfold AncRes at han;have hrd:=fun (M:List Bool) (R:Option Addr) (d:Nat) wx hF hN hC hT hL hR=>ZC f W H R (W*H) d M fnm ht gap sp (some adl) lc ls wx hF hS hN hC hT hL UW UX hR;rw[hf,hfe,hpe] at hrd;have hre:t6 0 0 0 (UP ht f.lf)=aF (UP ht f.lf) 15:=rfl;rw[hre] at hrd;unfold FReadRes at hrd;have aD2:=fun (X Y BW BH ex ey:Int) hb hx hy hfd h0=>UA (dx:=ex) (dy:=ey) (X:=X) (Y:=Y) (BW:=BW) (BH:=BH) cM hBS.len hb hx hy hfd h0;have aBX:=fun (M:List Bool) (hM:rL f M=BS) (hT:Told ls) (ZQ:UP ht f.lf=false)=>show wT f M ht gap sp ls=f.lf.map (fun x=>GI x (dQ l x.name)) by
  unfold wT;rw[hM,cM.fW,aL8,aL8];refine List.map_congr_left fun x hx => ?_;refine T8 hf cM hfe hRi aJh hT hBS hwv hx fun hk => ?_;apply Classical.byContradiction;intro hlt;rw[KZ hx hk (by omega)] at ZQ;cases ZQ
 have aDP:∀M,∀p∈wT f M ht gap sp ls,p.2.2.1.length≤20:=fun M=>K0 fun x hx=>(wQ hf cM hx).m20;have hlf:f.lf.length≤50:=(JU hf).1;have hla:=cM.hla;have aD3:∀a∈f.la,∃X Y bw bh:Nat,a.X=(X:Int)∧a.Y=(Y:Int)∧a.W=(bw:Int)∧a.H=(bh:Int)∧X+bw≤W∧Y+bh≤H:=fun a ha=>by
  obtain ⟨-,-,h3⟩:=yX (cM.anc a ha);obtain ⟨X,Y,bw,bh,e,-,-,h1,h2⟩:=NN h3;unfold Anc.box at e;injection e with q1 q2 q3 q4;exact ⟨X,Y,bw,bh,q1,q2,q3,q4,h1,h2⟩
 obtain ⟨FA,hFA⟩:=aLt (dM f);obtain ⟨FC,hFC⟩:=aLt (jF f);have hfc:∀M a,FC M a=[.int .i64 (FA M a).1,.int .i64 (FA M a).2.1,.int .i64 (FA M a).2.2]:=fun M a=>(by rw[hFC,hFA];rfl);simp only[←hFC] at han;simp only[←hFA] at aD2;obtain ⟨G,hG⟩:∃g,g=fun x:Fld=>GI x (dQ l x.name):=⟨_,rfl⟩;obtain ⟨LO,hLO⟩:=aLt (UP ht f.lf);have hg1:∀x:Fld,G x=GI x (dQ l x.name):=fun x=>(by rw[hG]);simp only[←hLO,←hG] at hrd aBX;have aKZ:=fun v (hv:v∈l)=>(hL.2 v hv).2.2.2;have e1:=cM.fW;have e2:=cM.fH;have e3:=cM.fr;have hr40:=cM.hr;obtain ⟨nm',fW,fH,reach,dark,AL,ac,la,FL,fc,lf,RL,rc,lr⟩:=f;simp only at e1 e2 e3 hlf hla hrd aBX aDP aD3;subst e1 e2 e3;let w1:=((w).alloc (.cells #[nm',W,H,r,dark,.slice AL la.length ac,.slice FL lf.length fc,.slice RL lr.length rc] 26)).alloc (.cells #[fnm,ht,gap,sp,.slice (some adl) ls.length lc] 46);obtain ⟨w1b,w11,w12⟩:=aLi (x:=w1) w _ _ _ _ rfl;unfold Frm.val at AY han hrd;obtain ⟨dV,aD1,Hap,Hbo,Hbk,Hpa,Han,Hrd⟩:=aLg w1b AY hap hbo hbk hpa han hrd;obtain ⟨aHP,aHQ,aK0,aHR,Hfc,Hg1,Hln,HF⟩:=aLg aD2 aBX aDP aD3 hfc hg1 hln hF;obtain ⟨HN,HC,HT,HL,HLs⟩:=aLd hN hC hSp hL hLs;have k1:=w11.all8;have k2:=w12.all5;unfold Frm.val;clear AY hap hbo hbk hpa han hrd aD2 aBX aDP aD3 hfc hg1 hFA hFC hG hLO aKZ w1b hBS hwv aJh hF hN hC hSp hL hLs hS cM hf hfe hRi hpe hwF hre UW UX hp0 hsz ZE aGr
 go_in
 go_upto_region 1 with fail;rw[show (w.alloc (.cells #[nm',W,H,r,dark,.slice AL la.length ac,.slice FL lf.length fc,.slice RL lr.length rc] 26)).alloc (.cells #[fnm,ht,gap,sp,.slice (some adl) ls.length lc] 46)=w1 from rfl];clear_value w1;go_upto_region 3 with (go_at_call 30;refine (AP _).mono ?_;rintro e w2 ⟨rfl,hb2⟩);have Hb2:=aLa hb2;have k1:=(w11.bl hb2).all8;have k2:=(w12.bl hb2).all5;clear hb2;go_upto_region 4 with (go_at_call 31;refine (aD1.out _ (dV.out.trans Hb2.out)).mono ?_;rintro e w3 ⟨⟨a3,b3,R3,m3,d3,rfl,lQ⟩,hb3⟩);obtain ⟨R3',d3',eq3,hR3,-⟩:=lQ.1 rfl;simp only[Value.agg.injEq,Array.mk.injEq,List.cons.injEq,Value.int.injEq,Value.slice.injEq,and_true,true_and] at eq3;obtain ⟨rfl,rfl,rfl,rfl,rfl⟩:=eq3;obtain ⟨o3,ho3⟩:=aLt w3.heap.size;obtain ⟨w4,hw4⟩:=aLt (w3.alloc (.cells #[W,H,.slice R3 (W*H) d3] 43));have b4:=aLp hw4 ho3;have hb4:=aLn hw4;rw[←hw4,←ho3];obtain ⟨B4,Hb4,R4⟩:=aLb b4 (Hb2.out.trans (hb3.trans hb4)) (hR3.bl hb4);have k1:=(w11.bl Hb4.out).all8;have k2:=(w12.bl Hb4.out).all5;clear hw4 ho3 b4 hb4 hb3 lQ hR3;by_cases h20:20<ls.length
 ·have aF2:(20:Int)<(ls.length:Int):=(by omega);go_wp2_with fail;go_ret;exact ⟨rfl,dV.out.trans Hb4.out⟩
 have aF2:¬(20:Int)<(ls.length:Int):=(by omega);go_wp2_with fail;refine (Hap.out _ (HLs.out.bl (dV.out.trans Hb4.out))).mono ?_;rintro e w5 ⟨ab,rfl,aFI,hb5⟩;obtain ⟨Hb5,B5,R5⟩:=aLb (Hb4.out.trans hb5) (B4.out.bl hb5) (R4.out.bl hb5);have k1:=(w11.bl Hb5.out).all8;clear hb5 k2 B4 R4;cases ab with
 |false=>go_wp2_with fail;go_ret;exact ⟨rfl,dV.out.trans Hb5.out⟩
 |true=>
 have aHS:=aLa (aFI rfl);clear aFI;have aJi:(W:Int)*(H:Int)=((W*H:Nat):Int):=(by simp);by_cases h4:40000<W*H
 ·have h4i:(40000:Int)<(W:Int)*(H:Int):=(by omega);have aK1:(W:Int)*(H:Int)≤1048576:=(by omega);clear aJi;go_wp2_with fail;go_ret;exact ⟨rfl,dV.out.trans Hb5.out⟩
 have h4i:¬(40000:Int)<(W:Int)*(H:Int):=(by omega);have aK1:(W:Int)*(H:Int)≤1048576∧0≤(W:Int)*(H:Int):=(by omega);clear aJi;by_cases h6:6<r
 ·have h6i:(6:Int)<(r:Int):=(by omega);go_wp2_with fail;go_ret;exact ⟨rfl,dV.out.trans Hb5.out⟩
 have h6i:¬(6:Int)<(r:Int):=(by omega);go_upto_region 6 with fail;obtain ⟨ob,hob⟩:=aLt (aCm r dx dy la.length);have Hob:=aLa hob;go_cut [92] from 63 to 92 (fun s92 wc=>s92=.bool ob∧w5=wc);case first=>
  by_cases c1:dx < -(r:Int)
  ·go_wp2_with fail;go_meet;case rel=>exact ⟨by rw[Hob.out];unfold aCm;simp[c1],rfl⟩
  ·by_cases c2:(r:Int)<dx
   ·go_wp2_with fail;go_meet;case rel=>exact ⟨by rw[Hob.out];unfold aCm;simp[c2],rfl⟩
   ·by_cases c3:dy < -(r:Int)
    ·go_wp2_with fail;go_meet;case rel=>exact ⟨by rw[Hob.out];unfold aCm;simp[c3],rfl⟩
    ·by_cases c4:(r:Int)<dy
     ·go_wp2_with fail;go_meet;case rel=>exact ⟨by rw[Hob.out];unfold aCm;simp[c4],rfl⟩
     ·by_cases c5:la.length=0
      ·have q5:((la.length:Int)==0)=true:=(by simp[c5]);have HX:=aLa (show ob=true by rw[Hob.out];unfold aCm;simp[c5]);clear c5;go_wp2_with fail;go_meet;case rel=>exact ⟨by rw[HX.out],rfl⟩
      ·have q5:((la.length:Int)==0)=false:=(by simp[c5]);have HX:=aLa (show ob=false by rw[Hob.out];unfold aCm;rw[aLW c1,aLW c2,aLW c3,aLW c4,aLW c5];rfl);clear c5;go_wp2_with fail;go_meet;case rel=>exact ⟨by rw[HX.out],rfl⟩
 case rest=>
 obtain ⟨rfl,rfl⟩:=hcut;go_step;obtain ⟨DX,hDX⟩:∃z,z=if ob=true then 0 else dx:=⟨_,rfl⟩;obtain ⟨DY,hDY⟩:∃z,z=if ob=true then 0 else dy:=⟨_,rfl⟩;have hD:(-6≤DX∧DX≤6)∧(-6≤DY∧DY≤6)∧(la=[]→DX=0∧DY=0):=by
  rw[hDX,hDY];cases ob with
  |true=>exact ⟨by simp,by simp,fun _=>⟨rfl,rfl⟩⟩
  |false=>unfold aCm at hob;have aJj:=hob.symm;simp only[Bool.or_eq_false_iff] at aJj;obtain ⟨q1,q2,q3,q4,q5⟩:=aJj;have q1:=of_decide_eq_false q1;have q2:=of_decide_eq_false q2;have q3:=of_decide_eq_false q3;have q4:=of_decide_eq_false q4;have q5:=of_decide_eq_false q5;simp only[Bool.false_eq_true,if_false];exact ⟨by omega,by omega,fun h=>absurd (by rw[h];rfl) q5⟩
 obtain ⟨hD1,hD2,hD3⟩:=hD;obtain ⟨HDX,HDY,HD3⟩:=aLb hDX hDY hD3;clear hob Hob hDX hDY hD3 hdx hdy;go_cut [3,4] from 92 to 92 (fun s3 s4 wc=>s3=.int .i64 DX∧s4=.int .i64 DY∧w5=wc);case first=>
  cases ob with
  |true=>go_wp2_with fail;go_meet;case rel=>exact ⟨by rw[HDX.out]<;>rfl,by rw[HDY.out]<;>rfl,rfl⟩
  |false=>go_wp2_with fail;go_meet;case rel=>exact ⟨by rw[HDX.out]<;>rfl,by rw[HDY.out]<;>rfl,rfl⟩
 case rest=>
 obtain ⟨rfl,rfl,rfl⟩:=hcut;clear HDX HDY;have k3:=B5.out.all3;clear k1;go_upto_region 9 with (go_at_call 33;refine (Hbo.out R3 d3 _ R5.out).mono ?_;rintro e w6 ⟨is,X,Y,BW,BH,rfl,hbi,hb6⟩);obtain ⟨o7,ho7⟩:=aLt w6.heap.size;obtain ⟨w7,hw7⟩:=aLt (w6.alloc (.cells #[.int .i64 X,.int .i64 Y,.int .i64 BW,.int .i64 BH] 58));have b7:=aLp hw7 ho7;have hb7:=aLn hw7;rw[←hw7,←ho7];obtain ⟨Hb7,B7,R7⟩:=aLb (Hb5.out.trans (hb6.trans hb7)) (B5.out.bl (hb6.trans hb7)) (R5.out.bl (hb6.trans hb7));have k1:=(w11.bl Hb7.out).all8;have k4:=b7.all4;clear hw7 ho7 hb7 hb6 b7 k3 B5 R5;cases is with
 |false=>have hwi:aF (!false) 10=10:=rfl;go_wp2_with fail;go_ret;exact ⟨rfl,dV.out.trans Hb7.out⟩
 |true=>
 have hwi:aF (!true) 10=0:=rfl;obtain ⟨hX,hY,hBW,hBH,-⟩:=hbi.bd;have Hbi:=aLa hbi;clear hbi;obtain ⟨o2,ho2⟩:=aLt ((decide (X+DX<0)||(decide (Y+DY<0)||(decide ((W:Int)<X+BW+DX)||decide ((H:Int)<Y+BH+DY)))));have Ho2:=aLa ho2;go_upto_region 11 with fail;go_cut [135] from 98 to 135 (fun s135 wc=>s135=.bool o2∧w7=wc);case first=>
  by_cases c1:X+DX<0
  ·go_wp2_with fail;go_meet;case rel=>exact ⟨by rw[Ho2.out];simp[c1],rfl⟩
  ·by_cases c2:Y+DY<0
   ·go_wp2_with fail;go_meet;case rel=>exact ⟨by rw[Ho2.out];simp[c2],rfl⟩
   ·by_cases c3:(W:Int)<X+BW+DX
    ·go_wp2_with fail;go_meet;case rel=>exact ⟨by rw[Ho2.out];simp[c3],rfl⟩
    ·by_cases c4:(H:Int)<Y+BH+DY
     ·go_wp2_with fail;go_meet;case rel=>exact ⟨by rw[Ho2.out];simp[c4],rfl⟩
     ·have HX:=aLa (show o2=false by rw[Ho2.out,aLW c1,aLW c2,aLW c3,aLW c4];rfl);go_wp2_with fail;go_meet;case rel=>exact ⟨by rw[HX.out],rfl⟩
 case rest=>
 obtain ⟨rfl,rfl⟩:=hcut;go_step;clear k4 Ho2;cases o2 with
 |true=>go_wp2_with fail;go_ret;exact ⟨rfl,dV.out.trans Hb7.out⟩
 |false=>
 have ho3:=ho2.symm;simp only[Bool.or_eq_false_iff] at ho3;obtain ⟨q1,q2,q3,q4⟩:=ho3;have q1:=of_decide_eq_false q1;have q2:=of_decide_eq_false q2;have q3:=of_decide_eq_false q3;have q4:=of_decide_eq_false q4;have Hin:=aLa (show (0≤X+DX∧X+BW+DX≤W)∧(0≤Y+DY∧Y+BH+DY≤H) from ⟨⟨by omega,by omega⟩,by omega,by omega⟩);clear ho2 q1 q2 q3 q4;go_upto_region 14 with (go_at_call 34;refine (Hbk.out _).mono ?_;rintro e w8 ⟨v8,rfl,⟨g8,rfl,hg8,aJk,aK2⟩,hb8⟩);obtain ⟨w9,hw9⟩:=aLt (w8.alloc (.cells #[W,H,.slice (some ⟨g8,0,none⟩) (W*H) (W*H)] 43));have b9:=aLo hw9;have hb9:=aLn hw9;rw[←hw9];have Hb9:=aLa (Hb7.out.trans (hb8.trans hb9));have R9:=aLa (R7.out.bl (hb8.trans hb9));have k3:=(B7.out.bl (hb8.trans hb9)).all3;have k4:=b9.all3;have Hp9:=aLa (show IsPage w9 (.agg #[W,H,.slice (some ⟨g8,0,none⟩) (W*H) (W*H)]) W H ((List.replicate (W*H) false).map .bool) from BPage.is (B:=0) ⟨g8,rfl,hg8.bl hb9,aJk,Nat.zero_le _⟩);clear hw9 b9 hb9 hb8 hg8 aJk aK2 k1 B7 R7;go_upto_region 15 with (go_at_call 35;refine (Hpa.out _ _ DX DY w9 Hp9.out ⟨R3,d3,rfl,R9.out⟩ (by omega) (by omega)).mono ?_;rintro e w10 ⟨v10,rfl,⟨g10,rfl,aHT,aD4,aHU⟩,QK⟩);obtain ⟨M,hM⟩:=aLt (wR BS W H DX DY);rw[←hM] at aHT aD4;obtain ⟨wp,hwp⟩:=aLt (w10.alloc (.cells #[W,H,.slice (some ⟨g10,0,none⟩) (W*H) (W*H)] 43));obtain ⟨o12,aDV⟩:=aLt w10.heap.size;have b12:=aLp hwp aDV;have aDT:=aLn hwp;rw[←hwp,←aDV];obtain ⟨aCs,B12,HM,R12⟩:=aLc (Hb9.out.trans (QK.trans aDT)) b12 hM (show Reads wp 1 (some ⟨g10,0,none⟩) (W*H) (M.map .bool) by have:=(aHT.bl aDT).reads (W*H) 1 (by simp[aD4]);simpa using this);have k1:=(w11.bl aCs.out).all8;have k3:=b12.all3;clear hwp aDV b12 aDT QK aHT aD4 aHU k4 hM R9 Hp9;go_upto_region 16 with (go_at_call 36;refine (Han.out M _ _ wp (HF.out.bl (dV.out.trans aCs.out)) (HN.out.bl (dV.out.trans aCs.out)) (HC.out.bl (dV.out.trans aCs.out)) R12.out).mono ?_;rintro e w13 ⟨⟨A13,n13,c13,rfl,-,h13⟩,aGs⟩);obtain ⟨rfl,aJl⟩:=h13 trivial;obtain ⟨LE,aK3,B13,R13⟩:=aLc (aCs.out.trans aGs) aJl (B12.out.bl aGs) (R12.out.bl aGs);have k1:=(w11.bl LE.out).all8;clear aGs aJl h13 k3 B12 R12 Han;go_wp2_with fail;go_loopw [171] (fun u wr=>∃i:Nat,i≤la.length∧u=.int .i64 i∧Bl w13 wr∧Hid (∀a∈la.take i,(FA M a).1=DX∧(FA M a).2.1=DY)) (fun u _=>la.length-(RowKit.intOf u).toNat);case atStart=>exact ⟨0,Nat.zero_le _,rfl,Bl.refl _,fun a ha=>by simp at ha⟩
 case round=>
  rename World=>wr;obtain ⟨i,hi,rfl,hbr,hno⟩:=hrel;have Hbr:=aLa hbr;have Hno:=aLa hno;clear hbr hno k1;have k1:=(w11.bl (LE.out.trans Hbr.out)).all8;by_cases hlt:i<la.length
  ·have hg:la[i]? = some la[i]:=aLv hlt;obtain ⟨a,ha2⟩:=aLt (la[i]);rw[←ha2] at hg;have aD0:a∈la:=List.mem_of_getElem? hg;obtain ⟨ad,e1,j1,j2,j3,j4,j5⟩:=AncsAt.at_ (HF.out.ancs.bl (dV.out.trans (LE.out.trans Hbr.out))) hg;try simp only at e1
   subst e1;obtain ⟨aX,aY,aw,ah,q1,q2,q3,q4,q5,q6⟩:=aHR.out a aD0;rw[q3] at j1;rw[q4] at j2;rw[q1] at j4;rw[q2] at j5;have HG:=aLa hg;clear q1 q2 q3 q4 ha2 aD0 hg;go_upto_region 21 with fail;obtain ⟨o14,aHV⟩:=aLt wr.heap.size;obtain ⟨w14,aGt⟩:=aLt (wr.alloc (.cells #[aw,ah,.slice a.A a.m a.c,aX,aY] 85));have b14:=aLp aGt aHV;have aHW:=aLn aGt;rw[←aGt,←aHV];obtain ⟨fx,hfx⟩:=aLt ((FA M a).1);obtain ⟨fy,hfy⟩:=aLt ((FA M a).2.1);obtain ⟨fn,hfn⟩:=aLt ((FA M a).2.2);have hfa:=Hfc.out M a;rw[←hfx,←hfy,←hfn] at hfa;obtain ⟨ad3,e3,key⟩:=gM (FC M) 3 (fun a=>by rw[Hfc.out];rfl) (aK3.out.bl (Hbr.out.trans aHW)) HG.out;have m0:=key 0 (.int .i64 fx) (by omega) (by rw[hfa];rfl);have m1:=key 1 (.int .i64 fy) (by omega) (by rw[hfa];rfl);have m2:=key 2 (.int .i64 fn) (by omega) (by rw[hfa];rfl);rw[Addr.add_zero'] at m0;rw[Addr.add_succ'] at m1 m2;subst e3;obtain ⟨nq,hnq,hne⟩:=aBC fx fy fn DX DY;obtain ⟨aEj,Hnq,Hfx⟩:=aLb (Hbr.out.trans aHW) hnq (show (FA M a).1=fx∧(FA M a).2.1=fy from ⟨hfx.symm,hfy.symm⟩);have k1:=(w11.bl (LE.out.trans aEj.out)).all8;have k3:=b14.all5;clear aGt aHV b14 aHW hfx hfy hfn hfa key hnq j1 j2 j3 j4 j5;refine aLs [aLq 0,aLq 1,aLq 2,aLq 3,aLq 4,aLq 5,aLq 6,aLq 7,aLq 8,aLq 9] (by kernel_rfl) ?_
   iterate 2
    apply Flow.calm2 _ _ rfl rfl
    ·intro a b c d;obtain ⟨e,f⟩:=b.rule;go_simp;(try go_ints);exact d
    ·intro a b;simp only[sqA];exact b
   apply Flow.mv _ rfl
   ·intro a b;simp only[sqA,Act.eval,sqC];exact b
   iterate 3
    apply Flow.calm2 _ _ rfl rfl
    ·intro a b c d;obtain ⟨e,f⟩:=b.rule;go_simp;(try go_ints);exact d
    ·intro a b;simp only[sqA];exact b
   apply Flow.mv _ rfl
   ·intro a b;simp only[sqA,Act.eval,sqC];exact b
   apply Flow.calm2 _ _ rfl rfl
   ·intro a b c d;obtain ⟨e,f⟩:=b.rule;go_simp;(try go_ints);exact d
   ·intro a b;simp only[sqA];exact b
   iterate 2
    apply Flow.asg _ rfl
    ·intro a b;simp only[sqA,Act.eval,sqC];exact b
   refine Flow.done ?_;go_upto_region 22 with fail;go_cut [219] from 184 to 219 (fun s wc=>∃b,s=.bool b∧(b=false→fx=DX∧fy=DY)∧Bl w14 wc);case first=>
    by_cases c1:(aX:Int)+DX<0
    ·go_wp2_with fail;go_meet;case rel=>exact ⟨_,rfl,by simp,(Bl.refl _).drew⟩
    ·by_cases c2:(aY:Int)+DY<0
     ·go_wp2_with fail;go_meet;case rel=>exact ⟨_,rfl,by simp,(Bl.refl _).drew⟩
     ·by_cases c3:(W:Int)<(aX:Int)+DX+aw
      ·go_wp2_with fail;go_meet;case rel=>exact ⟨_,rfl,by simp,(Bl.refl _).drew⟩
      ·by_cases c4:(H:Int)<(aY:Int)+DY+ah
       ·go_wp2_with fail;go_meet;case rel=>exact ⟨_,rfl,by simp,(Bl.refl _).drew⟩
       ·go_wp2_with fail;go_meet;case rel=>exact ⟨nq,rfl,Hnq.out,(Bl.refl _).drew⟩
   case rest=>
   rename World=>w14c;obtain ⟨nb,rfl,hnb,hbc⟩:=hcut;have Hnb:=aLa hnb;have aEj:=aLa (aEj.out.trans hbc);clear hnb hbc m0 m1 m2 hne k3 k1;have k1:=(w11.bl (LE.out.trans aEj.out)).all8;cases nb with
   |true=>go_wp2_with fail;go_ret;exact ⟨rfl,dV.out.trans (LE.out.trans aEj.out)⟩
   |false=>
    have Heq:=aLa (Hnb.out rfl);go_wp2_with fail;exact ⟨⟨i+1,hlt,by go_num,aEj.out,fun b hb=>by
     rw[eI HG.out] at hb;rcases aLM.1 hb with h|h
     ·exact Hno.out b h
     ·obtain rfl:=aLQ.1 h;exact ⟨Hfx.out.1.trans Heq.out.1,Hfx.out.2.trans Heq.out.2⟩⟩,by simp[RowKit.intOf];omega⟩
  ·obtain rfl:i=la.length:=(by omega);have gA:=Hno.out;rw[aLC] at gA;have hpb:=aHP.out X Y BW BH DX DY Hbi.out Hin.out.1 Hin.out.2 (by rw[←HM.out];exact gA) HD3.out;rw[←HM.out] at hpb;have Hvl:=aLa (aHQ.out M hpb aHS.out);clear gA hpb;have k2:=(w12.bl (LE.out.trans Hbr.out)).all5;have k3:=(B13.out.bl Hbr.out).all3;have R14:=aLa (R13.out.bl Hbr.out);have aFJ:=aLa (dV.out.trans (LE.out.trans Hbr.out));go_upto_region 26 with (go_at_call 16;refine (Hrd.out M _ _ _ (HF.out.bl aFJ.out) (HN.out.bl aFJ.out) (HC.out.bl aFJ.out) (HT.out.bl aFJ.out) (HLs.out.bl aFJ.out) R14.out).mono ?_;rintro e w15 ⟨⟨A15,m15,c15,rfl,aJm,aJn⟩,aJo⟩);obtain ⟨aHX,aK4,Hm15⟩:=aLb (Hbr.out.trans aJo) aJn aJm;clear aJm aJn aJo k1 k2 k3;have k1:=(w11.bl (LE.out.trans aHX.out)).all8;cases LO with
   |true=>have aK5:aF true 15=15:=rfl;go_wp2_with fail;go_ret;exact ⟨rfl,dV.out.trans (LE.out.trans aHX.out)⟩
   |false=>
   have aK5:aF false 15=0:=rfl;obtain ⟨l3,hl3,rfl,-,hv3⟩:=aK4.out rfl;have hl4:=hl3.trans (Hvl.out rfl);have cL:l3.length=lf.length:=(by have:=congrArg List.length hl4;rwa [aLz,aLz] at this);have aK6:=aLa (show ∀v∈l3,v.marks.length≤20 from fun v hv=>by
    have h1:v.plain∈l3.map Vlu.plain:=List.mem_map_of_mem hv;rw[hl3] at h1;exact aK0.out M _ h1)
   obtain ⟨HEq,HV3,aD9⟩:=aLb hl4 hv3 cL;have hq3:((l3.length:Int) != (lf.length:Int))=false:=(by simp[cL]);have hl350:l3.length≤50:=(by omega);have hlfb:lf.length≤50:=hlf;clear hl3 hl4 cL hv3;go_wp2_with fail;go_loopw [242] (fun u wx=>∃i:Nat,i≤l3.length∧u=.int .i64 i∧Bl w15 wx) (fun u _=>l3.length-(RowKit.intOf u).toNat);case atStart=>exact ⟨0,Nat.zero_le _,rfl,Bl.refl _⟩
   case round=>
    rename World=>wx;obtain ⟨i,hi2,rfl,hbx⟩:=hrel;have Hbx:=aLa (aHX.out.trans hbx);have aJp:=aLa hbx;clear hbx k1;have k1:=(w11.bl (LE.out.trans Hbx.out)).all8;by_cases wU:i<l3.length
    ·obtain ⟨v,hv⟩:∃z,l3[i]? = some z:=⟨_,aLv wU⟩;obtain ⟨x,hx⟩:∃z,lf[i]? = some z:=⟨_,aLv (by rw[←aD9.out];exact wU)⟩;have hvm:=List.mem_of_getElem? hv;have hpv:v.plain=GI x (dQ l x.name):=by
      have h1:(l3.map Vlu.plain)[i]? = some v.plain:=(by rw[aLG,hv];rfl);rw[HEq.out,aLG,hx] at h1;rw[←Hg1.out x];exact (aLZ h1).symm
     have hvn:v.field=x.name∧v.sure=1000:=by
      unfold Vlu.plain GI at hpv;cases hvf:dQ l x.name with
      |none=>rw[hvf] at hpv;simp only[Prod.mk.injEq] at hpv;exact ⟨hpv.1,hpv.2.2.2⟩
      |some u=>rw[hvf] at hpv;simp only[Prod.mk.injEq] at hpv;exact ⟨hpv.1,hpv.2.2.2⟩
     obtain ⟨aHY,aHZ⟩:=hvn;rw[←aHY] at hpv;have hw0:dQ l v.field=none→v.text=[]∧v.marks=[]:=fun h=>by
      unfold Vlu.plain GI at hpv;rw[h] at hpv;simp only[Prod.mk.injEq] at hpv;exact ⟨hpv.2.1,hpv.2.2.1⟩
     have hw1:∀u,dQ l v.field=some u→v.text=u.text∧v.marks=u.marks:=fun u h=>by
      unfold Vlu.plain GI at hpv;rw[h] at hpv;simp only[Prod.mk.injEq] at hpv;exact ⟨hpv.2.1,hpv.2.2.1⟩
     obtain ⟨ad,e1,j1,j2,j3,j4⟩:=VlusAt.at_ (HV3.out.bl aJp.out) hv;subst e1;rw[aHZ] at j4;obtain ⟨HX,Hvn,Hw0,Hw1,aH0,HMv,Hvl2,Hsv⟩:=aLg hx aHY hw0 hw1 (aK6.out v hvm) ((HV3.out.2 v hvm).1) ((HV3.out.2 v hvm).2) aHZ;clear hv hx hpv aHY aHZ hw0 hw1 hvm;go_upto_region 33 with fail;obtain ⟨o16,aH1⟩:=aLt wx.heap.size;obtain ⟨w16,aGu⟩:=aLt (wx.alloc (.cells #[.string ⟨v.field.toArray⟩,.string ⟨v.text.toArray⟩,.slice v.M v.marks.length v.mc,.int .i64 1000] 69));have b16:=aLp aGu aH1;have aEa:=aLn aGu;rw[←aGu,←aH1];obtain ⟨B16,aH2,aK7⟩:=aLb b16 (Hbx.out.trans aEa) (aJp.out.trans aEa);have Hby:=aLa (dV.out.trans (LE.out.trans aH2.out));have Hts:=aLa (AQ o16 v l w16 (by rw[Hsv.out];exact b16));clear aGu aH1 b16 aEa j1 j2 j3 j4 k1;have k1:=(w11.bl (LE.out.trans aH2.out)).all8;go_upto_region 34 with (go_at_call 37;refine (I3 A c l _ _ (pW v.field) _ (HL.out.bl Hby.out) Hts.out Hln.out).mono ?_;rintro e w17 ⟨k,rfl,aCB,aFK⟩);obtain ⟨aH3,aK8,HFi,aFL,B17⟩:=aLd (aH2.out.trans aFK) (aK7.out.trans aFK) (UB aCB) aFK (B16.out.bl aFK);clear aFK aCB k1;go_upto_region 35 with fail;obtain ⟨o18,aGv⟩:=aLt w17.heap.size;obtain ⟨w18,aGw⟩:=aLt (w17.alloc (.cells #[.string ⟨#[]⟩,.string ⟨#[]⟩,.slice none 0 0,.int .i64 0] 69));have b18:=aLp aGw aGv;have aJq:=aLn aGw;rw[←aGw,←aGv];obtain ⟨B18,aBY,aCC⟩:=aLb b18 aJq (show w17.heap.size≤o18 by rw[aGv];exact Nat.le_refl _);have k6:=b18.all4;clear aGw aGv b18 aJq;go_upto_if 251 with fail;go_cut [] from 250 to 255 (fun wc=>∃(nm:List UInt8) (M':Option Addr) (mc':Nat) (su:Int),Blk wc o18 69 #[nm,.string ⟨v.text.toArray⟩,.slice M' v.marks.length mc',su]∧Reads wc 1 M' v.marks.length (v.marks.map (.int .i64))∧Bl w17 wc);case first=>
      rcases HFi.out with ⟨aJQ,aJr⟩|⟨j,y,rfl,hjy,hfy⟩
      ·have hz:=Hw0.out aJr;have HZ:=aLa hz;clear hz aJr;go_wp2_with fail;go_meet;case rel=>
        refine ⟨[],none,0,0,?_,?_,aBY.out⟩
        ·rw[HZ.out.1,HZ.out.2];exact B18.out
        ·rw[HZ.out.2];exact ⟨rfl,fun h=>absurd h (by simp)⟩
      ·have HZ:=aLa (Hw1.out y hfy);obtain ⟨ad2,e2,f1,f2,f3,f4⟩:=VlusAt.at_ (HL.out.bl (Hby.out.trans (aFL.out.trans aBY.out))) hjy;subst e2;have hjl:=(aLw.1 hjy).1;have hlnn:=Hln.out;have HMy:=aLa ((HL.out.2 y (List.mem_of_getElem? hjy)).1);clear hjy hfy;go_wp2_with fail;go_meet;case rel=>
        rw[HZ.out.1,HZ.out.2];exact ⟨y.field,y.M,y.mc,y.sure,(((B18.out.set_ 0 _).set_ 1 _).set_ 2 _).set_ 3 _,HMy.out.bl ((Hby.out.trans aFL.out).trans ((((aBY.out.setCell aCC.out _).setCell aCC.out _).setCell aCC.out _).setCell aCC.out _)),(((aBY.out.setCell aCC.out _).setCell aCC.out _).setCell aCC.out _).setCell aCC.out _⟩
     case rest=>
     rename World=>w19;obtain ⟨nmu,MU,mcu,su,bu,hmu,aEk⟩:=hcut;obtain ⟨adF,eF,f1,f2,f3,f4,f5,f6,f7,f8,f9⟩:=FldsAt.at_ (HF.out.flds.bl (dV.out.trans (LE.out.trans (aH3.out.trans aEk)))) HX.out;try simp only at eF
     subst eF;rw[←Hvn.out] at f1;have hxl:=(aLw.1 HX.out).1;have k1:=(w11.bl (LE.out.trans (aH3.out.trans aEk))).all8;have k3:=(B17.out.bl aEk).all4;have k6:=bu.all4;obtain ⟨Hb19,aJs,HMU⟩:=aLb (aH3.out.trans aEk) (aK8.out.trans aEk) hmu;have hq5:((1000:Int) != 1000)=false:=rfl;clear aEk hmu bu f2 f3 f4 f5 f6 f7 f8 f9;go_wp2_with fail;refine aLs [aLq 0,aLq 1,aLq 2,aLq 3,aLq 4,aLq 5,aLq 6,aLq 7,aLq 8,aLq 9,aLq 10,aLq 11,aLq 12,aLq 13,aLq 14,aLq 15,aLq 16,aLq 17,aLq 18,aLq 19,aLq 20,aLq 21,aLq 22,aLq 23,aLq 24,aLq 25,aLr 26,aLq 27,aLq 28] (by kernel_rfl) ?_
     iterate 2
      iterate 4
       apply Flow.calm2 _ _ rfl rfl
       ·intro a b c d;obtain ⟨e,f⟩:=b.rule;go_simp;(try go_ints);exact d
       ·intro a b;simp only[sqA];exact b
      apply Flow.mv _ rfl
      ·intro a b;simp only[sqA,Act.eval,sqC];exact b
     iterate 5
      first
       | (apply Flow.pass rfl (by rfl))
       | (apply Flow.calmG _ rfl (by rfl)
          ·intro a b;obtain ⟨e,f⟩:=b.rule;go_simp;all_goals (try rfl))
      simp only[sqA];try go_ints
     apply Flow.calm2 _ _ rfl rfl
     ·intro a b c d;obtain ⟨e,f⟩:=b.rule;go_simp;(try go_ints);exact d
     ·intro a b;simp only[sqA];exact b
     apply Flow.mv _ rfl
     ·intro a b;simp only[sqA,Act.eval,sqC];exact b
     iterate 3
      first
       | (apply Flow.pass rfl (by rfl))
       | (apply Flow.calmG _ rfl (by rfl)
          ·intro a b;obtain ⟨e,f⟩:=b.rule;go_simp;all_goals (try rfl))
      simp only[sqA];try go_ints
     apply Flow.calm2 _ _ rfl rfl
     ·intro a b c d;obtain ⟨e,f⟩:=b.rule;go_simp;(try go_ints);exact d
     ·intro a b;simp only[sqA];exact b
     apply Flow.mv _ rfl
     ·intro a b;simp only[sqA,Act.eval,sqC];exact b
     iterate 4
      first
       | (apply Flow.pass rfl (by rfl))
       | (apply Flow.calmG _ rfl (by rfl)
          ·intro a b;obtain ⟨e,f⟩:=b.rule;go_simp;all_goals (try rfl))
      simp only[sqA];try go_ints
     apply Flow.move rfl;go_wp2_with fail;refine (EK v.M MU v.mc mcu v.marks v.marks _ ((HMv.out.bl aJs.out).bl (Bl.refl _).drew) (HMU.out.bl (Bl.refl _).drew) (by have:=aH0.out;omega)).mono ?_;rintro e w20 ⟨rfl,HB1⟩;go_wp2_with fail;refine ⟨fun _=>(by first|exact HB1|exact Bl.refl _),?_⟩
     first
      | (apply Flow.pass rfl (by rfl))
      | (apply Flow.calmG _ rfl (by rfl)
         ·intro a b;obtain ⟨e,f⟩:=b.rule;go_simp;all_goals (try rfl))
     simp only[sqA];try go_ints
     apply Flow.calm2 _ _ rfl rfl
     ·intro a b c d;obtain ⟨e,f⟩:=b.rule;go_simp;(try go_ints);exact d
     ·intro a b;simp only[sqA];exact b
     refine Flow.done ?_;go_wp2_with fail;exact ⟨⟨i+1,wU,by go_num,aJs.out.trans ((Bl.refl _).drew.trans HB1)⟩,by simp[RowKit.intOf];omega⟩
    ·obtain rfl:i=l3.length:=(by omega);go_wp2_with fail;go_ret;exact ⟨rfl,dV.out.trans (LE.out.trans Hbx.out)⟩
theorem AR (f : Frm) (L : Option Addr) (c : Nat) (l : List Vlu) (fnm : List UInt8) (ht gap sp : Int) (A : Option Addr) (lc : Nat) (ls : List Ltr) (dx dy : Int) (w : World) (hF : FrmAt w f) (hS : f.small 1048576) (hL : VlusAt w L l) (hln : l.length ≤ 9223372036854775807) (hT : ∀ v ∈ l, v.text.length ≤ 1048576)
 (hLs:LtrsAt w A ls) (UW:fnm.length≤9223372036854775807) (UX:ls.length≤9223372036854775807) (aGr:ls.length≤lc) (hdx:-9223372036854775808≤dx∧dx≤9223372036854775807) (hdy:-9223372036854775808≤dy∧dy≤9223372036854775807) (hN:NumOk w) (hC:SplitOk w) (hv:SubOk w) (hSp:SpOk w) :
 Calls Tryz.prog 5 #[f.val,.slice L l.length c,.agg #[fnm,ht,gap,sp,.slice A ls.length lc],dx,dy] w fun e w'=>e=.returned (.bool true)∧Bl w w':=by
 by_cases hf:f.err=0
 ·by_cases hg:bN (dA fnm) ht gap sp ls=0
  ·obtain ⟨W,H,r,cM⟩:=W3 hf;obtain ⟨ht',gap',sp',rfl,rfl,rfl,hR⟩:=OT hg;have hl1:0<ls.length:=(by have:=hR.many;omega);have hl0:ls[0]? = some (ls[0]'hl1):=aLv hl1;obtain ⟨adl,rfl,-⟩:=hLs.at_ hl0;have AY:=fun wx (hb:Bl w wx)=>aDx f L c l fnm ht' gap' sp' adl lc ls W H r wx hf cM (hF.bl hb) (hL.bl hb) hln hS hT (hLs.bl hb) UW UX hg (hN.bl hb) (hC.bl hb) (hv.bl hb) (hSp.bl hb);by_cases hE:(sH ls ht' gap' sp' W H f.lf [] l (cO W H f.la f.la.length)).1=0
   ·obtain ⟨hI,hwv⟩:=Y7 (l:=l) hf cM (Y5 (ls:=ls) (ht:=ht') (gap:=gap') (sp:=sp') hf cM) hE;rw[List.map_nil,List.nil_append] at hI;rw[hE] at AY;exact NX f W H r L c l fnm ht' gap' sp' adl lc ls dx dy _ w hf cM AY hI hwv hg hR hF hS hL hln hLs UW UX aGr hN hC hSp hdx hdy
   ·exact qB f L c l fnm ht' gap' sp' (some adl) lc ls dx dy _ W H _ w AY hE
  ·exact qB f L c l fnm ht gap sp A lc ls dx dy (bN (dA fnm) ht gap sp ls) 0 0 [] w (fun wx hb=>P3 f L l.length c fnm ht gap sp A lc ls _ 0 0 [] wx (hF.bl hb) hS (hN.bl hb) (hC.bl hb) (hLs.bl hb) UW UX (by rw[if_pos hf]) hg) hg
 ·exact qB f L c l fnm ht gap sp A lc ls dx dy f.err 0 0 [] w (fun wx hb=>P3 f L l.length c fnm ht gap sp A lc ls _ 0 0 [] wx (hF.bl hb) hS (hN.bl hb) (hC.bl hb) (hLs.bl hb) UW UX (by rw[if_neg hf]) hf) hf
end Go.Proofs.YtllefinciimffaaGreatDoor
