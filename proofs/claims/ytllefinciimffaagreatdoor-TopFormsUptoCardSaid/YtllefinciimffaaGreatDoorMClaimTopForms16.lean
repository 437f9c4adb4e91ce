import Derived.Test.YtllefinciimffaaGreatDoorMClaimTopForms14
import Derived.Test.YtllefinciimffaaGreatDoorMClaimTopForms12
import Derived.Test.YtllefinciimffaaGreatDoorMClaimTopForms11
set_option maxHeartbeats 20000000
set_option maxRecDepth 100000
namespace Go.Proofs.YtllefinciimffaaGreatDoor
open Go.RowKit
theorem kI (x:Int) (w:World) (hx:-1000000≤x∧x≤1000000):Calls Tryz.prog 221 #[x] w fun e w'=>e=.returned x.natAbs∧w=w':=by
 have hm:max x (-x)=(x.natAbs:Int):=(by rw[Int.max_def];split<;>omega);have Hm:=aLa hm;clear hm
 go_in
 go_wp2
 go_ret;exact ⟨by rw[←Hm.out];rfl,rfl⟩
theorem WD {w h i:Nat} (f:Nat→Nat→Bool) (hi:i<w*h):(eS w h f).getD i false=f (i % w) (i / w):=by
 rw[List.getD,uF w h f i hi];rfl
theorem aAN (bs cs:List Bool) (W w h X Y i:Nat) (hi:i<w*h):ZT bs (eS w h (kR cs W X Y)) w h 0 0 (i+1)=ZT bs (eS w h (kR cs W X Y)) w h 0 0 i+(if (bs.getD i false != pix cs W (X+i % w) (Y+i / w))=true then 1 else 0):=by
 have e:=aAh bs (eS w h (kR cs W X Y)) w h i hi;rw[WD _ hi] at e;show ZT bs (eS w h (kR cs W X Y)) w h 0 0 i+(if ER bs (eS w h (kR cs W X Y)) w h 0 0 i then 1 else 0)=_;rw[e];rfl
theorem SG {ok:Nat→Bool} {num:Nat→Nat} {r m:Nat} (h:ok m=false):nD ok num r (m+1)=nD ok num r m:=by
 show yE ok num r m (nD ok num r m)=_;unfold yE;rw[if_neg (fun k=>by rw[h] at k;exact absurd k.1 (by decide))]
theorem SH {ok:Nat→Bool} {num:Nat→Nat} {r m:Nat} {x y n:Int} (hs:nD ok num r m=(x,y,n)) (h:ok m=true) (hc:n<0∨(num m:Int)<n∨((num m:Int)=n∧(nW r m:Int)<x.natAbs+y.natAbs)):nD ok num r (m+1)=(LN r m,LP r m,(num m:Int)):=by
 show yE ok num r m (nD ok num r m)=_;unfold yE;rw[hs,if_pos ⟨h,hc⟩]
theorem SI {ok:Nat→Bool} {num:Nat→Nat} {r m:Nat} {x y n:Int} (hs:nD ok num r m=(x,y,n)) (hc:¬(n<0∨(num m:Int)<n∨((num m:Int)=n∧(nW r m:Int)<x.natAbs+y.natAbs))):nD ok num r (m+1)=(x,y,n):=by
 show yE ok num r m (nD ok num r m)=_;unfold yE;rw[hs,if_neg (fun k=>hc k.2)]
theorem aAO (f : Frm) (a : Anc) (C : Option Addr) (cc : Nat) (cs : List Bool) (W H BW BH r : Nat) (w : World) (hfW : f.W = (W : Int)) (hfH : f.H = (H : Int)) (hfr : f.reach = (r : Int)) (haW : a.W = (BW : Int)) (haH : a.H = (BH : Int)) (ham : a.m = BW * BH) (hr : r ≤ 40)
 (hW:1≤W∧W≤4000) (hH:1≤H∧H≤4000) (hWH:W*H≤1048576) (hin:a.box.inP f.W f.H=true) (hA:Reads w 1 a.A a.m (a.bs.map .bool)) (hC:Reads w 1 C (W*H) (cs.map .bool)) :
 Calls Tryz.prog 160 #[f.val, a.val, .agg #[W, H, .slice C (W * H) cc]] w
  fun e w'=>e=.returned (.agg #[.int .i64 (dM f cs a).1,.int .i64 (dM f cs a).2.1,.int .i64 (dM f cs a).2.2])∧Bl w w':=by
 obtain ⟨nm,fW,fH,reach,dark,AL,ac,la,FL,fc,lf,RL,rc,lr⟩:=f;obtain ⟨aW,aH,A,am,aC,bs,X,Y⟩:=a;simp only at hfW hfH hfr haW haH ham hin hA;subst hfW hfH hfr haW haH ham;obtain ⟨ok,hok⟩:=aLt (okA ⟨BW,BH,A,BW*BH,aC,bs,X,Y⟩ W H r);obtain ⟨num,aCo⟩:=aLt (aEu ⟨BW,BH,A,BW*BH,aC,bs,X,Y⟩ cs W r);obtain ⟨FD,hFD⟩:=aLt (nD ok num r);have aIo:dM ⟨nm,W,H,r,dark,AL,ac,la,FL,fc,lf,RL,rc,lr⟩ cs ⟨BW,BH,A,BW*BH,aC,bs,X,Y⟩=FD ((2*r+1)*(2*r+1)):=by
  rw[hFD,hok,aCo];rfl
 rw[aIo];have aDM:=aLY (show decide (0≤X∧X<(W:Int)∧0≤Y∧Y<(H:Int)∧1≤(BW:Int)∧(BW:Int)≤(W:Int)-X∧1≤(BH:Int)∧(BH:Int)≤(H:Int)-Y)=true from hin);obtain ⟨HOk,aJV,HFD,HA,HC⟩:=aLd hok aCo hFD hA hC;have ub:W≤4000∧H≤4000∧1≤W∧1≤H∧BW≤4000∧BH≤4000∧1≤BW∧1≤BH:=(by omega);have aBD:0<BW*BH:=Nat.mul_pos (by omega) (by omega);have hmB:BW*BH≤16000000:=(by have:=aMa (show BW≤4000 by omega) (show BH≤4000 by omega);omega);have ubX:0≤X∧X≤4000∧0≤Y∧Y≤4000:=(by omega);let w3:=(((w).alloc (.cells #[nm,W,H,r,dark,.slice AL la.length ac,.slice FL lf.length fc,.slice RL lr.length rc] 26)).alloc (.cells #[BW,BH,.slice A (BW*BH) aC,X,Y] 85)).alloc (.cells #[W,H,.slice C (W*H) cc] 43);obtain ⟨w3b,w31,w32,w33⟩:=aLj (x:=w3) w _ _ _ _ _ _ rfl;have hbx:=fun wx=>oE ⟨BW,BH,A,BW*BH,aC,bs,X,Y⟩ wx;have hip:=fun (x y:Int) wx=>nB x y BW BH W H wx hW hH;unfold Anc.val Anc.box Bx.val at hbx;have Hbx:=aLa hbx;have Hip:=aLa hip;have k1:=w31.all8;have k2:=w32.all5;have k3:=w33.all3;have lw3:w3.heap.size=w.heap.size+3:=(by simp[w3]);obtain ⟨B1,B2,B3,W3b,FD0⟩:=aLd w31 w32 w33 w3b (show FD 0=(0,0,-1) by rw[hFD];rfl);unfold Frm.val Anc.val;clear hok aCo hFD hA hC hbx hip aIo hin aDM w31 w32 w33 w3b
 go_in
 go_upto_region 2 with fail;obtain ⟨w4,hw4⟩:=aLt (w3.alloc (.cells #[.int .i64 0,.int .i64 0,.int .i64 (-1)] 87))
 change Code.wp _ _ _ _ (w3.alloc (.cells #[.int .i64 0,.int .i64 0,.int .i64 (-1)] 87))
 have e3:w3.heap.size=w.heap.size+1+1+1:=(by simp[w3]);rw[←hw4];obtain ⟨g,hg⟩:=aLt (w.heap.size+1+1+1);have hg3:w3.heap.size≤g:=(by omega);have b4:Blk w4 g 87 #[.int .i64 0,.int .i64 0,.int .i64 (-1)]:=(by rw[hw4,hg,←e3];exact Blk.new w3 _ _);have hb4:=aLn hw4;rw[←hg];obtain ⟨B4,Hb4,Hg3⟩:=aLb b4 hb4 hg3;have k1:=(B1.out.bl hb4).all8;clear_value w3;clear hw4 e3 hg b4 hb4 lw3 k2 k3 hg3;go_wp2_with fail;go_loopw [7] (fun u wr=>∃(v:Nat) (x y n:Int),v≤2*r+1∧u=.int .i64 ((v:Int)-r)∧Hid (FD (v*(2*r+1))=(x,y,n))∧Hid (Blk wr g 87 #[x,.int .i64 y,.int .i64 n])∧Bl w3 wr) (fun u _=>(r+1-intOf u).toNat);case atStart=>exact ⟨0,0,0,-1,Nat.zero_le _,by simp,by rw[Nat.zero_mul];exact FD0,B4,Hb4.out⟩
 case round=>
  clear k1;obtain ⟨v,x0,y0,n0,hv,rfl,hst,hF,hbr⟩:=hrel;have k1:=(B1.out.bl hbr).all8;by_cases hlt:v<2*r+1
  ·have d1:decide ((v:Int)-(r:Int)≤(r:Int))=true:=(by simp;omega);go_wp2_with fail;go_loopw [8] (fun u wy=>∃(x:Nat) (xx yy nn:Int),x≤2*r+1∧u=.int .i64 ((x:Int)-r)∧Hid (FD (v*(2*r+1)+x)=(xx,yy,nn))∧Hid (Blk wy g 87 #[xx,yy,nn])∧Bl w3 wy) (fun u _=>(r+1-intOf u).toNat);case atStart=>exact ⟨0,x0,y0,n0,Nat.zero_le _,by simp,hst,hF,hbr⟩
   case round=>
    clear hst hbr hF k1;rename World=>wq;obtain ⟨x,X0,Y0,N0,hx,rfl,hst,hF,hbr⟩:=hrel;have k1:=(B1.out.bl hbr).all8;by_cases wU:x<2*r+1
    ·have d2:decide ((x:Int)-(r:Int)≤(r:Int))=true:=(by simp;omega);have k2:=(B2.out.bl hbr).all5;obtain ⟨P,hP⟩:=aLt (X+((x:Int)-(r:Int)):Int);obtain ⟨Q,hQ⟩:=aLt (Y+((v:Int)-(r:Int)):Int);obtain ⟨m,hm⟩:=aLt (v*(2*r+1)+x);have edx:=VC r v x wU;have edy:=VD r v x wU;have aIp:ok m=eX P Q BW BH W H:=(by rw[HOk.out,hm];unfold okA;rw[edx,edy,hP,hQ]);have bP:-5000≤P∧P≤5000:=(by omega);have bQ:-5000≤Q∧Q≤5000:=(by omega);have eP:=hP.symm;have eQ:=hQ.symm;rw[←hm] at hst edx edy;obtain ⟨aIq,Hm,HP,HQ,Hbr,Edx,Edy⟩:=aLf aIp hm hP hQ hbr edx edy;clear aIp hm hP hQ edx edy hbr;go_wp2_with fail;refine (Hbx.out _).mono ?_;rintro e w5 ⟨rfl,hb5⟩;have k1:=(B1.out.bl (Hbr.out.trans hb5)).all8;go_upto_region 10 with fail;obtain ⟨w6,hw6⟩:=aLt (w5.alloc (.cells #[P,Q,BW,BH] 58));have b6:=aLo hw6;have aG2:=aLn hw6;rw[←hw6];obtain ⟨Hb6,F6,B6⟩:=aLb (Hbr.out.trans (hb5.trans aG2)) (hF.out.bl (hb5.trans aG2)) b6;have k1:=(B1.out.bl Hb6.out).all8;have k4:=b6.all4;clear hw6 b6 aG2 hb5 hF k2;go_wp2_with fail;refine (Hip.out P Q _).mono ?_;rintro e w7 ⟨rfl,hb7⟩;obtain ⟨F7,B7,Hb7⟩:=aLb (F6.out.bl hb7) (B6.out.bl hb7) (Hb6.out.trans hb7);have k1:=(B1.out.bl Hb7.out).all8;clear k4 hb7;cases hpg:eX P Q BW BH W H with
     |false=>have HX:=aLa (show FD (m+1)=(X0,Y0,N0) by rw[HFD.out,SG (by rw[aIq.out,hpg]),←HFD.out];exact hst.out);clear hpg;go_wp2_with fail;exact ⟨⟨x+1,X0,Y0,N0,wU,by go_num,by rw[show v*(2*r+1)+(x+1)=m+1 by rw[Hm.out];omega];exact HX,F7,Hb7.out⟩,by simp[intOf];omega⟩
     |true=>
      have aJW:=aLa (aIq.out.trans hpg);have aDM:=aLY (show decide (0≤P∧P<(W:Int)∧0≤Q∧Q<(H:Int)∧1≤(BW:Int)∧(BW:Int)≤(W:Int)-P∧1≤(BH:Int)∧(BH:Int)≤(H:Int)-Q)=true from hpg);obtain ⟨PX,rfl⟩:=Int.eq_ofNat_of_zero_le aDM.1;obtain ⟨PY,rfl⟩:=Int.eq_ofNat_of_zero_le aDM.2.2.1;have hx1:PX+BW≤W:=(by omega);have hy1:PY+BH≤H:=(by omega);have Hnm:=aLa (show num m=ZT bs (eS BW BH (kR cs W PX PY)) BW BH 0 0 (BW*BH) by
       rw[aJV.out];unfold aEu;simp only[aL8];rw[Edx.out,Edy.out,←HP.out,←HQ.out,aL8,aL8])
      obtain ⟨gr,hgr⟩:=aLt (eS BW BH (kR cs W PX PY));have hcut:=fun i (hi:i<BW*BH)=>aAN bs cs W BW BH PX PY i hi;rw[←hgr] at Hnm hcut;have aJX:=aLa hcut;have k2:=(B2.out.bl Hb7.out).all5;clear hpg aDM hgr hcut bP bQ;go_wp2_with fail;go_loopw [10,55] (fun n u wy=>∃i:Nat,i≤BW*BH∧u=.int .i64 i∧n=.int .i64 (ZT bs gr BW BH 0 0 i)∧Bl w7 wy) (fun _ u _=>BW*BH-(intOf u).toNat);case atStart=>exact ⟨0,Nat.zero_le _,rfl,rfl,Bl.refl _⟩
      case round=>
       clear k1 k2;rename World=>wy;obtain ⟨i,hi,rfl,rfl,hby⟩:=hrel;by_cases aF3:i<BW*BH
       ·have hWp:¬(BW=0):=(by rintro rfl;simp at aBD);have k3:=(B3.out.bl (Hb7.out.trans hby)).all3;have k4:=(B7.out.bl hby).all4;have mlt:i % BW<BW:=Nat.mod_lt _ (by omega);have dlt:i / BW<BH:=Nat.div_lt_of_lt_mul aF3;obtain ⟨ad,ua,eA,hu,hca⟩:=((HA.out.bl W3b.out).bl (Hb7.out.trans hby)).at_ aF3;have hua:ua=.bool (bs.getD i false):=by
         simp only[aLG,Option.map_eq_some_iff] at hu;obtain ⟨b,hb1,hb2⟩:=hu;rw[←hb2,List.getD,hb1];rfl
        clear hu;subst hua eA;have aBL:=aJX.out i aF3;obtain ⟨xi,hxi⟩:=aLt (i % BW);obtain ⟨yi,hyi⟩:=aLt (i / BW);rw[←hxi,←hyi] at aBL;rw[←hxi] at mlt;rw[←hyi] at dlt;have f1:(i:Int) % (BW:Int)=(xi:Int):=(by rw[hxi];simp);have f2:(i:Int) / (BW:Int)=(yi:Int):=(by rw[hyi];simp);obtain ⟨cd,eC,hcc⟩:=((HC.out.bl W3b.out).bl (Hb7.out.trans hby)).place (show PX+xi<W by omega) (show PY+yi<H by omega);subst eC;have hk:=eD (show PX+xi<W by omega) (show PY+yi<H by omega);obtain ⟨k,hkk⟩:=aLt ((PY+yi)*W+(PX+xi));rw[←hkk] at hcc hk;obtain ⟨T1,hT1⟩:=aLt ((PY+yi)*W);have f3:((PY:Int)+(yi:Int))*(W:Int)=(T1:Int):=(by rw[hT1];simp);have f4:(T1:Int)+(PX:Int)+(xi:Int)=(k:Int):=(by rw[hkk,←hT1];simp;omega);have f5:T1≤16000000:=(by rw[hT1];have:=aMa (show PY+yi≤4000 by omega) (show W≤4000 by omega);omega);have f6:(k:Int)<(W:Int)*(H:Int):=(by have:=aL9 W H;omega);have hcl:=LQ bs gr BW BH 0 0 i;obtain ⟨n,hn⟩:=aLt (ZT bs gr BW BH 0 0 i);obtain ⟨va,hva⟩:=aLt (bs.getD i false);obtain ⟨vb,hvb⟩:=aLt (pix cs W (PX+xi) (PY+yi));rw[←hn] at aBL hcl ⊢;rw[←hva] at aBL hca;rw[←hvb] at aBL hcc;have aJY:=aLa aBL;have Hby:=aLa hby
        have k2:=(B2.out.bl (Hb7.out.trans hby)).all5;clear hxi hyi hkk hT1 hn hva hvb aBL hby
        go_upto_region 15 with fail;refine aLs [aLq 0,aLq 1,aLq 2,aLq 3,aLq 4,aLq 5,aLq 6,aLq 7,aLq 8,aLq 9,aLq 10,aLq 11,aLq 12,aLq 13,aLq 14,aLq 15,aLq 16,aLq 17,aLq 18,aLq 19,aLq 20,aLq 21,aLq 22,aLq 23] (by kernel_rfl) ?_;apply Flow.mv _ rfl
        ·intro a b;simp only[sqA,Act.eval,sqC];exact b
        iterate 4
         apply Flow.calm2 _ _ rfl rfl
         ·intro a b c d;obtain ⟨e,f⟩:=b.rule;go_simp;(try go_ints);exact d
         ·intro a b;simp only[sqA];exact b
        apply Flow.mv _ rfl
        ·intro a b;simp only[sqA,Act.eval,sqC];exact b
        iterate 10
         apply Flow.calm2 _ _ rfl rfl
         ·intro a b c d;obtain ⟨e,f⟩:=b.rule;go_simp;(try go_ints);exact d
         ·intro a b;simp only[sqA];exact b
        apply Flow.mv _ rfl
        ·intro a b;simp only[sqA,Act.eval,sqC];exact b
        iterate 7
         apply Flow.calm2 _ _ rfl rfl
         ·intro a b c d;obtain ⟨e,f⟩:=b.rule;go_simp;(try go_ints);exact d
         ·intro a b;simp only[sqA];exact b
        refine Flow.done ?_;cases va<;>cases vb
        all_goals
         go_wp2_with fail;exact ⟨⟨i+1,aF3,by go_num,by rw[aJY.out];simp,Hby.out.drew⟩,by simp[intOf];omega⟩
       ·obtain rfl:i=BW*BH:=(by omega);rw[←Hnm.out];have aF4:nD ok num r m=(X0,Y0,N0):=(by rw[←HFD.out];exact hst.out);have hbd:=(ES ok num r m).bd (by rw[Hm.out];exact Nat.le_of_lt (eD wU hlt)) hr;rw[aF4] at hbd;simp only at hbd;have N3:=fun (hc:N0<0∨(num m:Int)<N0∨((num m:Int)=N0∧(nW r m:Int)<X0.natAbs+Y0.natAbs))=>SH aF4 aJW.out hc;have uA:=fun (hc:¬(N0<0∨(num m:Int)<N0∨((num m:Int)=N0∧(nW r m:Int)<X0.natAbs+Y0.natAbs)))=>SI (ok:=ok) (num:=num) (r:=r) (m:=m) aF4 hc;have aBE:(nW r m:Int)=(((x:Int)-r).natAbs:Int)+(((v:Int)-r).natAbs:Int):=(by unfold nW;rw[Edx.out,Edy.out];simp);have aJZ:num m≤16000000:=(by rw[Hnm.out];have:=LQ bs gr BW BH 0 0 (BW*BH);omega);rw[←HFD.out] at N3 uA;rw[aBE,Edx.out,Edy.out] at N3;rw[aBE] at uA;obtain ⟨n,hn⟩:=aLt (num m);rw[←hn] at N3 uA aJZ ⊢;obtain ⟨qa,hqa⟩:=aLt (((x:Int)-r).natAbs);obtain ⟨qb,hqb⟩:=aLt (((v:Int)-r).natAbs);obtain ⟨qx,hqx⟩:=aLt X0.natAbs;obtain ⟨qy,hqy⟩:=aLt Y0.natAbs;rw[←hqa,←hqb,←hqx,←hqy] at N3 uA;have a1:(((x:Int)-r).natAbs:Int)=(qa:Int):=(by rw[hqa]);have a2:(((v:Int)-r).natAbs:Int)=(qb:Int):=(by rw[hqb]);have a3:(X0.natAbs:Int)=(qx:Int):=(by rw[hqx]);have a4:(Y0.natAbs:Int)=(qy:Int):=(by rw[hqy]);have a5:qa≤100∧qb≤100∧qx≤100∧qy≤100:=(by omega);have b1:-1000000≤(x:Int)-r∧(x:Int)-r≤1000000:=(by omega);have b2:-1000000≤(v:Int)-r∧(v:Int)-r≤1000000:=(by omega);have Hby:=aLa (Hb7.out.trans hby);have Fy:=aLa (F7.out.bl hby);have kF:=(F7.out.bl hby).all3;clear hqa hqb hqx hqy hn aBE hst aF4 hby d1 d2 ub aBD hmB ubX hx1 hy1 eP eQ hWH;go_upto_region 18 with fail;rcases (show N0<0∨(¬N0<0∧(n:Int)<N0)∨(¬N0<0∧(n:Int)=N0∧(qa:Int)+qb<qx+qy)∨(¬N0<0∧(n:Int)=N0∧¬((qa:Int)+qb<qx+qy))∨(¬N0<0∧N0<(n:Int)) by omega) with c1|⟨c1,c2⟩|⟨c1,c2,c3⟩|⟨c1,c2,c3⟩|⟨c1,c2⟩
        ·have Hs:=aLa (N3 (Or.inl c1));clear N3 uA;refine aLs [aLq 0,aLq 1,aLq 2,aLq 3,aLq 4,aLq 5,aLq 6,aLq 7,aLq 8,aLq 9,aLq 10,aLq 11,aLq 12,aLq 13,aLq 14,aLq 15,aLq 17,aLq 20,aLq 21,aLq 23,aLq 24,aLr 16,aLr 18,aLq 19,aLr 22,aLr 25,aLq 26,aLq 27,aLq 28,aLq 29] (by kernel_rfl) ?_
         iterate 3
          apply Flow.calm2 _ _ rfl rfl
          ·intro a b c d;obtain ⟨e,f⟩:=b.rule;go_simp;(try go_ints);exact d
          ·intro a b;simp only[sqA];exact b
         apply Flow.mv _ rfl
         ·intro a b;simp only[sqA,Act.eval,sqC];exact b
         iterate 4
          first
           | (apply Flow.pass rfl (by rfl))
           | (apply Flow.calmG _ rfl (by rfl)
              ·intro a b;obtain ⟨e,f⟩:=b.rule;go_simp;all_goals (try rfl))
          simp only[sqA];try go_ints
         apply Flow.calm2 _ _ rfl rfl
         ·intro a b c d;obtain ⟨e,f⟩:=b.rule;go_simp;(try go_ints);exact d
         ·intro a b;simp only[sqA];exact b
         apply Flow.mv _ rfl
         ·intro a b;simp only[sqA,Act.eval,sqC];exact b
         iterate 11
          first
           | (apply Flow.pass rfl (by rfl))
           | (apply Flow.calmG _ rfl (by rfl)
              ·intro a b;obtain ⟨e,f⟩:=b.rule;go_simp;all_goals (try rfl))
          simp only[sqA];try go_ints
         apply Flow.move rfl;go_wp2_with fail;first|refine ⟨fun _=>Bl.refl _,?_⟩|refine ⟨Bl.refl _,?_⟩
         apply Flow.move rfl;go_wp2_with fail;first|refine ⟨fun _=>Bl.refl _,?_⟩|refine ⟨Bl.refl _,?_⟩
         first
          | (apply Flow.pass rfl (by rfl))
          | (apply Flow.calmG _ rfl (by rfl)
             ·intro a b;obtain ⟨e,f⟩:=b.rule;go_simp;all_goals (try rfl))
         simp only[sqA];try go_ints
         apply Flow.move rfl;go_wp2_with fail;first|refine ⟨fun _=>Bl.refl _,?_⟩|refine ⟨Bl.refl _,?_⟩
         apply Flow.move rfl;go_wp2_with fail;first|refine ⟨fun _=>Bl.refl _,?_⟩|refine ⟨Bl.refl _,?_⟩
         iterate 3
          first
           | (apply Flow.pass rfl (by rfl))
           | (apply Flow.calmG _ rfl (by rfl)
              ·intro a b;obtain ⟨e,f⟩:=b.rule;go_simp;all_goals (try rfl))
          simp only[sqA];try go_ints
         apply Flow.calm2 _ _ rfl rfl
         ·intro a b c d;obtain ⟨e,f⟩:=b.rule;go_simp;(try go_ints);exact d
         ·intro a b;simp only[sqA];exact b
         refine Flow.done ?_;go_wp2_with fail;exact ⟨⟨x+1,_,_,_,wU,by go_num,by rw[show v*(2*r+1)+(x+1)=m+1 by rw[Hm.out];omega];exact Hs,aLa (by simpa using (((Fy.out.set_ 0 (.int .i64 ((x:Int)-r))).set_ 1 (.int .i64 ((v:Int)-r))).set_ 2 (.int .i64 n)).drew),(((Hby.out.setCell Hg3.out _).setCell Hg3.out _).setCell Hg3.out _).drew⟩,by simp[intOf];omega⟩
        ·have Hs:=aLa (N3 (Or.inr (Or.inl c2)));clear N3 uA;refine aLs [aLq 0,aLq 1,aLq 2,aLq 3,aLq 4,aLq 5,aLq 6,aLq 7,aLq 8,aLq 9,aLq 10,aLq 11,aLq 12,aLq 13,aLq 14,aLq 15,aLq 17,aLq 20,aLq 21,aLq 23,aLq 24,aLr 16,aLr 18,aLq 19,aLr 22,aLr 25,aLq 26,aLq 27,aLq 28,aLq 29] (by kernel_rfl) ?_
         iterate 3
          apply Flow.calm2 _ _ rfl rfl
          ·intro a b c d;obtain ⟨e,f⟩:=b.rule;go_simp;(try go_ints);exact d
          ·intro a b;simp only[sqA];exact b
         apply Flow.mv _ rfl
         ·intro a b;simp only[sqA,Act.eval,sqC];exact b
         iterate 4
          first
           | (apply Flow.pass rfl (by rfl))
           | (apply Flow.calmG _ rfl (by rfl)
              ·intro a b;obtain ⟨e,f⟩:=b.rule;go_simp;all_goals (try rfl))
          simp only[sqA];try go_ints
         apply Flow.calm2 _ _ rfl rfl
         ·intro a b c d;obtain ⟨e,f⟩:=b.rule;go_simp;(try go_ints);exact d
         ·intro a b;simp only[sqA];exact b
         apply Flow.mv _ rfl
         ·intro a b;simp only[sqA,Act.eval,sqC];exact b
         iterate 11
          first
           | (apply Flow.pass rfl (by rfl))
           | (apply Flow.calmG _ rfl (by rfl)
              ·intro a b;obtain ⟨e,f⟩:=b.rule;go_simp;all_goals (try rfl))
          simp only[sqA];try go_ints
         apply Flow.move rfl;go_wp2_with fail;first|refine ⟨fun _=>Bl.refl _,?_⟩|refine ⟨Bl.refl _,?_⟩
         apply Flow.move rfl;go_wp2_with fail;first|refine ⟨fun _=>Bl.refl _,?_⟩|refine ⟨Bl.refl _,?_⟩
         first
          | (apply Flow.pass rfl (by rfl))
          | (apply Flow.calmG _ rfl (by rfl)
             ·intro a b;obtain ⟨e,f⟩:=b.rule;go_simp;all_goals (try rfl))
         simp only[sqA];try go_ints
         apply Flow.move rfl;go_wp2_with fail;first|refine ⟨fun _=>Bl.refl _,?_⟩|refine ⟨Bl.refl _,?_⟩
         apply Flow.move rfl;go_wp2_with fail;first|refine ⟨fun _=>Bl.refl _,?_⟩|refine ⟨Bl.refl _,?_⟩
         iterate 3
          first
           | (apply Flow.pass rfl (by rfl))
           | (apply Flow.calmG _ rfl (by rfl)
              ·intro a b;obtain ⟨e,f⟩:=b.rule;go_simp;all_goals (try rfl))
          simp only[sqA];try go_ints
         apply Flow.calm2 _ _ rfl rfl
         ·intro a b c d;obtain ⟨e,f⟩:=b.rule;go_simp;(try go_ints);exact d
         ·intro a b;simp only[sqA];exact b
         refine Flow.done ?_;go_wp2_with fail;exact ⟨⟨x+1,_,_,_,wU,by go_num,by rw[show v*(2*r+1)+(x+1)=m+1 by rw[Hm.out];omega];exact Hs,aLa (by simpa using (((Fy.out.set_ 0 (.int .i64 ((x:Int)-r))).set_ 1 (.int .i64 ((v:Int)-r))).set_ 2 (.int .i64 n)).drew),(((Hby.out.setCell Hg3.out _).setCell Hg3.out _).setCell Hg3.out _).drew⟩,by simp[intOf];omega⟩
        ·have Hs:=aLa (N3 (Or.inr (Or.inr ⟨c2,c3⟩)));clear N3 uA;subst c2;refine aLs [aLq 0,aLq 1,aLq 2,aLq 3,aLq 4,aLq 5,aLq 6,aLq 7,aLq 8,aLq 9,aLq 10,aLq 11,aLq 12,aLq 13,aLq 14,aLq 15,aLq 17,aLq 20,aLq 21,aLq 23,aLq 24,aLr 16,aLr 18,aLq 19,aLr 22,aLr 25,aLq 26,aLq 27,aLq 28,aLq 29] (by kernel_rfl) ?_
         iterate 3
          apply Flow.calm2 _ _ rfl rfl
          ·intro a b c d;obtain ⟨e,f⟩:=b.rule;go_simp;(try go_ints);exact d
          ·intro a b;simp only[sqA];exact b
         apply Flow.mv _ rfl
         ·intro a b;simp only[sqA,Act.eval,sqC];exact b
         iterate 4
          first
           | (apply Flow.pass rfl (by rfl))
           | (apply Flow.calmG _ rfl (by rfl)
              ·intro a b;obtain ⟨e,f⟩:=b.rule;go_simp;all_goals (try rfl))
          simp only[sqA];try go_ints
         apply Flow.calm2 _ _ rfl rfl
         ·intro a b c d;obtain ⟨e,f⟩:=b.rule;go_simp;(try go_ints);exact d
         ·intro a b;simp only[sqA];exact b
         apply Flow.mv _ rfl
         ·intro a b;simp only[sqA,Act.eval,sqC];exact b
         iterate 11
          first
           | (apply Flow.pass rfl (by rfl))
           | (apply Flow.calmG _ rfl (by rfl)
              ·intro a b;obtain ⟨e,f⟩:=b.rule;go_simp;all_goals (try rfl))
          simp only[sqA];try go_ints
         apply Flow.move rfl;go_wp2_with fail;refine (kI _ _ (by omega)).mono ?_;rintro e w' ⟨rfl,rfl⟩;go_wp2_with fail;refine ⟨fun _=>(by first|exact HB1|exact Bl.refl _),?_⟩;apply Flow.move rfl;go_wp2_with fail;refine (kI _ _ (by omega)).mono ?_;rintro e w' ⟨rfl,rfl⟩;go_wp2_with fail;refine ⟨fun _=>(by first|exact HB2|exact Bl.refl _),?_⟩
         first
          | (apply Flow.pass rfl (by rfl))
          | (apply Flow.calmG _ rfl (by rfl)
             ·intro a b;obtain ⟨e,f⟩:=b.rule;go_simp;all_goals (try rfl))
         simp only[sqA];try go_ints
         apply Flow.move rfl;go_wp2_with fail;refine (kI _ _ (by omega)).mono ?_;rintro e w' ⟨rfl,rfl⟩;go_wp2_with fail;refine ⟨fun _=>(by first|exact HB3|exact Bl.refl _),?_⟩;apply Flow.move rfl;go_wp2_with fail;refine (kI _ _ (by omega)).mono ?_;rintro e w' ⟨rfl,rfl⟩;go_wp2_with fail;refine ⟨fun _=>(by first|exact HB4|exact Bl.refl _),?_⟩
         iterate 3
          first
           | (apply Flow.pass rfl (by rfl))
           | (apply Flow.calmG _ rfl (by rfl)
              ·intro a b;obtain ⟨e,f⟩:=b.rule;go_simp;all_goals (try rfl))
          simp only[sqA];try go_ints
         apply Flow.calm2 _ _ rfl rfl
         ·intro a b c d;obtain ⟨e,f⟩:=b.rule;go_simp;(try go_ints);exact d
         ·intro a b;simp only[sqA];exact b
         refine Flow.done ?_;go_wp2_with fail;exact ⟨⟨x+1,_,_,_,wU,by go_num,by rw[show v*(2*r+1)+(x+1)=m+1 by rw[Hm.out];omega];exact Hs,aLa (by simpa using (((Fy.out.set_ 0 (.int .i64 ((x:Int)-r))).set_ 1 (.int .i64 ((v:Int)-r))).set_ 2 (.int .i64 n)).drew),(((Hby.out.setCell Hg3.out _).setCell Hg3.out _).setCell Hg3.out _).drew⟩,by simp[intOf];omega⟩
        ·have Hs:=aLa (uA (by omega));clear N3 uA;subst c2;refine aLs [aLq 0,aLq 1,aLq 2,aLq 3,aLq 4,aLq 5,aLq 6,aLq 7,aLq 8,aLq 9,aLq 10,aLq 11,aLq 12,aLq 13,aLq 14,aLq 15,aLq 17,aLq 20,aLq 21,aLq 23,aLq 24,aLr 16,aLr 18,aLq 19,aLr 22,aLr 25,aLq 26,aLq 27,aLq 28,aLq 29] (by kernel_rfl) ?_
         iterate 3
          apply Flow.calm2 _ _ rfl rfl
          ·intro a b c d;obtain ⟨e,f⟩:=b.rule;go_simp;(try go_ints);exact d
          ·intro a b;simp only[sqA];exact b
         apply Flow.mv _ rfl
         ·intro a b;simp only[sqA,Act.eval,sqC];exact b
         iterate 4
          first
           | (apply Flow.pass rfl (by rfl))
           | (apply Flow.calmG _ rfl (by rfl)
              ·intro a b;obtain ⟨e,f⟩:=b.rule;go_simp;all_goals (try rfl))
          simp only[sqA];try go_ints
         apply Flow.calm2 _ _ rfl rfl
         ·intro a b c d;obtain ⟨e,f⟩:=b.rule;go_simp;(try go_ints);exact d
         ·intro a b;simp only[sqA];exact b
         apply Flow.mv _ rfl
         ·intro a b;simp only[sqA,Act.eval,sqC];exact b
         iterate 11
          first
           | (apply Flow.pass rfl (by rfl))
           | (apply Flow.calmG _ rfl (by rfl)
              ·intro a b;obtain ⟨e,f⟩:=b.rule;go_simp;all_goals (try rfl))
          simp only[sqA];try go_ints
         apply Flow.move rfl;go_wp2_with fail;refine (kI _ _ (by omega)).mono ?_;rintro e w' ⟨rfl,rfl⟩;go_wp2_with fail;refine ⟨fun _=>(by first|exact HB1|exact Bl.refl _),?_⟩;apply Flow.move rfl;go_wp2_with fail;refine (kI _ _ (by omega)).mono ?_;rintro e w' ⟨rfl,rfl⟩;go_wp2_with fail;refine ⟨fun _=>(by first|exact HB2|exact Bl.refl _),?_⟩
         first
          | (apply Flow.pass rfl (by rfl))
          | (apply Flow.calmG _ rfl (by rfl)
             ·intro a b;obtain ⟨e,f⟩:=b.rule;go_simp;all_goals (try rfl))
         simp only[sqA];try go_ints
         apply Flow.move rfl;go_wp2_with fail;refine (kI _ _ (by omega)).mono ?_;rintro e w' ⟨rfl,rfl⟩;go_wp2_with fail;refine ⟨fun _=>(by first|exact HB3|exact Bl.refl _),?_⟩;apply Flow.move rfl;go_wp2_with fail;refine (kI _ _ (by omega)).mono ?_;rintro e w' ⟨rfl,rfl⟩;go_wp2_with fail;refine ⟨fun _=>(by first|exact HB4|exact Bl.refl _),?_⟩
         iterate 3
          first
           | (apply Flow.pass rfl (by rfl))
           | (apply Flow.calmG _ rfl (by rfl)
              ·intro a b;obtain ⟨e,f⟩:=b.rule;go_simp;all_goals (try rfl))
          simp only[sqA];try go_ints
         apply Flow.calm2 _ _ rfl rfl
         ·intro a b c d;obtain ⟨e,f⟩:=b.rule;go_simp;(try go_ints);exact d
         ·intro a b;simp only[sqA];exact b
         refine Flow.done ?_;go_wp2_with fail;exact ⟨⟨x+1,_,_,_,wU,by go_num,by rw[show v*(2*r+1)+(x+1)=m+1 by rw[Hm.out];omega];exact Hs,aLa Fy.out.drew,Hby.out.drew⟩,by simp[intOf];omega⟩
        ·have Hs:=aLa (uA (by omega));have c3:((n:Int)==N0)=false:=(by simp;omega);have c4:¬(n:Int)<N0:=(by omega);have c5:decide ((n:Int)<N0)=false:=aLW c4;clear N3 uA;refine aLs [aLq 0,aLq 1,aLq 2,aLq 3,aLq 4,aLq 5,aLq 6,aLq 7,aLq 8,aLq 9,aLq 10,aLq 11,aLq 12,aLq 13,aLq 14,aLq 15,aLq 17,aLq 20,aLq 21,aLq 23,aLq 24,aLr 16,aLr 18,aLq 19,aLr 22,aLr 25,aLq 26,aLq 27,aLq 28,aLq 29] (by kernel_rfl) ?_
         iterate 3
          apply Flow.calm2 _ _ rfl rfl
          ·intro a b c d;obtain ⟨e,f⟩:=b.rule;go_simp;(try go_ints);exact d
          ·intro a b;simp only[sqA];exact b
         apply Flow.mv _ rfl
         ·intro a b;simp only[sqA,Act.eval,sqC];exact b
         iterate 4
          first
           | (apply Flow.pass rfl (by rfl))
           | (apply Flow.calmG _ rfl (by rfl)
              ·intro a b;obtain ⟨e,f⟩:=b.rule;go_simp;all_goals (try rfl))
          simp only[sqA];try go_ints
         apply Flow.calm2 _ _ rfl rfl
         ·intro a b c d;obtain ⟨e,f⟩:=b.rule;go_simp;(try go_ints);exact d
         ·intro a b;simp only[sqA];exact b
         apply Flow.mv _ rfl
         ·intro a b;simp only[sqA,Act.eval,sqC];exact b
         iterate 11
          first
           | (apply Flow.pass rfl (by rfl))
           | (apply Flow.calmG _ rfl (by rfl)
              ·intro a b;obtain ⟨e,f⟩:=b.rule;go_simp;all_goals (try rfl))
          simp only[sqA];try go_ints
         apply Flow.move rfl;go_wp2_with fail;first|refine ⟨fun _=>Bl.refl _,?_⟩|refine ⟨Bl.refl _,?_⟩
         apply Flow.move rfl;go_wp2_with fail;first|refine ⟨fun _=>Bl.refl _,?_⟩|refine ⟨Bl.refl _,?_⟩
         first
          | (apply Flow.pass rfl (by rfl))
          | (apply Flow.calmG _ rfl (by rfl)
             ·intro a b;obtain ⟨e,f⟩:=b.rule;go_simp;all_goals (try rfl))
         simp only[sqA];try go_ints
         apply Flow.move rfl;go_wp2_with fail;first|refine ⟨fun _=>Bl.refl _,?_⟩|refine ⟨Bl.refl _,?_⟩
         apply Flow.move rfl;go_wp2_with fail;first|refine ⟨fun _=>Bl.refl _,?_⟩|refine ⟨Bl.refl _,?_⟩
         iterate 3
          first
           | (apply Flow.pass rfl (by rfl))
           | (apply Flow.calmG _ rfl (by rfl)
              ·intro a b;obtain ⟨e,f⟩:=b.rule;go_simp;all_goals (try rfl))
          simp only[sqA];try go_ints
         apply Flow.calm2 _ _ rfl rfl
         ·intro a b c d;obtain ⟨e,f⟩:=b.rule;go_simp;(try go_ints);exact d
         ·intro a b;simp only[sqA];exact b
         refine Flow.done ?_;go_wp2_with fail;exact ⟨⟨x+1,_,_,_,wU,by go_num,by rw[show v*(2*r+1)+(x+1)=m+1 by rw[Hm.out];omega];exact Hs,aLa Fy.out.drew,Hby.out.drew⟩,by simp[intOf];omega⟩
    ·obtain rfl:x=2*r+1:=(by omega);go_wp2_with fail;exact ⟨⟨v+1,X0,Y0,N0,hlt,by go_num,by rw[Nat.add_mul,Nat.one_mul];exact hst,hF,hbr⟩,by simp[intOf];omega⟩
  ·obtain rfl:v=2*r+1:=(by omega);have kF:=hF.out.all3;go_wp2_with fail;refine aL0 (v:=.agg #[x0,y0,n0]) (by simp[results,Tryz.results160,go_sem,kF]) rfl ⟨by rw[hst.out],W3b.out.trans (((hbr.setCell Hg3.out _).setCell Hg3.out _).setCell Hg3.out _)⟩
end Go.Proofs.YtllefinciimffaaGreatDoor
namespace Go.Proofs.YtllefinciimffaaGreatDoor
open Go.RowKit Go.Shelf
theorem SJ (B n:Nat) (w0:World) (hbk:w0.heap[B]? = some (.cells #[.pointer none,.slice none 0 0] 94 (0,0))) (hBw:B≤w0.heap.size) (h1:1≤n) (hn:n≤1048576) :
 Calls Tryz.prog 270 #[.pointer (some ⟨B,0,none⟩),n] w0 fun e w'=>e=.returned (.tuple #[])∧Bui B [] w'∧Below B w0 w':=by
 have aDH:(w0.setCell ⟨B,0,none⟩ (.pointer (some ⟨B,0,none⟩))).heap[B]? = some (.cells #[.pointer (some ⟨B,0,none⟩),.slice none 0 0] 94 (0,0)):=by
  simp[World.setCell,Array.getElem?_modify,hbk]
 have c1:(w0.setCell ⟨B,0,none⟩ (.pointer (some ⟨B,0,none⟩))).cell? ⟨B,1,none⟩=some (.slice none 0 0):=(by rw[Lib.cell_of_heap aDH];rfl);have hb1:Below B w0 (w0.setCell ⟨B,0,none⟩ (.pointer (some ⟨B,0,none⟩))):=(Below.refl B w0).setCell (p:=⟨B,0,none⟩) (Nat.le_refl _) _;have Hck:=aLa (nY B w0 (by rw[Lib.cell_of_heap hbk];rfl) (by simp[World.shape?,hbk]) (Lib.frozen_of_heap hbk 0));obtain ⟨w1,hw1⟩:=aLt (w0.setCell ⟨B,0,none⟩ (.pointer (some ⟨B,0,none⟩)));have GP:B≤w1.heap.size:=(by rw[hw1];simpa using hBw);rw[←hw1] at aDH c1 hb1;have HW1:=aLa hw1;have aFW:=aLa aDH;clear hw1 hbk
 go_in
 go_wp2_with fail;refine Hck.out.mono ?_;rintro e w2 ⟨rfl,rfl⟩;rw[←HW1.out];go_upto_region 3 with fail;refine aLs [aLq 0,aLq 1,aLq 2,aLq 3,aLq 4,aLq 5,aLq 6,aLq 7,aLq 8,aLq 9,aLq 10,aLq 11,aLq 12] (by kernel_rfl) ?_;apply Flow.mv _ rfl
 ·intro a b;simp only[sqA,Act.eval,sqC];exact b
 iterate 4
  apply Flow.calm2 _ _ rfl rfl
  ·intro a b c d;obtain ⟨e,f⟩:=b.rule;go_simp;(try go_ints);exact d
  ·intro a b;simp only[sqA];exact b
 apply Flow.mv _ rfl
 ·intro a b;simp only[sqA,Act.eval,sqC];exact b
 iterate 5
  apply Flow.calm2 _ _ rfl rfl
  ·intro a b c d;obtain ⟨e,f⟩:=b.rule;go_simp;(try go_ints);exact d
  ·intro a b;simp only[sqA];exact b
 apply Flow.mv _ rfl
 ·intro a b;simp only[sqA,Act.eval,sqC];exact b
 apply Flow.calm2 _ _ rfl rfl
 ·intro a b c d;obtain ⟨e,f⟩:=b.rule;go_simp;(try go_ints);exact d
 ·intro a b;simp only[sqA];exact b
 refine Flow.done ?_;have hlt:(0:Int)<(n:Int):=(by omega);go_wp2_with fail;refine (Any.Builder_grow_fresh Tryz.lays241 Tryz.builderExtra241 B B n w1.drew (Nat.le_refl _) aFW.out (by simpa using GP) (by omega)).mono ?_;rintro e w2 ⟨rfl,h1,h2⟩;go_wp2_with fail
 go_end0
 exact ⟨rfl,Or.inr (Lib.BuilderAtF.of h1),hb1.drew.trans h2⟩
theorem BI (B:Nat) (c:UInt8) (hc:c.toNat<128) (v:Value) (bs:List Value) (w:World) (cA:w.ownsRowF B 5 1 v bs.length bs) (cL:bs.length+1≤140737488355328) (hBw:B≤w.heap.size) :
 Calls Tryz.prog 339 #[v,.int .i32 (c.toNat:Int)] w fun e w'=>∃v',e=.returned v'∧w'.ownsRowF B 5 1 v' (bs.length+1) (bs++[.int .u8 (c.toNat:Int)])∧(∀j,j<w.heap.size→some j≠v.ownBlock→w'.heap[j]? = w.heap[j]?)∧Below B w w':=by
 obtain ⟨i0,hi,hz0,hz1,hz2⟩:=info_parts LG;obtain ⟨cv,hcv⟩:=aLt ((c.toNat:Int):Int);rw[←hcv];have hc0:0≤cv:=(by omega);have hc1:cv≤127:=(by omega);clear hcv hc
 go_in
 go_wp2_with (at_builtin;refine wpList_append_ownF _ rfl _ _ 92 rfl B 5 i0 (.int .u8 0) 1 1 Tryz.underlying92 hi hz0 hz1 hz2 rfl (by decide) _ _ _ rfl (cA.alloc _) ⟨w.heap.size,0,none⟩ 1 1 [.int .u8 cv] rfl rfl ?c1 ?c2 ?c3 ?c4 ?c5 ?_);case c1=>
  intro j u hj
  match j,hj with
  |0,hj=>simp at hj;subst hj;simp[Addr.add]
 case c2=>intro u hu;simp at hu;subst hu;rfl
 case c3=>unfold maxLen;omega
 case c4=>omega
 case c5=>simp;omega
 intro v' w2 uB xD _;have hbl:Below B w w2:=((Below.refl B w).alloc hBw _).grown xD (by simp;omega) (fun k hk=>(cA.lt k hk).1);have hbk:∀j,j<w.heap.size→some j≠v.ownBlock→w2.heap[j]? = w.heap[j]?:=fun j hj hne=>by
  rw[xD.block j (by simp;omega) hne,Lib.alloc_old w _ j hj]
 obtain ⟨HB,HK,HO⟩:=aLb hbl hbk uB;clear hbl hbk uB xD cA
 go_wp2
 go_ret;exact ⟨v',rfl,HO.out,HK.out,HB.out⟩
theorem FM (B:Nat) (l:List UInt8) (c:UInt8) (hc:c.toNat<128) (w:World) (h:Bui B l w) (cL:l.length+1≤140737488355328) (hBw:B≤w.heap.size) :
 Calls Tryz.prog 318 #[.pointer (some ⟨B,0,none⟩),.int .i32 (c.toNat:Int)] w fun e w'=>(∃v,e=.returned v)∧Bui B (l++[c]) w'∧Below B w w':=by
 have hbc:Lib.byteCells (l++[c])=Lib.byteCells l++[.int .u8 (c.toNat:Int)]:=(by rw[Lib.byteCells_append];rfl);have hbl:(Lib.byteCells l).length=l.length:=Lib.byteCells_length l;have Hbc:=aLa hbc;have Hbl:=aLa hbl;obtain ⟨bs,hbs⟩:=aLt (Lib.byteCells l);have hck:=oQ B l w h;rw[←hbs] at hck Hbc Hbl;have Hck:=aLa hck;clear hbs hck h hbc hbl
 go_in
 go_wp2_with (go_at_call 113;refine Hck.out.mono ?_);rintro e w1 ⟨rfl,h1,hb1⟩;obtain ⟨hB,v,hbk,cA,hne⟩:=h1;have c0:w1.cell? ⟨B,0,none⟩=some (.pointer (some ⟨B,0,none⟩)):=(by rw[Lib.cell_of_heap hbk];rfl);have c1:w1.cell? ⟨B,1,none⟩=some v:=(by rw[Lib.cell_of_heap hbk];rfl);obtain ⟨A,cap0,hv⟩:∃A cap,v=.slice A bs.length cap:=by
  rcases cA.2 with ⟨h2,h0⟩|⟨g,cap,cur,fz,hv,_⟩
  ·exact ⟨none,0,by rw[h2,h0]⟩
  ·exact ⟨_,cap,hv⟩
 subst hv;have GP:B≤w1.heap.size:=(by have:=hb1.size;omega);have hlt:B<w1.heap.size:=by
  rcases Nat.lt_or_ge B w1.heap.size with h' | h'
  ·exact h'
  ·simp[Array.getElem?_eq_none h'] at hbk
 have Har:=aLa (BI B c hc _ bs w1 cA (by have:=Hbl.out;omega) GP);have HF:=aLa (And.intro hbk (And.intro hb1 hne));clear hbk cA hne hb1 hc Hck;go_wp2_with fail;refine Har.out.mono ?_;rintro e w2 ⟨v',rfl,uB,aIr,hb2⟩;have aE7:w2.heap[B]? = some (.cells #[.pointer (some ⟨B,0,none⟩),.slice A bs.length cap0] 94 (0,0)):=by
  rw[aIr B hlt (fun e=>HF.out.2.2 e.symm)];exact HF.out.1
 have d0:w2.cell? ⟨B,0,none⟩=some (.pointer (some ⟨B,0,none⟩)):=(by rw[Lib.cell_of_heap aE7];rfl);have d1:w2.cell? ⟨B,1,none⟩=some (.slice A bs.length cap0):=(by rw[Lib.cell_of_heap aE7];rfl);have f1:w2.frozen? ⟨B,1,none⟩=false:=Lib.frozen_of_heap aE7 1;obtain ⟨g,cap,rfl⟩:∃g cap,v'=.slice (some ⟨g,0,none⟩) (bs.length+1) cap:=by
  rcases uB.2 with ⟨_,h0⟩|⟨g,cap,cur,fz,hv,_⟩
  ·omega
  ·exact ⟨g,cap,hv⟩
 have QL:=Lib.BuilderAtF.put (T:=94) (e:=5) hB aE7 (bs':=bs++[.int .u8 (c.toNat:Int)]) (by simpa using uB) (by decide);have aCp:Below B w (w2.setCell ⟨B,1,none⟩ (.slice (some ⟨g,0,none⟩) (bs.length+1) cap)):=(HF.out.2.1.trans hb2).setCell (p:=⟨B,1,none⟩) hB _;have aEV:=aLa QL;have aEW:=aLa aCp;clear QL aCp uB aE7 aIr hb2 HF Har c0 c1
 go_wp2
 refine aL0 (v:=?v) (by simp[results,Tryz.results318,go_sem];rfl) rfl ?_;exact ⟨⟨_,rfl⟩,by show Lib.IsBuilderF _ _ B B (Lib.byteCells (l++[c])) _;rw[Hbc.out];exact Or.inr aEV.out,aEW.out⟩
theorem BJ (B:Nat) (l:List UInt8) (w:World) (h:Bui B l w) (hl:0<l.length) :
 Calls Tryz.prog 319 #[.pointer (some ⟨B,0,none⟩)] w fun e w'=>∃c:Nat,e=.returned (.int .i64 ((c+1:Nat):Int))∧w=w':=by
 have hbl:(Lib.byteCells l).length=l.length:=Lib.byteCells_length l;have key:∀p,Lib.BuilderAtF 94 5 B B p (Lib.byteCells l) w→∃g c:Nat,w.cell? ⟨B,1,none⟩=some (.slice (some ⟨g,0,none⟩) l.length (c+1)):=fun p h1=>by
  obtain ⟨hB,v,hbk,cA,hne⟩:=h1;rcases cA.2 with ⟨h2,h0⟩|⟨g,cap,cur,fz,hv,-,-,-,hn,-⟩
  ·omega
  ·subst hv;refine ⟨g,cap-1,?_⟩;rw[Lib.cell_of_heap hbk,hbl,show cap-1+1=cap by omega];rfl
 obtain ⟨g,c,c1⟩:∃g c:Nat,w.cell? ⟨B,1,none⟩=some (.slice (some ⟨g,0,none⟩) l.length (c+1)):=h.elim (key _) (key _);clear key h hbl
 go_in
 go_wp2_with fail;go_ret;exact ⟨c,rfl,rfl⟩
theorem MG (c:UInt8) (hc:c.toNat<128) (w:World):Calls Tryz.prog 317 #[.int .i32 (c.toNat:Int)] w fun e w'=>e=.returned (.int .i64 1)∧w=w':=by
 have h0:(0:Int)≤(c.toNat:Int):=(by omega);have h1:(c.toNat:Int)≤127:=(by omega);obtain ⟨cv,hcv⟩:=aLt ((c.toNat:Int):Int);rw[←hcv] at h0 h1 ⊢;clear hcv hc
 go_in
 go_wp2_with fail;try simp only[Exit.inBlock,Exit.then]
 go_ret;exact ⟨rfl,rfl⟩
end Go.Proofs.YtllefinciimffaaGreatDoor
