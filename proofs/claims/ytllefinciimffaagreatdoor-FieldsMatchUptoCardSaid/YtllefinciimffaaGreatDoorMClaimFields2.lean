import Derived.Test.YtllefinciimffaaGreatDoorMClaimFields1
set_option maxHeartbeats 20000000
set_option maxRecDepth 100000
namespace Go.Proofs.YtllefinciimffaaGreatDoor
open Go.RowKit
def JK (A B:Int→Int→Bool) (dx dy x0:Int) (nx:Nat) (y:Int):Nat:=gQ (fun x=>b1 (A x y != B (x-dx) (y-dy))) x0 nx
theorem SB (A B:Int→Int→Bool) (W H W' H' r:Nat) (dx dy:Int):R9 A B W H W' H' r dx dy=gQ (JK A B dx dy (-(r:Int)) (max W W'+2*r)) (-(r:Int)) (max H H'+2*r):=rfl
def lM (T:Nat) (F:Nat→Nat) (k:Nat):Int:=if k=0 then -1 else (T:Int)-2*(nH F k:Int)
theorem SC (W H W' H' r:Nat) (A B:Option Addr) (ac bc:Nat) (cs bs:List Bool) (w:World) (hA:Reads w 1 A (W*H) (cs.map .bool)) (hB:Reads w 1 B (W'*H') (bs.map .bool)) (hW:W≤4000) (hH:H≤4000) (hW':W'≤4000) (hH':H'≤4000) (hr:r≤4) :
 Calls Tryz.prog 150 #[.agg #[W,H,.slice A (W*H) ac],.agg #[W',H',.slice B (W'*H') bc],r] w fun e w'=>e=.returned (.int .i64 (RH (gV cs W H) (gV bs W' H') W H W' H' r))∧Bl w w':=by
 let w2:=((w).alloc (.cells #[W,H,.slice A (W*H) ac] 43)).alloc (.cells #[W',H',.slice B (W'*H') bc] 43);obtain ⟨w2b,w21,w22⟩:=aHP (x:=w2) w _ _ _ _ rfl;have aFh:=fun wx (hx:Bl w2 wx) (x y:Int)=>uA W H A ac cs x y wx ((hA.bl w2b).bl hx) hW hH;have aFi:=fun wx (hx:Bl w2 wx) (x y:Int)=>uA W' H' B bc bs x y wx ((hB.bl w2b).bl hx) hW' hH';obtain ⟨F,hF⟩:=aH0 (mC (gV cs W H) (gV bs W' H') W H W' H' r);obtain ⟨T,hT⟩:=aH0 (JE (gV cs W H) W H+JE (gV bs W' H') W' H');have hTl:T≤32000000:=by
  have h1:=mM cs W H;have h2:=mM bs W' H';have h3:=lL cs (W*H);have h4:=lL bs (W'*H');have h5:=aIH hW hH;have h6:=aIH hW' hH';omega
 have hFi:∀i j,i<2*r+1→j<2*r+1→R9 (gV cs W H) (gV bs W' H') W H W' H' r ((j:Int)-(r:Int)) ((i:Int)-(r:Int))+2*F (i*(2*r+1)+j)=T:=fun i j hi hj=>by
  rw[hF,hT];unfold mC;rw[(vN r i j hj).1,(vN r i j hj).2];exact FB (rI cs W H) (rI bs W' H') (by omega) (by omega) (by omega) (by omega)
 have hFm:∀k,k≤(2*r+1)*(2*r+1)→2*nH F k≤T:=fun k hk=>by
  have:nH F k≤T / 2:=CX fun idx aCN=>by
   have h1:idx / (2*r+1)<2*r+1:=Nat.div_lt_of_lt_mul (by omega);have h2:=hFi (idx / (2*r+1)) (idx % (2*r+1)) h1 (Nat.mod_lt _ (by omega));rw[show idx / (2*r+1)*(2*r+1)+idx % (2*r+1)=idx by rw[Nat.mul_comm];exact Nat.div_add_mod _ _] at h2;omega
  omega
 have vF:RH (gV cs W H) (gV bs W' H') W H W' H' r=lM T F ((2*r+1)*(2*r+1)):=by
  unfold RH lM;rw[←hF,hT,if_neg (by have:=Nat.mul_pos (show 0<2*r+1 by omega) (show 0<2*r+1 by omega);omega)];omega
 obtain ⟨aGs,aGt,HFi,HFm,HRs⟩:=aHK aFh aFi hFi hFm vF;have k1:=w21.all3;have k2:=w22.all3;clear aFh aFi hFi hFm vF hF hT hA hB
 go_in
 go_wp2_with fail;go_loopw [8,7] (fun u v wr=>∃i:Nat,i≤2*r+1∧u=.int .i64 ((i:Int)-(r:Int))∧v=.int .i64 (lM T F (i*(2*r+1)))∧Bl w2 wr) (fun u _ _=>2*r+1-(RowKit.intOf u+(r:Int)).toNat);case atStart=>exact ⟨0,Nat.zero_le _,by simp,by simp[lM],Bl.refl _⟩
 case round=>
  clear k1 k2;obtain ⟨i,hi,rfl,rfl,hbr⟩:=hrel;by_cases hlt:i<2*r+1
  ·have hc:(i:Int)-(r:Int)≤(r:Int):=(by omega);obtain ⟨dy,hdy⟩:=aH0 ((i:Int)-(r:Int));have hd1:-4≤dy∧dy≤4:=(by omega);rw[←hdy] at hc ⊢;have HDy:=aHH hdy;clear hdy;go_wp2_with fail;go_loopw [9,7] (fun u v wx=>∃j:Nat,j≤2*r+1∧u=.int .i64 ((j:Int)-(r:Int))∧v=.int .i64 (lM T F (i*(2*r+1)+j))∧Bl w2 wx) (fun u _ _=>2*r+1-(RowKit.intOf u+(r:Int)).toNat);case atStart=>exact ⟨0,Nat.zero_le _,by simp,by simp,hbr⟩
   case round=>
    clear hbr;obtain ⟨j,hj,rfl,rfl,hbr⟩:=hrel;by_cases hjt:j<2*r+1
    ·have hFj:=HFi.out i j hlt hjt;have hcj:(j:Int)-(r:Int)≤(r:Int):=(by omega);obtain ⟨dx,hdx⟩:=aH0 ((j:Int)-(r:Int));have hd2:-4≤dx∧dx≤4:=(by omega);rw[←hdx,←HDy.out,SB] at hFj;rw[←hdx] at hcj ⊢;have HDx:=aHH hdx;have aCN:i*(2*r+1)+j<(2*r+1)*(2*r+1):=by
      have:=Nat.mul_le_mul_right (2*r+1) (show i+1≤2*r+1 by omega);rw[Nat.add_mul] at this;omega
     have hm:=HFm.out (i*(2*r+1)+j) (by omega);obtain ⟨idx,hix⟩:=aH0 (i*(2*r+1)+j);have hnx:lM T F (i*(2*r+1)+(j+1))=(T:Int)-2*((max (nH F idx) (F idx):Nat):Int):=by
      rw[←Nat.add_assoc,←hix];unfold lM;rw[if_neg (by omega)];rfl
     rw[←hix] at hFj hm ⊢;have HNx:=aHH hnx;clear hnx aCN hix hdx;obtain ⟨MW,hMW⟩:=aH0 (max W W');obtain ⟨MH,hMH⟩:=aH0 (max H H');rw[←hMW,←hMH] at hFj;have g1:(if (W:Int)<(W':Int) then (W':Int) else (W:Int))=(MW:Int):=(by split<;>omega);have g2:(if W<W' then (W':Int) else (W:Int))=(MW:Int):=(by split<;>omega);have g3:(if (W':Int)<(W:Int) then (W:Int) else (W':Int))=(MW:Int):=(by split<;>omega);have g4:(if W'<W then (W:Int) else (W':Int))=(MW:Int):=(by split<;>omega);have g5:(if (H:Int)<(H':Int) then (H':Int) else (H:Int))=(MH:Int):=(by split<;>omega);have g6:(if H<H' then (H':Int) else (H:Int))=(MH:Int):=(by split<;>omega);have g7:(if (H':Int)<(H:Int) then (H:Int) else (H':Int))=(MH:Int):=(by split<;>omega);have g8:(if H'<H then (H:Int) else (H':Int))=(MH:Int):=(by split<;>omega);have hMWl:MW≤4000:=(by omega);have hMHl:MH≤4000:=(by omega);obtain ⟨NX,hNX⟩:=aH0 (MW+2*r);obtain ⟨NY,hNY⟩:=aH0 (MH+2*r);rw[←hNX,←hNY] at hFj;obtain ⟨Row,YD⟩:=aH0 (JK (gV cs W H) (gV bs W' H') dx dy (-(r:Int)) NX);rw[←YD] at hFj;have hrl:∀y,Row y≤NX:=fun y=>(by rw[YD];unfold JK;have:=oF (c:=1) (fun x=>cAb (gV cs W H x y != gV bs W' H' (x-dx) (y-dy))) (-(r:Int)) NX;omega);have hwl:∀k,k≤NY→gQ Row (-(r:Int)) k≤20000000:=fun k hk=>by
      have h1:=oF (c:=NX) hrl (-(r:Int)) k;have h4:=aIH (show k≤4008 by omega) (show NX≤4008 by omega);omega
     obtain ⟨HWl,sS,HNX,HNY,HFj,Hm⟩:=aHL hwl YD hNX hNY hFj hm;have hNX2:NX≤4008:=(by omega);have hNY2:NY≤4008:=(by omega);clear hrl hwl YD hNX hNY hFj hm hMW hMH;go_wp2_with fail;go_loopw [11,10] (fun u v wx=>∃k:Nat,k≤NY∧u=.int .i64 ((k:Int)-(r:Int))∧v=.int .i64 (gQ Row (-(r:Int)) k:Nat)∧Bl w2 wx) (fun u _ _=>NY-(RowKit.intOf u+(r:Int)).toNat);case atStart=>exact ⟨0,Nat.zero_le _,by simp,rfl,hbr⟩
     case round=>
      clear hbr;obtain ⟨k,hk,rfl,rfl,hbr⟩:=hrel;have k1:=(w21.bl hbr).all3;have k2:=(w22.bl hbr).all3;have hP:=HWl.out k hk;by_cases hkt:k<NY
      ·have hPs:gQ Row (-(r:Int)) (k+1)=gQ Row (-(r:Int)) k+Row (-(r:Int)+(k:Int)):=rH _ _ _;have hyc:(k:Int)-(r:Int)<(MH:Int)+(r:Int):=(by have:=HNY.out;omega);obtain ⟨y,hy⟩:=aH0 ((k:Int)-(r:Int));have hyl:-4≤y∧y≤4008:=(by omega);rw[show -(r:Int)+(k:Int)=y by omega] at hPs;rw[←hy] at hyc ⊢;have hPb:=HWl.out (k+1) hkt;obtain ⟨P,hPP⟩:=aH0 (gQ Row (-(r:Int)) k);rw[←hPP] at hP hPs ⊢;obtain ⟨G,hG⟩:∃G:Int→Nat,G=fun x=>b1 (gV cs W H x y != gV bs W' H' (x-dx) (y-dy)):=⟨_,rfl⟩;have hRG:Row y=gQ G (-(r:Int)) NX:=(by rw[sS.out,hG];rfl);rw[hRG] at hPs;have hGl:∀k,gQ G (-(r:Int)) k≤k:=fun k=>(by have:=oF (f:=G) (c:=1) (fun z=>by rw[hG];exact cAb _) (-(r:Int)) k;omega);obtain ⟨HPs,HG,HGl,Hy⟩:=aHJ hPs hG hGl hy;clear hPs hRG hPP hG hGl hPb hy;go_wp2_with fail;go_loopw [12,10] (fun u v wx=>∃l:Nat,l≤NX∧u=.int .i64 ((l:Int)-(r:Int))∧v=.int .i64 ((P+gQ G (-(r:Int)) l:Nat):Int)∧Bl w2 wx) (fun u _ _=>NX-(RowKit.intOf u+(r:Int)).toNat);case atStart=>exact ⟨0,Nat.zero_le _,by simp,rfl,hbr⟩
       case round=>
        clear hbr k1 k2;obtain ⟨l,hl,rfl,rfl,hbr⟩:=hrel;have k1:=(w21.bl hbr).all3;have k2:=(w22.bl hbr).all3;have hV:=HGl.out l;by_cases hlx:l<NX
        ·have hVs:gQ G (-(r:Int)) (l+1)=gQ G (-(r:Int)) l+G (-(r:Int)+(l:Int)):=rH _ _ _;have hxc:(l:Int)-(r:Int)<(MW:Int)+(r:Int):=(by have:=HNX.out;omega);obtain ⟨x,hx⟩:=aH0 ((l:Int)-(r:Int));have hxl:-4≤x∧x≤4008:=(by omega);rw[show -(r:Int)+(l:Int)=x by omega,HG.out] at hVs;rw[←hx] at hxc ⊢;have h1:=aGs.out;have h2:=aGt.out;have e1:gV cs W H x y=atI cs W H x y:=rfl;have e2:gV bs W' H' (x-dx) (y-dy)=atI bs W' H' (x-dx) (y-dy):=rfl;have ha:=fun wx hx=>h1 wx hx x y;have hb:=fun wx hx=>h2 wx hx (x-dx) (y-dy);obtain ⟨va,hva⟩:=aH0 (atI cs W H x y);obtain ⟨vb,hvb⟩:=aH0 (atI bs W' H' (x-dx) (y-dy));rw[←hva] at ha e1;rw[←hvb] at hb e2;have aDu:gQ G (-(r:Int)) (l+1)=gQ G (-(r:Int)) l+b1 (va != vb):=by
          rw[←HG.out] at hVs;rw[hVs,HG.out];show _+b1 (gV cs W H x y != gV bs W' H' (x-dx) (y-dy))=_;rw[e1,e2]
         obtain ⟨V,hVV⟩:=aH0 (gQ G (-(r:Int)) l);rw[←hVV] at hV aDu ⊢;obtain ⟨HA1,aGu,HVs,Hx⟩:=aHJ ha hb aDu hx;clear hVs aDu hVV hva hvb e1 e2 h1 h2 ha hb hx;go_upto_region 15 with fail;refine aHZ [aHX 0,aHX 1,aHX 2,aHX 4,aHX 5,aHX 6,aHX 7,aHX 8,aHX 9,aHX 10,aHY 3,aHY 11,aHX 12] (by kernel_rfl) ?_
         iterate 3
          apply Flow.calm2 _ _ rfl rfl
          ·intro a b c d;obtain ⟨e,f⟩:=b.rule;go_simp;(try go_ints);exact d
          ·intro a b;simp only[sqA];exact b
          iterate 2
           apply Flow.mv _ rfl
           ·intro a b;simp only[sqA,Act.eval,sqC];exact b
         apply Flow.calm2 _ _ rfl rfl
         ·intro a b c d;obtain ⟨e,f⟩:=b.rule;go_simp;(try go_ints);exact d
         ·intro a b;simp only[sqA];exact b
         apply Flow.move rfl;go_wp2_with fail;refine (HA1.out _ hbr.drew).mono ?_;rintro e w5 ⟨rfl,HB1⟩;go_wp2_with fail;refine ⟨fun _=>(by first|exact HB1|exact Bl.refl _),?_⟩;apply Flow.move rfl;go_wp2_with fail;refine (aGu.out _ (hbr.drew.trans HB1)).mono ?_;rintro e w6 ⟨rfl,HB2⟩;go_wp2_with fail;refine ⟨fun _=>(by first|exact HB2|exact Bl.refl _),?_⟩;apply Flow.calm2 _ _ rfl rfl
         ·intro a b c d;obtain ⟨e,f⟩:=b.rule;go_simp;(try go_ints);exact d
         ·intro a b;simp only[sqA];exact b
         refine Flow.done ?_;have hb6:=(hbr.drew.trans HB1).trans HB2;cases va
         ·cases vb
          ·have HN:=aHH (show P+gQ G (-(r:Int)) (l+1)=P+V by rw[HVs.out];rfl);go_wp2_with fail;exact ⟨⟨l+1,hlx,by rw[Hx.out];go_num,by rw[HN.out]<;>go_num,hb6⟩,by rw[Hx.out];simp[RowKit.intOf]<;>omega⟩
          ·have HN:=aHH (show P+gQ G (-(r:Int)) (l+1)=P+V+1 by rw[HVs.out];rfl);go_wp2_with fail;exact ⟨⟨l+1,hlx,by rw[Hx.out];go_num,by rw[HN.out];go_num,hb6⟩,by rw[Hx.out];simp[RowKit.intOf]<;>omega⟩
         ·cases vb
          ·have HN:=aHH (show P+gQ G (-(r:Int)) (l+1)=P+V+1 by rw[HVs.out];rfl);go_wp2_with fail;exact ⟨⟨l+1,hlx,by rw[Hx.out];go_num,by rw[HN.out];go_num,hb6⟩,by rw[Hx.out];simp[RowKit.intOf]<;>omega⟩
          ·have HN:=aHH (show P+gQ G (-(r:Int)) (l+1)=P+V by rw[HVs.out];rfl);go_wp2_with fail;exact ⟨⟨l+1,hlx,by rw[Hx.out];go_num,by rw[HN.out]<;>go_num,hb6⟩,by rw[Hx.out];simp[RowKit.intOf]<;>omega⟩
        ·obtain rfl:l=NX:=(by omega);have hxc:¬((l:Int)-(r:Int)<(MW:Int)+(r:Int)):=(by have:=HNX.out;omega);have HN:=aHH (show gQ Row (-(r:Int)) (k+1)=P+gQ G (-(r:Int)) l from HPs.out);go_wp2_with fail;exact ⟨⟨k+1,hkt,by rw[Hy.out];go_num,by rw[HN.out],hbr⟩,by rw[Hy.out];simp[RowKit.intOf]<;>omega⟩
      ·obtain rfl:k=NY:=(by omega);have hyc:¬((k:Int)-(r:Int)<(MH:Int)+(r:Int)):=(by have:=HNY.out;omega);have hFj:=HFj.out;obtain ⟨V,hVV⟩:=aH0 (gQ Row (-(r:Int)) k);rw[←hVV] at hFj hP ⊢;have hst:=OC (l:=lM T F idx) (m:=nH F idx) hFj (by
        unfold lM;split
        ·rename_i h0;exact .inl ⟨rfl,by rw[h0];rfl⟩
        ·exact .inr rfl) Hm.out
       rw[←HNx.out] at hst;have hlb:lM T F idx≤32000000∧-1≤lM T F idx:=by
        have:=Hm.out;unfold lM;split<;>omega
       obtain ⟨Lv,hLv⟩:=aH0 (lM T F idx);rw[←hLv] at hst hlb ⊢;obtain ⟨Ln,hLn⟩:=aH0 (lM T F (i*(2*r+1)+(j+1)));rw[←hLn] at hst;have HLn:=aHH hLn;clear hLn hLv hFj hVV;by_cases c1:Lv<0
       ·rw[if_pos (.inl c1)] at hst;have HSt:=aHH hst;clear hst;go_wp2_with fail;exact ⟨⟨j+1,hjt,by rw[HDx.out];go_num,by rw[←HLn.out,←HSt.out],hbr⟩,by rw[HDx.out];simp[RowKit.intOf]<;>omega⟩
       ·by_cases c2:(V:Int)<Lv
        ·rw[if_pos (.inr c2)] at hst;have HSt:=aHH hst;clear hst;go_wp2_with fail;exact ⟨⟨j+1,hjt,by rw[HDx.out];go_num,by rw[←HLn.out,←HSt.out],hbr⟩,by rw[HDx.out];simp[RowKit.intOf]<;>omega⟩
        ·rw[if_neg (by omega)] at hst;have HSt:=aHH hst;clear hst;go_wp2_with fail;exact ⟨⟨j+1,hjt,by rw[HDx.out];go_num,by rw[←HLn.out,←HSt.out],hbr⟩,by rw[HDx.out];simp[RowKit.intOf]<;>omega⟩
    ·obtain rfl:j=2*r+1:=(by omega);have hcj:¬(((2*r+1:Nat):Int)-(r:Int)≤(r:Int)):=(by omega);have he:i*(2*r+1)+(2*r+1)=(i+1)*(2*r+1):=(by rw[Nat.add_mul,Nat.one_mul]);rw[he];go_wp2_with fail;exact ⟨⟨i+1,hlt,by rw[HDy.out];go_num,rfl,hbr⟩,by rw[HDy.out];simp[RowKit.intOf]<;>omega⟩
  ·obtain rfl:i=2*r+1:=(by omega);have hc:¬(((2*r+1:Nat):Int)-(r:Int)≤(r:Int)):=(by omega);go_wp2_with fail;go_ret;exact ⟨cP HRs.out.symm,w2b.trans hbr⟩
theorem dO {w:World} {base:Nat} {e:TypeId} {size n g cap:Nat} {xs:List Value} (h:w.ownsRow base e size (.slice (some ⟨g,0,none⟩) n cap) n xs) (j:Nat) (u:Value):(w.setCell ⟨g,j,none⟩ u).ownsRow base e size (.slice (some ⟨g,0,none⟩) n cap) n (xs.set j u):=by
 refine ⟨by rw[List.length_set];exact h.1,?_⟩;rcases h.2 with ⟨hv,_⟩|⟨g',cap',cur,hv,hb,hg,hn,hc,hs,ht⟩
 ·cases hv
 ·injection hv with h1 h2 h3;injection h1 with h1;injection h1 with h1;subst h1;subst h3;refine .inr ⟨g,cap,cur.setIfInBounds j u,rfl,hb,?_,hn,hc,by simpa using hs,?_⟩
  ·simp[World.setCell,Array.getElem?_modify,hg]
  ·rw[Array.toList_setIfInBounds,List.take_set,ht]
theorem jY (g i:Nat):(⟨g,0,none⟩:Addr).add i=⟨g,i,none⟩:=by unfold Addr.add;split<;>simp_all
theorem Reads.lt {w:World} {A:Option Addr} {n:Nat} {xs:List Value} (h:Reads w 1 A n xs):∀a,A=some a→0<n→a.block<w.heap.size:=fun a ha hn=>by
 obtain ⟨ad,u,e,-,hc⟩:=h.at_ hn;rw[ha] at e;injection e with e;subst e;have:=World.block_lt_of_cell? w _ hc
 rwa [gX] at this
theorem Reads.far {w:World} {size n:Nat} {A:Option Addr} {xs:List Value} (h:Reads w size A n xs) {p:Addr} (hn:∀a,A=some a→0<n→a.block≠p.block) (u:Value):Reads (w.setCell p u) size A n xs:=
 ⟨h.1,fun hk=>by
  obtain ⟨ad,e,hc⟩:=h.2 hk;exact ⟨ad,e,fun j x hx=>by rw[World.cell?_setCell_other w p _ u (fun e'=>by have h1:=hn ad e hk;have h2:=congrArg Addr.block e';rw[gX] at h2;omega)];exact hc j x hx⟩⟩
theorem gF {w:World} {base:Nat} {e:TypeId} {size n:Nat} {v:Value} {xs:List Value} (h:w.ownsRow base e size v n xs) (hn:0<n):∃g cap,v=.slice (some ⟨g,0,none⟩) n cap∧base≤g∧n≤cap:=by
 rcases h.2 with ⟨-,h0⟩|⟨g,cap,cur,rfl,hb,-,hc,-⟩
 ·omega
 ·exact ⟨g,cap,rfl,hb,hc⟩
theorem YX {w:World} {base:Nat} {e:TypeId} {size n g cap:Nat} {xs:List Value} (h:w.ownsRow base e size (.slice (some ⟨g,0,none⟩) n cap) n xs):g<w.heap.size:=by
 rcases h.2 with ⟨hv,-⟩|⟨g',cap',cur,hv,-,hg,-⟩
 ·cases hv
 ·injection hv with h1 h2 h3;injection h1 with h1;injection h1 with h1;subst h1;exact (aIy.1 hg).1
theorem kR {w:World} {base:Nat} {e:TypeId} {size n g cap:Nat} {xs:List Value} (h:w.ownsRow base e size (.slice (some ⟨g,0,none⟩) n cap) n xs):(∀j,j<n*size→∃v,w.cell? ⟨g,j,none⟩=some v)∧∀j,w.frozen? ⟨g,j,none⟩=false:=by
 rcases h.2 with ⟨hv,-⟩|⟨g',cap',cur,hv,-,hg,hn,-,hs,-⟩
 ·cases hv
 ·injection hv with h1 h2 h3;injection h1 with h1;injection h1 with h1;subst h1;subst h3;have hb:Blk w g e cur:=hg;refine ⟨fun j hj => ?_,hb.frozen⟩;have hlt:j<cur.size:=(by have:=Nat.mul_le_mul_right size hn;omega);exact ⟨cur[j],by rw[hb.cell];exact Array.getElem?_eq_getElem hlt⟩
theorem Z7 {W H:Nat} (h1:1≤W) (h2:W≤4000) (h3:1≤H) (h4:H≤4000) (h5:W*H≤1048576):aF (W:Int) (H:Int) (W*H)=0:=by
 have e:=aIG W H;have hs:aM (W:Int) (H:Int)=0:=by
  unfold aM;rw[if_pos (by omega),if_neg (by omega)]
 unfold aF;rw[if_pos hs,if_pos (by omega)]
abbrev Piece:=Nat × Nat
def pS : List Piece → List Piece
 |[]=>[]
 |[p]=>[(p.1,p.2+1)]
 |p :: q :: l=>p :: pS (q :: l)
theorem oG (l:List Piece) (p:Piece):pS (l++[p])=l++[(p.1,p.2+1)]:=by
 induction l with
 |nil=>rfl
 |cons x l ih=>
  cases l with
  |nil=>rfl
  |cons y l=>show x :: pS (y :: l++[p])=_;rw[ih];rfl
def oH (f : Nat → Nat) : Nat → Bool
 |0=>false
 |k+1=>decide (0<f k)
def aD (f : Nat → Nat) : Nat → List Piece
 |0=>[]
 |k+1=>if f k=0 then aD f k else if oH f k=true then pS (aD f k) else aD f k++[(k,1)]
theorem nI (f : Nat → Nat) : ∀ k, (oH f k = true → ∃ l p, aD f k = l ++ [p] ∧ p.1 + p.2 = k) ∧ (oH f k = false → aD f k = [] ∨ ∃ l p, aD f k = l ++ [p] ∧ p.1 + p.2 < k)
 |0=>⟨(fun h=>by cases h),fun _=>Or.inl rfl⟩
 |k+1=>by
  have ih:=nI f k;constructor
  ·intro h;have hf:0<f k:=aIv h;show ∃l p,(if f k=0 then aD f k else if oH f k=true then pS (aD f k) else aD f k++[(k,1)])=l++[p]∧p.1+p.2=k+1;rw[if_neg (by omega)];cases ha:oH f k
   ·rw[if_neg (by simp)];exact ⟨_,_,rfl,rfl⟩
   ·obtain ⟨l,p,e,hp⟩:=ih.1 ha;rw[if_pos rfl,e,oG];exact ⟨l,_,rfl,by show p.1+(p.2+1)=k+1;omega⟩
  ·intro h;have hf:f k=0:=(by have:¬0<f k:=of_decide_eq_false h;omega);show (if f k=0 then aD f k else _)=[]∨∃l p,(if f k=0 then aD f k else _)=l++[p]∧p.1+p.2<k+1;rw[if_pos hf];cases ha:oH f k
   ·rcases ih.2 ha with h2|⟨l,p,e,hp⟩
    ·exact .inl h2
    ·exact .inr ⟨l,p,e,by omega⟩
   ·obtain ⟨l,p,e,hp⟩:=ih.1 ha;exact .inr ⟨l,p,e,by omega⟩
theorem lN : ∀ l : List Piece, (pS l).length = l.length
 |[]=>rfl
 |[_]=>rfl
 |_ :: q :: l=>by show (pS (q :: l)).length+1=_;rw[lN (q :: l)];rfl
theorem kI (f : Nat → Nat) : ∀ k, (aD f k).length ≤ k
 |0=>Nat.le_refl _
 |k+1=>by
  have ih:=kI f k;show (if f k=0 then aD f k else if oH f k=true then pS (aD f k) else aD f k++[(k,1)]).length≤k+1;split
  ·omega
  ·split
   ·rw[lN];omega
   ·rw[aH5];simp;exact ih
theorem kS (f : Nat → Nat) : ∀ k, ∀ p ∈ aD f k, 1 ≤ p.2 ∧ p.1 + p.2 ≤ k
 |0=>fun p hp=>by cases hp
 |k+1=>by
  have ih:=kS f k;intro p hp
  change p∈(if f k=0 then aD f k else if oH f k=true then pS (aD f k) else aD f k++[(k,1)]) at hp
  split at hp
  ·have:=ih p hp;omega
  ·split at hp
   ·rename_i ha
    obtain ⟨l,q,e,hq⟩:=(nI f k).1 ha;rw[e,oG] at hp;have hq2:=ih q (by rw[e];simp);rcases aIj.1 hp with h|h
    ·have:=ih p (by rw[e];exact List.mem_append_left _ h);omega
    ·rw[aIn.1 h];show 1≤q.2+1∧q.1+(q.2+1)≤k+1;omega
   ·rcases aIj.1 hp with h|h
    ·have:=ih p h;omega
    ·rw[aIn.1 h];show 1≤1∧k+1≤k+1;omega
def aZ (H:Nat) (l:List Piece):List Value:=l.flatMap fun p=>[.int .i64 p.1,.int .i64 0,.int .i64 p.2,.int .i64 H]
theorem fV (H:Nat) (a b:List Piece):aZ H (a++b)=aZ H a++aZ H b:=by unfold aZ;rw[aIL]
theorem gY (H:Nat) (l:List Piece):(aZ H l).length=l.length*4:=by
 unfold aZ;induction l with
 |nil=>rfl
 |cons x l ih=>rw[aIM,aH5,ih,aH8];show 4+l.length*4=(l.length+1)*4;omega
theorem iZ {H:Nat} {l:List Piece} {i:Nat} {p:Piece} (h:l[i]? = some p) (j:Nat) (hj:j<4):(aZ H l)[i*4+j]? = ([.int .i64 p.1,.int .i64 0,.int .i64 p.2,.int .i64 H]:List Value)[j]?:=by
 induction l generalizing i with
 |nil=>simp at h
 |cons x l ih=>
  unfold aZ;rw[aIM];rcases i with _|i
  ·simp only[aIq,Option.some.injEq] at h;subst h;rw[aIb (by show 0*4+j<4;omega)];simp
  ·rw[aIa (by show 4≤(i+1)*4+j;omega)];have e:(i+1)*4+j-4=i*4+j:=(by omega);show (aZ H l)[(i+1)*4+j-4]? = _;rw[e];exact ih (by simpa using h)
theorem pV (H:Nat) (l:List Piece) (p:Piece):(aZ H (l++[p])).set (l.length*4+2) (.int .i64 ((p.2:Int)+1))=aZ H (pS (l++[p])):=by
 rw[oG,fV,fV];rw[List.set_append_right _ _ (by rw[gY];omega),gY];rw[show l.length*4+2-l.length*4=2 by omega];rfl
def Res (B:Nat) (w:World) (err:Int) (W H:Nat) (cells:List Value) (a b:Int) (R:Option Addr) (m c:Nat):Prop:=
 (err=0→NPage B w (.agg #[a,b,.slice R m c]) W H cells)∧(err≠0→a=0∧b=0∧R=none∧m=0∧c=0)
theorem Res.bl {B:Nat} {w w':World} {err:Int} {W H:Nat} {cells:List Value} {a b:Int} {R:Option Addr} {m c:Nat} (h:Res B w err W H cells a b R m c) (hb:Bl w w'):Res B w' err W H cells a b R m c:=
 ⟨fun e=>(h.1 e).bl hb,h.2⟩
theorem Res.mono {B B':Nat} {w:World} {err:Int} {W H:Nat} {cells:List Value} {a b:Int} {R:Option Addr} {m c:Nat} (h:Res B w err W H cells a b R m c) (hb:B'≤B):Res B' w err W H cells a b R m c:=
 ⟨fun e=>(h.1 e).mono hb,h.2⟩
theorem Res.zero (B:Nat) (w:World) {err:Int} (W H:Nat) (cells:List Value) (h:err≠0):Res B w err W H cells 0 0 none 0 0:=
 ⟨fun e=>absurd e h,fun _=>⟨rfl,rfl,rfl,rfl,rfl⟩⟩
theorem Res.page {B:Nat} {w:World} {err:Int} {W H c:Nat} {R:Option Addr} {cells:List Value} (h:err=0) (hr:Reads w 1 R (W*H) cells) (hn:∀ad,R=some ad→B≤ad.block):Res B w err W H cells W H R (W*H) c:=
 ⟨fun _=>⟨R,c,rfl,hr,hn⟩,fun e=>absurd h e⟩
theorem MakesPage.bl {P:Program} {k:FuncId} {cap:Array Value} {w w':World} {W H:Nat} {cells:List Value} (h:MakesPage P k cap w W H cells) (hb:Bl w w'):MakesPage P k cap w' W H cells:=
 ⟨h.1,fun wx hx=>h.2 wx (hb.trans hx)⟩
structure Ltr where
 text:List UInt8
 W:Int
 H:Int
 A:Option Addr
 m:Nat
 c:Nat
 bs:List Bool
def Ltr.cells (l:Ltr):List Value:=[.string ⟨l.text.toArray⟩,.int .i64 l.W,.int .i64 l.H,.slice l.A l.m l.c]
def gS (ls:List Ltr):List Value:=ls.flatMap Ltr.cells
theorem oI (ls:List Ltr):(gS ls).length=ls.length*4:=by
 unfold gS;induction ls with
 |nil=>rfl
 |cons l ls ih=>rw[aIM,aH5,ih,aH8];show 4+ls.length*4=(ls.length+1)*4;omega
theorem wK (a b:List Ltr):gS (a++b)=gS a++gS b:=by unfold gS;rw[aIL]
theorem wL {ls:List Ltr} {i:Nat} {l:Ltr} (h:ls[i]? = some l) (j:Nat) (hj:j<4):(gS ls)[i*4+j]? = l.cells[j]?:=by
 induction ls generalizing i with
 |nil=>simp at h
 |cons x ls ih=>
  unfold gS;rw[aIM];rcases i with _|i
  ·simp only[aIq,Option.some.injEq] at h;subst h;rw[aIb (by show 0*4+j<4;omega)];simp
  ·rw[aIa (by show 4≤(i+1)*4+j;omega)];have e:(i+1)*4+j-x.cells.length=i*4+j:=by
    show (i+1)*4+j-4=i*4+j;omega
   rw[e];exact ih (by simpa using h)
def LtrsAt (w:World) (L:Option Addr) (ls:List Ltr):Prop:=Reads w 4 L ls.length (gS ls)∧∀l∈ls,Reads w 1 l.A l.m (l.bs.map .bool)∧l.text.length≤9223372036854775807
theorem LtrsAt.bl {w w':World} {L:Option Addr} {ls:List Ltr} (h:LtrsAt w L ls) (hb:Bl w w'):LtrsAt w' L ls:=⟨h.1.bl hb,fun l hl=>⟨(h.2 l hl).1.bl hb,(h.2 l hl).2⟩⟩
theorem LtrsAt.at_ {w:World} {L:Option Addr} {ls:List Ltr} {i:Nat} {l:Ltr} (h:LtrsAt w L ls) (hi:ls[i]? = some l):∃ad,L=some ad∧w.cell? (ad.add (i*4))=some (.string ⟨l.text.toArray⟩)∧w.cell? ⟨(ad.add (i*4)).block,(ad.add (i*4)).off+1,none⟩=some (.int .i64 l.W) ∧
 w.cell? ⟨(ad.add (i*4)).block,(ad.add (i*4)).off+2,none⟩=some (.int .i64 l.H)∧w.cell? ⟨(ad.add (i*4)).block,(ad.add (i*4)).off+3,none⟩=some (.slice l.A l.m l.c):=by
 have hlt:i<ls.length:=(aH3.1 hi).1;obtain ⟨ad,e,hc⟩:=h.1.2 (by omega);have key:∀j v,j<4→l.cells[j]? = some v→w.cell? ((ad.add (i*4)).add j)=some v:=fun j v hj hv=>by
  rw[dZ];exact hc _ _ (by rw[wL hi j hj];exact hv)
 have k0:=key 0 _ (by omega) rfl;have k1:=key 1 _ (by omega) rfl;have k2:=key 2 _ (by omega) rfl;have k3:=key 3 _ (by omega) rfl;rw[Addr.add_zero'] at k0;rw[Addr.add_succ'] at k1 k2 k3;exact ⟨ad,e,k0,k1,k2,k3⟩
theorem LtrsAt.take {w:World} {L:Option Addr} {ls:List Ltr} (h:LtrsAt w L ls) (i:Nat) (hi:i≤ls.length):LtrsAt w L (ls.take i):=by
 have hl:(ls.take i).length=i:=(by simp;omega);refine ⟨⟨oI _,fun hn => ?_⟩,fun l hm=>h.2 l (List.mem_of_mem_take hm)⟩;obtain ⟨ad,e,hc⟩:=h.1.2 (by omega);refine ⟨ad,e,fun j u hj=>hc j u ?_⟩;have e2:gS ls=gS (ls.take i)++gS (ls.drop i):=(by rw[←wK,aIh]);rw[e2,aIb (aH3.1 hj).1];exact hj
def iJ (l:List UInt8):Bool:=decide (∀b∈l,33≤b.toNat∧b.toNat≤126)&&decide (1≤l.length∧l.length≤4)
def wM (bs:List Bool) (W H:Nat):Bool:=decide (∃x,x<W∧kH bs W H x=0)
def fD (ht:Int) (prev:List (List UInt8)) (l:Ltr):Int:=
 aB [aE (!iJ l.text) 2,aE (decide (l.text∈prev)) 6,aF l.W l.H l.m,aE (l.H != ht) 11,aE (decide (64<l.W)) 4,aE (wM l.bs l.W.toNat l.H.toNat) 2]
def d7 (ht : Int) : List (List UInt8) → List Ltr → Int
 |_,[]=>0
 |prev,l :: ls=>if fD ht prev l=0 then d7 ht (prev++[l.text]) ls else fD ht prev l
def eT (ht gap sp:Int):Bool:=inB ht 1 64&&(inB gap 1 16&&inB sp 1 64)
def eK (nm:Bool) (ht gap sp:Int) (n:Nat):Int:=aB [aE (!nm) 5,aE (!eT ht gap sp) 3,aE (decide (sp≤gap)) 7,aE (decide (n=0)) 9,aE (decide (200<n)) 4]
def bN (nm:Bool) (ht gap sp:Int) (ls:List Ltr):Int:=if eK nm ht gap sp ls.length=0 then d7 ht [] ls else eK nm ht gap sp ls.length
theorem uB {ht:Int} {ls:List Ltr} {i:Nat} {l:Ltr} (h:ls[i]? = some l):d7 ht ((ls.take i).map Ltr.text) (ls.drop i)=if fD ht ((ls.take i).map Ltr.text) l=0 then d7 ht ((ls.take (i+1)).map Ltr.text) (ls.drop (i+1)) else fD ht ((ls.take i).map Ltr.text) l:=by
 have hlt:i<ls.length:=(aH3.1 h).1;have e:ls.drop i=l :: ls.drop (i+1):=by
  rw[aIE hlt]
  congr 1
  exact (aH3.1 h).2
 have e2:ls.take (i+1)=ls.take i++[l]:=(by rw[aIJ,h];rfl);rw[e,e2,aIp];rfl
def vO (cs:List Bool) (W H:Nat) (l:Ltr):Int:=RH (gV cs W H) (gV l.bs l.W.toNat l.H.toNat) W H l.W.toNat l.H.toNat 1
abbrev Best:=List UInt8 × Int × Int
def cD (cs:List Bool) (W H:Nat) (s:Best) (l:Ltr):Best:=
 if l.W-(W:Int) < -2∨2<l.W-(W:Int) then s
 else if s.2.1<0∨vO cs W H l<s.2.1 then (l.text,vO cs W H l,s.2.1)
 else if s.2.2<0∨vO cs W H l<s.2.2 then (s.1,s.2.1,vO cs W H l)
 else s
def cS (cs:List Bool) (W H:Nat) (t0:List UInt8) (ls:List Ltr):Best:=ls.foldl (cD cs W H) (t0,-1,-1)
theorem wN {cs:List Bool} {W H:Nat} {t0:List UInt8} {ls:List Ltr} {i:Nat} {l:Ltr} (h:ls[i]? = some l):cS cs W H t0 (ls.take (i+1))=cD cs W H (cS cs W H t0 (ls.take i)) l:=by
 unfold cS;rw[aIJ,h,List.foldl_append];rfl
theorem wO {W H W' H' r:Nat} {cs bs:List Bool} (hW:W≤4000) (hH:H≤4000) (hW':W'≤4000) (hH':H'≤4000):0≤RH (gV cs W H) (gV bs W' H') W H W' H' r∧RH (gV cs W H) (gV bs W' H') W H W' H' r≤32000000:=by
 have h1:=mM cs W H;have h2:=mM bs W' H';have h3:=lL cs (W*H);have h4:=lL bs (W'*H');have h5:=aIH hW hH;have h6:=aIH hW' hH';have hFm:nH (mC (gV cs W H) (gV bs W' H') W H W' H' r) ((2*r+1)*(2*r+1))≤(JE (gV cs W H) W H+JE (gV bs W' H') W' H') / 2:=CX fun idx aCN=>by
  have e1:idx / (2*r+1)<2*r+1:=Nat.div_lt_of_lt_mul (by omega);have e2:idx % (2*r+1)<2*r+1:=Nat.mod_lt _ (by omega);have h7:R9 (gV cs W H) (gV bs W' H') W H W' H' r (AN r idx) (AO r idx)+2*E9 (gV cs W H) (gV bs W' H') W H W' H' (AN r idx) (AO r idx)=JE (gV cs W H) W H+JE (gV bs W' H') W' H':=by
   unfold AN AO;obtain ⟨a,ha⟩:=aH0 (idx % (2*r+1));obtain ⟨b,hb⟩:=aH0 (idx / (2*r+1));rw[←ha,←hb];rw[←ha] at e2;rw[←hb] at e1;exact FB (rI cs W H) (rI bs W' H') (by omega) (by omega) (by omega) (by omega)
  unfold mC;omega
 unfold RH;omega
theorem CZ {cs:List Bool} {W H:Nat} (t0:List UInt8) (hW:W≤4000) (hH:H≤4000) {ls:List Ltr} (hl:∀l∈ls,l.W≤64∧l.H≤4000):(cS cs W H t0 ls).2.1 = -1∧(cS cs W H t0 ls).2.2 = -1∨(0≤(cS cs W H t0 ls).2.1∧(cS cs W H t0 ls).2.1≤32000000∧-1≤(cS cs W H t0 ls).2.2∧(cS cs W H t0 ls).2.2≤32000000):=by
 have key : ∀ (ls : List Ltr) (s : Best), (∀ l ∈ ls, l.W ≤ 64 ∧ l.H ≤ 4000) → (s.2.1 = -1 ∧ s.2.2 = -1 ∨ (0 ≤ s.2.1 ∧ s.2.1 ≤ 32000000 ∧ -1 ≤ s.2.2 ∧ s.2.2 ≤ 32000000)) →
  ((ls.foldl (cD cs W H) s).2.1 = -1∧(ls.foldl (cD cs W H) s).2.2 = -1∨(0≤(ls.foldl (cD cs W H) s).2.1∧(ls.foldl (cD cs W H) s).2.1≤32000000∧-1≤(ls.foldl (cD cs W H) s).2.2∧(ls.foldl (cD cs W H) s).2.2≤32000000)):=by
  intro ls;induction ls with
  |nil=>intro s _ h;exact h
  |cons l ls ih=>
   intro s hl h;refine ih (cD cs W H s l) (fun x hx=>hl x (List.mem_cons_of_mem _ hx)) ?_;have hll:=hl l (List.mem_cons_self ..);have hr:0≤vO cs W H l∧vO cs W H l≤32000000:=wO hW hH (by omega) (by omega);unfold cD;split
   ·exact h
   ·split
    ·right;show 0≤vO cs W H l∧vO cs W H l≤32000000∧-1≤s.2.1∧s.2.1≤32000000;omega
    ·split
     ·right;show 0≤s.2.1∧s.2.1≤32000000∧-1≤vO cs W H l∧vO cs W H l≤32000000;omega
     ·exact h
 exact key ls _ hl (.inl ⟨rfl,rfl⟩)
theorem SD {cs:List Bool} {W H:Nat} (t0 t1:List UInt8) (ls:List Ltr) (_hW:W≤4000) (_hH:H≤4000) (hl:∀l∈ls,l.W≤64∧l.H≤4000):(cS cs W H t0 ls).2=(cS cs W H t1 ls).2∧(0≤(cS cs W H t0 ls).2.1→(cS cs W H t0 ls).1=(cS cs W H t1 ls).1):=by
 have key:∀(ls:List Ltr) (s u:Best),(∀l∈ls,l.W≤64∧l.H≤4000)→s.2=u.2→(0≤s.2.1→s.1=u.1)→(ls.foldl (cD cs W H) s).2=(ls.foldl (cD cs W H) u).2∧(0≤(ls.foldl (cD cs W H) s).2.1→(ls.foldl (cD cs W H) s).1=(ls.foldl (cD cs W H) u).1):=by
  intro ls;induction ls with
  |nil=>intro s u _ h1 h2;exact ⟨h1,h2⟩
  |cons l ls ih=>
   intro s u hl h1 h2;have hll:=hl l (List.mem_cons_self ..);refine ih _ _ (fun x hx=>hl x (List.mem_cons_of_mem _ hx)) ?_ ?_
   ·unfold cD;rw[h1];split
    ·exact h1
    ·split
     ·rfl
     ·split<;>first|rfl|exact h1
   ·unfold cD;rw[h1];split
    ·intro h;first|exact h2 h|exact h2 (by rw[h1];exact h)
    ·split
     ·intro _;rfl
     ·rename_i hno
      split
      ·intro h;first|exact h2 h|exact h2 (by rw[h1];exact h)
      ·intro h;first|exact h2 h|exact h2 (by rw[h1];exact h)
 exact key ls _ _ hl rfl (fun h=>absurd h (show ¬(0:Int)≤-1 by decide))
def rK (b:Best) (most ht w:Int):Bool:=decide (b.2.1<0∨most*ht*w<b.2.1*1000)
def cF (b:Best) (X W H:Nat) (most ht:Int):List Value:=
 if rK b most ht W=true then [.string ⟨#[63]⟩,.int .i64 X,.int .i64 0,.int .i64 W,.int .i64 H,.int .i64 (-1),.int .i64 (-1)]
 else [.string ⟨b.1.toArray⟩,.int .i64 X,.int .i64 0,.int .i64 W,.int .i64 H,.int .i64 b.2.1,.int .i64 b.2.2]
theorem SE {cs:List Bool} {bW bH:Nat} (t0 t1:List UInt8) (ls:List Ltr) (hW:bW≤4000) (hH:bH≤4000) (hl:∀l∈ls,l.W≤64∧l.H≤4000) (X W H:Nat) (most ht:Int):cF (cS cs bW bH t0 ls) X W H most ht=cF (cS cs bW bH t1 ls) X W H most ht:=by
 obtain ⟨h1,h2⟩:=SD (cs:=cs) t0 t1 ls hW hH hl;have hf:rK (cS cs bW bH t0 ls) most ht W=rK (cS cs bW bH t1 ls) most ht W:=(by unfold rK;rw[h1]);unfold cF;rw[hf];split
 ·rfl
 ·rename_i h
  have h0:0≤(cS cs bW bH t0 ls).2.1:=by
   rw[←hf] at h;unfold rK at h;simp only[decide_eq_true_eq,not_or] at h;omega
  rw[h2 h0,h1]
def dG (X Y BW BH W H:Int):Bool:=decide (0≤X∧X<W∧0≤Y∧Y<H∧1≤BW∧BW≤W-X∧1≤BH∧BH≤H-Y)
def C0 (X Y BW BH W H:Int):Bool:=inB X 0 (wrap64 (W-1))&&(inB Y 0 (wrap64 (H-1))&&(inB BW 1 (wrap64 (W-X))&&inB BH 1 (wrap64 (H-Y))))
theorem o7 {X Y BW BH W H:Int} (hW:1≤W∧W≤4000) (hH:1≤H∧H≤4000):C0 X Y BW BH W H=dG X Y BW BH W H:=by
 have e1:wrap64 (W-1)=W-1:=(by unfold wrap64;omega);have e2:wrap64 (H-1)=H-1:=(by unfold wrap64;omega);rw[Bool.eq_iff_iff];unfold C0 dG;simp only[e1,e2,aIs,aQ,decide_eq_true_eq];constructor
 ·rintro ⟨h1,h2,h3,h4⟩;have e3:wrap64 (W-X)=W-X:=(by unfold wrap64;omega);have e4:wrap64 (H-Y)=H-Y:=(by unfold wrap64;omega);rw[e3] at h3;rw[e4] at h4;omega
 ·rintro ⟨h1,h2,h3,h4,h5⟩;have e3:wrap64 (W-X)=W-X:=(by unfold wrap64;omega);have e4:wrap64 (H-Y)=H-Y:=(by unfold wrap64;omega);rw[e3,e4];omega
theorem lO (X Y BW BH W H:Int) (w:World) :
 Calls Tryz.prog 54 #[.agg #[X,Y,BW,BH],W,H] w fun e w'=>e=.returned (.bool (C0 X Y BW BH W H))∧Bl w w':=by
 unfold C0;cases h1:inB X 0 (wrap64 (W-1))
 case false=>
  go_in
  go_wp2_with (go_at_call 13;refine (eJ _ _ _ _).mono ?_;rintro e w' ⟨rfl,rfl⟩);go_ret;exact ⟨rfl,(Bl.refl _).alloc _⟩
 case true=>
  cases h2:inB Y 0 (wrap64 (H-1))
  case false=>
   go_in
   go_wp2_with (go_at_call 13;refine (eJ _ _ _ _).mono ?_;rintro e w' ⟨rfl,rfl⟩);go_ret;exact ⟨rfl,(Bl.refl _).alloc _⟩
  case true=>
   cases h3:inB BW 1 (wrap64 (W-X))
   case false=>
    go_in
    go_wp2_with (go_at_call 13;refine (eJ _ _ _ _).mono ?_;rintro e w' ⟨rfl,rfl⟩);go_ret;exact ⟨rfl,(Bl.refl _).alloc _⟩
   case true=>
    go_in
    go_wp2_with (go_at_call 13;refine (eJ _ _ _ _).mono ?_;rintro e w' ⟨rfl,rfl⟩);go_ret;exact ⟨by simp,(Bl.refl _).alloc _⟩
theorem mN (X Y BW BH:Int) (W H:Nat) (w:World) (hW:1≤W∧W≤4000) (hH:1≤H∧H≤4000) :
 Calls Tryz.prog 161 #[.agg #[X,Y,BW,BH],W,H] w fun e w'=>e=.returned (.int .i64 (aE (!dG X Y BW BH W H) 13))∧Bl w w':=by
 by_cases iG:0≤X∧X<W∧0≤Y∧Y<H∧1≤BW∧BW≤W-X∧1≤BH∧BH≤H-Y
 ·have e:dG X Y BW BH W H=true:=(by unfold dG;exact aIu iG);rw[e];clear e;obtain ⟨c1,c2,c3,c4,c5,c6,c7,c8⟩:=iG
  go_in
  go_wp2_with fail;go_ret;exact ⟨rfl,(Bl.refl _).alloc _⟩
 ·have e:dG X Y BW BH W H=false:=(by unfold dG;exact aIt iG);rw[e];clear e
  rcases (show BW < 1 ∨ (¬ BW < 1 ∧ BH < 1) ∨ (¬ BW < 1 ∧ ¬ BH < 1 ∧ X < 0) ∨ (¬ BW < 1 ∧ ¬ BH < 1 ∧ ¬ X < 0 ∧ Y < 0) ∨ (¬ BW < 1 ∧ ¬ BH < 1 ∧ ¬ X < 0 ∧ ¬ Y < 0 ∧ (W : Int) ≤ X) ∨ (¬ BW < 1 ∧ ¬ BH < 1 ∧ ¬ X < 0 ∧ ¬ Y < 0 ∧ ¬ (W : Int) ≤ X ∧ (H : Int) ≤ Y) ∨
   (¬BW<1∧¬BH<1∧¬X<0∧¬Y<0∧¬(W:Int)≤X∧¬(H:Int)≤Y∧(W:Int)-X<BW)∨(¬BW<1∧¬BH<1∧¬X<0∧¬Y<0∧¬(W:Int)≤X∧¬(H:Int)≤Y∧¬(W:Int)-X<BW∧(H:Int)-Y<BH) by omega) with
   c1|⟨c1,c2⟩|⟨c1,c2,c3⟩|⟨c1,c2,c3,c4⟩|⟨c1,c2,c3,c4,c5⟩|⟨c1,c2,c3,c4,c5,c6⟩|⟨c1,c2,c3,c4,c5,c6,c7⟩|⟨c1,c2,c3,c4,c5,c6,c7,c8⟩
  all_goals
   clear iG
   go_in
   go_wp2_with fail;go_ret;exact ⟨rfl,(Bl.refl _).alloc _⟩
def fG (W H:Int) (n:Nat) (X Y BW BH:Int):Int:=aB [aF W H n,aE (!dG X Y BW BH W H) 13]
theorem wP {W H:Int} {n:Nat} {X Y BW BH:Int} (h:fG W H n X Y BW BH=0):aF W H n=0∧0≤X∧X<W∧0≤Y∧Y<H∧1≤BW∧BW≤W-X∧1≤BH∧BH≤H-Y:=by
 unfold fG aB at h;split at h
 ·rename_i h0
  refine ⟨h0,?_⟩;cases hi:dG X Y BW BH W H
  ·rw[hi] at h;simp[aB,aE] at h
  ·exact aIv hi
 ·contradiction
theorem nJ (W H:Int) (A:Option Addr) (an ac:Nat) (X Y BW BH:Int) (w:World) :
 Calls Tryz.prog 179 #[.agg #[W,H,.slice A an ac],.agg #[X,Y,BW,BH]] w fun e w'=>e=.returned (.int .i64 (fG W H an X Y BW BH))∧Bl w w':=by
 let w2:=((w).alloc (.cells #[W,H,.slice A an ac] 43)).alloc (.cells #[X,Y,BW,BH] 58);obtain ⟨w2b,w21,w22⟩:=aHP (x:=w2) w _ _ _ _ rfl;have k1:=w21.all3;by_cases hp:aF W H an=0
 ·have e:fG W H an X Y BW BH=aE (!dG X Y BW BH W H) 13:=by
   unfold fG;simp only[aB,if_pos hp];split<;>simp_all
  rw[e];clear e;have hz:=aR (fU hp).1;obtain ⟨W,H,rfl,rfl,rfl,u1,u2,u3⟩:=dQ hp;have hW:1≤W∧W≤4000:=(by omega);have hH:1≤H∧H≤4000:=(by omega);clear hz
  go_in
  go_wp2_with fail;refine (cQ _ _ _ _ _ _).mono ?_;rintro e w3 ⟨rfl,hb3⟩;have k3:=(w21.bl hb3).all3;have k4:=(w22.bl hb3).all4;clear k1;go_wp2_with fail;refine (mN X Y BW BH W H _ hW hH).mono ?_;rintro e w4 ⟨rfl,hb4⟩;go_wp2_with fail;go_ret;exact ⟨rfl,(w2b.trans hb3).trans hb4⟩
 ·have e:fG W H an X Y BW BH=aF W H an:=(by unfold fG;simp only[aB,if_neg hp]);have hq:(aF W H an != 0)=true:=(by simp[hp]);rw[e];clear e hp
  go_in
  go_wp2_with fail;refine (cQ _ _ _ _ _ _).mono ?_;rintro e w3 ⟨rfl,hb3⟩;go_wp2_with fail;go_ret;exact ⟨rfl,w2b.trans hb3⟩
def iU (bs:List Bool) (W X Y x y:Nat):Bool:=pix bs W (X+x) (Y+y)
theorem L8 (p q W H X Y BW BH : Nat) (A : Option Addr) (ac : Nat) (bs : List Bool) (x y : Nat) (w : World) (hp : Blk w p 43 #[W, H, .slice A (W * H) ac]) (hq : Blk w q 58 #[X, Y, BW, BH])
 (hA:Reads w 1 A (W*H) (bs.map .bool)) (hW:W≤4000) (hH:H≤4000) (hx:x<BW) (hy:y<BH) (hX:X+BW≤W) (hY:Y+BH≤H) :
 Calls Tryz.prog 180 #[x,y,.pointer (some ⟨p,0,none⟩),.pointer (some ⟨q,0,none⟩)] w fun e w'=>e=.returned (.bool (iU bs W X Y x y))∧Bl w w':=by
 have kp:=hp.all3;have kq:=hq.all4;have lx:X+x<W:=(by omega);have ly:Y+y<H:=(by omega);obtain ⟨ad,rfl,hc⟩:=hA.place lx ly;have hk:=d8 lx ly;obtain ⟨k,hkk⟩:=aH0 ((Y+y)*W+(X+x));rw[←hkk] at hc hk;have f0:=aIG (Y+y) W;have f1:((Y:Int)+(y:Int))*(W:Int)+(X:Int)+(x:Int)=(k:Int):=(by rw[hkk];push_cast;omega);have f2:(k:Int)<(W:Int)*(H:Int):=(by have:=aIG W H;omega);have f3:(0:Int)≤((Y:Int)+(y:Int))*(W:Int)∧((Y:Int)+(y:Int))*(W:Int)≤16000000:=by
  have:=aIH (show Y+y≤4000 by omega) hW
  push_cast at f0
  omega
 unfold iU;obtain ⟨v,hv⟩:=aH0 (pix bs W (X+x) (Y+y));rw[←hv] at hc ⊢;have Hkk:=aHH hkk;clear hv hkk hA f0
 go_in
 go_wp2_with fail;go_ret;exact ⟨rfl,by first|exact Bl.refl _|exact (Bl.refl _).drew⟩
theorem SF (W H:Int) (A:Option Addr) (an ac:Nat) (bs:List Bool) (X Y BW BH:Int) (w:World) (hA:Reads w 1 A an (bs.map .bool)) :
 Calls Tryz.prog 138 #[.agg #[W, H, .slice A an ac], .agg #[X, Y, BW, BH]] w fun e w' => ∃ a b R m d, e = .returned (.tuple #[.agg #[.int .i64 a, .int .i64 b, .slice R m d], .int .i64 (fG W H an X Y BW BH)]) ∧
  Res w.heap.size w' (fG W H an X Y BW BH) BW.toNat BH.toNat ((fS BW.toNat BH.toNat (iU bs W.toNat X.toNat Y.toNat)).map .bool) a b R m d∧Bl w w':=by
 by_cases he:fG W H an X Y BW BH=0
 ·obtain ⟨hp,c1,c2,c3,c4,c5,c6,c7,c8⟩:=wP he;obtain ⟨W,H,rfl,rfl,rfl,u1,u2,u3⟩:=dQ hp;obtain ⟨X,rfl⟩:=Int.eq_ofNat_of_zero_le c1;obtain ⟨Y,rfl⟩:=Int.eq_ofNat_of_zero_le c3;obtain ⟨BW,rfl⟩:=Int.eq_ofNat_of_zero_le (show 0≤BW by omega);obtain ⟨BH,rfl⟩:=Int.eq_ofNat_of_zero_le (show 0≤BH by omega);have hX:X+BW≤W:=(by omega);have hY:Y+BH≤H:=(by omega);have hsz:BW*BH≤1048576:=aII (aIH (show BW≤W by omega) (show BH≤H by omega)) u3;simp only[aIF];clear c1 c2 c3 c4 c5 c6 c7 c8 hp;let w2:=(((w).alloc (.cells #[W,H,.slice A (W*H) ac] 43)).alloc (.cells #[X,Y,BW,BH] 58)).alloc (.cells #[.int .i64 0,.int .i64 0,.slice none 0 0] 43);obtain ⟨w2b,w21,w22,w23⟩:=aHQ (x:=w2) w _ _ _ _ _ _ rfl;have k1:=w21.all3;have k2:=w22.all4;have hA2:=hA.bl w2b;have HA:=aHH hA2;clear hA hA2
  go_in
  go_wp2_with fail;refine (nJ _ _ _ _ _ _ _ _ _ _).mono ?_;rintro e w3 ⟨rfl,hb3⟩;have k1:=(w21.bl hb3).all3;have k2:=(w22.bl hb3).all4;have hle:=w2b.trans hb3;have hP:Paints Tryz.prog 180 #[.pointer (some ⟨w.heap.size,0,none⟩),.pointer (some ⟨w.heap.size+1,0,none⟩)] Value.bool w3 BW BH (iU bs W X Y):=
   ⟨fT Tryz.func180 (by kernel_rfl) rfl,fun wx x y hb hx hy=>L8 _ _ W H X Y BW BH A ac bs x y wx ((w21.bl hb3).bl hb) ((w22.bl hb3).bl hb) ((HA.out.bl hb3).bl hb) u1 u2 hx hy hX hY⟩
  have HP:=aHH hP;clear hP;go_wp2_with fail;refine (WD BW BH _ _ _ _ (by omega) (by omega) hsz HP.out).mono ?_;rintro e w6 ⟨r,rfl,hpg,hb6⟩;have k3:=(w23.bl (hb3.trans hb6)).all3;have ZG:=hle.trans hb6;have aDv:=(w23.bl hb3).lt;obtain ⟨R,rc,rfl,hR,hRn⟩:=hpg;have VG:∀ad,R=some ad→w.heap.size+3≤ad.block:=fun ad h=>(by have:=hRn ad h;omega);have HR:=aHH hR;have HRn:=aHH VG;clear hR hRn VG;go_wp2_with fail;refine aIx (v:=.tuple #[.agg #[BW,BH,.slice R (BW*BH) rc],.int .i64 0]) (by simp[results,Tryz.results138,go_sem,k3]) rfl ⟨_,_,R,_,rc,by rw[he],Res.page he ?_ (fun ad h=>by have:=HRn.out ad h;omega),?_⟩
  ·exact ((HR.out.store HRn.out (by simp) _).store HRn.out (by simp) _).store HRn.out (by simp) _
  ·exact (((ZG.setCell (by simp;omega) _).setCell (by simp;omega) _).setCell (by simp;omega) _)
 ·have hq:(fG W H an X Y BW BH != 0)=true:=(by simp[he]);have He:=aHH he;clear he hA;let w2:=(((w).alloc (.cells #[W,H,.slice A an ac] 43)).alloc (.cells #[X,Y,BW,BH] 58)).alloc (.cells #[.int .i64 0,.int .i64 0,.slice none 0 0] 43);obtain ⟨w2b,w21,w22,w23⟩:=aHQ (x:=w2) w _ _ _ _ _ _ rfl;have k1:=w21.all3;have k2:=w22.all4
  go_in
  go_wp2_with fail;refine (nJ _ _ _ _ _ _ _ _ _ _).mono ?_;rintro e w3 ⟨rfl,hb3⟩;have k3:=(w23.bl hb3).all3;go_wp2_with fail;refine aIx (v:=.tuple #[.agg #[.int .i64 0,.int .i64 0,.slice none 0 0],.int .i64 (fG W H an X Y BW BH)]) (by simp[results,Tryz.results138,go_sem,k3]) rfl ⟨_,_,_,_,_,rfl,Res.zero _ _ _ _ _ He.out,?_⟩;exact ((((w2b.trans hb3).setCell (by simp;omega) _).setCell (by simp;omega) _).setCell (by simp;omega) _)
theorem Z8 (W H:Int) (A:Option Addr) (an ac:Nat) (bs:List Bool) (X Y BW BH:Int) (w:World) (hA:Reads w 1 A an (bs.map .bool)) :
 Calls Tryz.prog 135 #[.agg #[W, H, .slice A an ac], .agg #[X, Y, BW, BH]] w fun e w' => ∃ n : Nat, e = .returned (.tuple #[.int .i64 n, .int .i64 (fG W H an X Y BW BH)]) ∧
  (fG W H an X Y BW BH≠0→n=0)∧(fG W H an X Y BW BH=0→n=EW bs W.toNat X.toNat Y.toNat BW.toNat BH.toNat)∧Bl w w':=by
 let w2:=((w).alloc (.cells #[W,H,.slice A an ac] 43)).alloc (.cells #[X,Y,BW,BH] 58);obtain ⟨w2b,w21,w22⟩:=aHP (x:=w2) w _ _ _ _ rfl;have k1:=w21.all3;have k2:=w22.all4;have hA2:=hA.bl w2b;have HA:=aHH hA2;clear hA hA2
 go_in
 go_wp2_with fail;refine (SF W H A an ac bs X Y BW BH _ HA.out).mono ?_;rintro e w3 ⟨a,b,R,m,d,rfl,vF,hb3⟩;have aDw:∃xs:List Bool,Reads w3 1 R m (xs.map .bool)∧m≤1048576∧(fG W H an X Y BW BH≠0→m=0)∧(fG W H an X Y BW BH=0→jQ (fun i=>b1 (xs.getD i false)) m=EW bs W.toNat X.toNat Y.toNat BW.toNat BH.toNat):=by
  by_cases he:fG W H an X Y BW BH=0
  ·obtain ⟨R',c',e',hr,_⟩:=vF.1 he;simp only[Value.agg.injEq,List.cons.injEq,Value.slice.injEq,and_true,Array.mk.injEq] at e';obtain ⟨_,_,rfl,rfl,rfl⟩:=e';obtain ⟨hp,c1,c2,c3,c4,c5,c6,c7,c8⟩:=wP he;obtain ⟨W,H,rfl,rfl,rfl,u1,u2,u3⟩:=dQ hp;refine ⟨_,hr,?_,fun h=>absurd he h,fun _ => ?_⟩
   ·exact aII (aIH (show BW.toNat≤W by omega) (show BH.toNat≤H by omega)) u3
   ·rw[WH];rfl
  ·obtain ⟨_,_,rfl,rfl,_⟩:=vF.2 he;exact ⟨[],Reads.none_,by omega,fun _=>rfl,fun h=>absurd h he⟩
 obtain ⟨xs,hxs,hm,hz1,hz2⟩:=aDw;have b3:=Blk.new w3 43 #[a,b,.slice R m d];have hb4:Bl w2 (w3.alloc (.cells #[a,b,.slice R m d] 43)):=hb3.alloc _;have aFj:=hxs.bl ((Bl.refl w3).alloc (.cells #[a,b,.slice R m d] 43));obtain ⟨Hxs,Hz1,Hz2⟩:=aHI aFj hz1 hz2;clear vF hxs aFj hz1 hz2 k1 k2;have k3:=b3.all3;go_wp2_with fail
 go_loop [8,20] (fun n u=>∃i:Nat,i≤m∧u=.int .i64 i∧n=.int .i64 ((jQ (fun i=>b1 (xs.getD i false)) i:Nat):Int)) (fun _ u=>m-(intOf u).toNat)
 case atStart=>exact ⟨0,Nat.zero_le _,rfl,rfl⟩
 case round=>
  clear k3;obtain ⟨i,hi,rfl,rfl⟩:=hrel;by_cases hlt:i<m
  ·obtain ⟨ad,ua,eA,hu,hca⟩:=Hxs.out.at_ hlt;have hua:ua=.bool (xs.getD i false):=by
    simp only[aId,Option.map_eq_some_iff] at hu;obtain ⟨b,hb1,hb2⟩:=hu;rw[←hb2,List.getD,hb1];rfl
   clear hu;subst hua eA;have hst:jQ (fun i=>b1 (xs.getD i false)) (i+1)=jQ (fun i=>b1 (xs.getD i false)) i+b1 (xs.getD i false):=rfl;have hle:jQ (fun i=>b1 (xs.getD i false)) i≤i*1:=mB (fun _=>cAb _) i;obtain ⟨n,hn⟩:=aH0 (jQ (fun i=>b1 (xs.getD i false)) i);obtain ⟨va,hva⟩:=aH0 (xs.getD i false);rw[←hn] at hst hle ⊢;rw[←hva] at hst hca;have Hst:=aHH hst;clear hn hva hst;cases va
   all_goals
    go_wp2_with fail;exact ⟨⟨i+1,hlt,by go_num,by rw[Hst.out];simp[b1]⟩,by simp[intOf];omega⟩
  ·obtain rfl:i=m:=(by omega);go_wp2_with fail;refine aIx (v:=.tuple #[.int .i64 ((jQ (fun i=>b1 (xs.getD i false)) i:Nat):Int),.int .i64 (fG W H an X Y BW BH)]) (by simp[results,Tryz.results135,go_sem]) rfl ⟨_,rfl,fun h => ?_,Hz2.out,w2b.trans hb4⟩;rw[Hz1.out h];rfl
theorem JL (xs ys:List Int) (hl:xs.length=ys.length) (h:∀j,j<xs.length→xs[j]? = ys[j]?):xs=ys:=by
 apply List.ext_getElem?;intro i;rcases Nat.lt_or_ge i xs.length with hi|hi
 ·exact h i hi
 ·rw[aIC hi,aIC (by omega)]
theorem rL (A B:Option Addr) (c d:Nat) (xs ys:List Int) (w:World) (hx:Reads w 1 A xs.length (xs.map (.int .i64))) (hy:Reads w 1 B ys.length (ys.map (.int .i64))) (hl:xs.length≤1099511627776) :
 Calls Tryz.prog 22 #[.slice A xs.length c,.slice B ys.length d] w fun e w'=>e=.returned (.bool (decide (xs=ys)))∧Bl w w':=by
 by_cases cT:xs.length=ys.length
 ·have hne:((xs.length:Int) != (ys.length:Int))=false:=(by simp[cT]);have aGv:(xs.length != ys.length)=false:=(by simp[cT]);have aAA:=aHH cT;clear cT
  go_in
  go_wp2
  go_loopw [13] (fun v wr=>∃k:Nat,k≤xs.length∧v=.int .i64 k∧Hid (∀j,j<k→xs[j]? = ys[j]?)∧Bl w wr) (fun v _=>xs.length-(intOf v).toNat);case atStart=>exact ⟨0,Nat.zero_le _,rfl,fun j hj=>absurd hj (by omega),Bl.refl _⟩
  case round=>
   obtain ⟨k,hk,rfl,hz,hbr⟩:=hrel;by_cases hlt:k<xs.length
   ·have aDx:k<ys.length:=(by have:=aAA.out;omega);obtain ⟨ad,u,rfl,hu,hc⟩:=(hx.bl hbr).at_ hlt;obtain ⟨bd,t,rfl,ht,hd⟩:=(hy.bl hbr).at_ aDx;have hu':u=.int .i64 xs[k]:=(by simpa [hlt] using hu.symm);have ht':t=.int .i64 ys[k]:=(by simpa [aDx] using ht.symm);subst hu' ht';have Hx:=aHH hx;have Hy:=aHH hy;clear hx hy hu ht;have i1:(k:Int)<(xs.length:Int):=(by omega);have i2:(k:Int)<(ys.length:Int):=(by omega);by_cases h0:xs[k]=ys[k]
    ·have hb:(xs[k] != ys[k])=false:=(by simp[h0]);have hzz:Hid (∀j,j<k+1→xs[j]? = ys[j]?):=fun j hj=>by
      rcases Nat.lt_or_ge j k with h|h
      ·exact hz.out j h
      ·obtain rfl:j=k:=(by omega);simp[hlt,aDx,h0]
     have H0:=aHH h0;clear h0
     go_wp2
     refine aHZ [aHX 0,aHX 1,aHX 2,aHX 3,aHX 4,aHX 5,aHX 6,aHX 7,aHX 8] (by kernel_rfl) ?_
     iterate 2
      apply Flow.mv _ rfl
      ·intro a b;simp only[sqA,Act.eval,sqC];exact b
     iterate 2
      apply Flow.calm2 _ _ rfl rfl
      ·intro a b c d;obtain ⟨e,f⟩:=b.rule;go_simp;(try go_ints);exact d
      ·intro a b;simp only[sqA];exact b
     iterate 2
      apply Flow.mv _ rfl
      ·intro a b;simp only[sqA,Act.eval,sqC];exact b
     iterate 3
      apply Flow.calm2 _ _ rfl rfl
      ·intro a b c d;obtain ⟨e,f⟩:=b.rule;go_simp;(try go_ints);exact d
      ·intro a b;simp only[sqA];exact b
     refine Flow.done ?_
     go_wp2
     exact ⟨⟨k+1,hlt,by go_num,hzz,hbr.drew⟩,by simp[intOf];omega⟩
    ·have hb:(xs[k] != ys[k])=true:=(by simp[h0]);have hf:¬xs=ys:=fun e=>h0 (by subst e;rfl);have H0:=aHH hf;clear h0 hf
     go_wp2
     refine aHZ [aHX 0,aHX 1,aHX 2,aHX 3,aHX 4,aHX 5,aHX 6,aHX 7,aHX 8] (by kernel_rfl) ?_
     iterate 2
      apply Flow.mv _ rfl
      ·intro a b;simp only[sqA,Act.eval,sqC];exact b
     iterate 2
      apply Flow.calm2 _ _ rfl rfl
      ·intro a b c d;obtain ⟨e,f⟩:=b.rule;go_simp;(try go_ints);exact d
      ·intro a b;simp only[sqA];exact b
     iterate 2
      apply Flow.mv _ rfl
      ·intro a b;simp only[sqA,Act.eval,sqC];exact b
     iterate 3
      apply Flow.calm2 _ _ rfl rfl
      ·intro a b c d;obtain ⟨e,f⟩:=b.rule;go_simp;(try go_ints);exact d
      ·intro a b;simp only[sqA];exact b
     refine Flow.done ?_
     go_wp2
     go_ret;exact ⟨aS (by simp[H0.out]),hbr.drew⟩
   ·have hf:xs=ys:=JL xs ys aAA.out (fun j hj=>hz.out j (by omega));have Hf:=aHH hf;clear hf;have Hx:=aHH hx;have Hy:=aHH hy;clear hx hy
    go_wp2
    go_ret;exact ⟨aS (by simp[Hf.out]),hbr⟩
 ·have hne:((xs.length:Int) != (ys.length:Int))=true:=(by simp;omega);have aGv:(xs.length != ys.length)=true:=(by simp;omega);have hf:¬xs=ys:=fun e=>cT (by subst e;rfl);have Hf:=aHH hf;clear cT hx hy hf
  go_in
  go_wp2
  go_ret;exact ⟨aS (by simp[Hf.out]),Bl.refl _⟩
end Go.Proofs.YtllefinciimffaaGreatDoor
