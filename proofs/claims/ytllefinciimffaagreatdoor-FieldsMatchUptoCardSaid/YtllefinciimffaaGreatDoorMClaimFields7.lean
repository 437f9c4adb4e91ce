import Derived.Test.YtllefinciimffaaGreatDoorMClaimFields5
import Derived.Test.YtllefinciimffaaGreatDoorMClaimFields6
set_option maxHeartbeats 20000000
set_option maxRecDepth 100000
namespace Go.Proofs.YtllefinciimffaaGreatDoor
open Go.RowKit
theorem Blk.all5 {w:World} {g:Nat} {t:TypeId} {x y z u v:Value} (h:Blk w g t #[x,y,z,u,v]):w.cell? ⟨g,0,none⟩=some x∧w.cell? ⟨g,1,none⟩=some y∧w.cell? ⟨g,2,none⟩=some z∧w.cell? ⟨g,3,none⟩=some u∧w.cell? ⟨g,4,none⟩=some v∧∀i,w.frozen? ⟨g,i,none⟩=false:=⟨h.cell 0,h.cell 1,h.cell 2,h.cell 3,h.cell 4,h.frozen⟩
theorem tD (e1 e2 e3 e4 e5:Int) (g:Nat) (w:World) (h:Blk w g 27 #[e1,e2,e3,e4,e5]) :
 Calls Tryz.prog 20 #[.slice (some ⟨g,0,none⟩) 5 5] w fun e w'=>e=.returned (.int .i64 (aB [e1,e2,e3,e4,e5]))∧w=w':=
 rC (some ⟨g,0,none⟩) 5 [e1,e2,e3,e4,e5] w (h.reads 5 1 rfl) (by simp)
theorem pZ (a b:List Int):aB (a++b)=if aB a=0 then aB b else aB a:=by
 induction a with
 |nil=>simp[aB]
 |cons x a ih=>
  show (if x=0 then aB (a++b) else x)=_;by_cases h:x=0
  ·rw[if_pos h,ih];show _=if (if x=0 then aB a else x)=0 then _ else (if x=0 then aB a else x);rw[if_pos h]
  ·rw[if_neg h];show _=if (if x=0 then aB a else x)=0 then _ else (if x=0 then aB a else x);rw[if_neg h,if_neg h]
def ST (prev:List (List UInt8)) (l:Ltr):Int:=aB [aE (!iJ l.text) 2,aE (decide (l.text∈prev)) 6,aF l.W l.H l.m]
def aBx (ht:Int) (l:Ltr):Int:=aB [aE (l.H != ht) 11,aE (decide (64<l.W)) 4,aE (wM l.bs l.W.toNat l.H.toNat) 2]
theorem oQ (ht:Int) (prev:List (List UInt8)) (l:Ltr):fD ht prev l=if ST prev l=0 then aBx ht l else ST prev l:=
 pZ [aE (!iJ l.text) 2,aE (decide (l.text∈prev)) 6,aF l.W l.H l.m] _
theorem OS {prev:List (List UInt8)} {l:Ltr} (h:ST prev l=0):aF l.W l.H l.m=0:=by
 unfold ST at h;have h2:=pZ [aE (!iJ l.text) 2,aE (decide (l.text∈prev)) 6] [aF l.W l.H l.m];rw[show [aE (!iJ l.text) 2,aE (decide (l.text∈prev)) 6]++[aF l.W l.H l.m]=[aE (!iJ l.text) 2,aE (decide (l.text∈prev)) 6,aF l.W l.H l.m] from rfl,h] at h2;split at h2
 ·simp only[aB] at h2;by_cases h3:aF l.W l.H l.m=0
  ·exact h3
  ·rw[if_neg h3] at h2;exact h2.symm
 ·rename_i h3;exact absurd h2.symm h3
theorem zO (b:Nat) (l y:Ltr) (w:World) (hb:Blk w b 148 #[l.text,l.W,l.H,.slice l.A l.m l.c]) :
 Calls Tryz.prog 90 #[y.val,.pointer (some ⟨b,0,none⟩)] w fun e w'=>e=.returned (.bool (decide (y.text=l.text)))∧Bl w w':=by
 have k1:=hb.all4;have hlt:=hb.lt;unfold Ltr.val;by_cases he:y.text=l.text
 ·rw[aIu he]
  go_in
  go_wp2_with fail;go_ret;exact ⟨by simp[he],(Bl.refl _).alloc _⟩
 ·rw[aIt he]
  go_in
  go_wp2_with fail;go_ret;exact ⟨by simp[he],(Bl.refl _).alloc _⟩
theorem Blk.all7 {w:World} {g:Nat} {t:TypeId} {a b c d e f h:Value} (k:Blk w g t #[a,b,c,d,e,f,h]):w.cell? ⟨g,0,none⟩=some a∧w.cell? ⟨g,1,none⟩=some b∧w.cell? ⟨g,2,none⟩=some c∧w.cell? ⟨g,3,none⟩=some d∧w.cell? ⟨g,4,none⟩=some e∧w.cell? ⟨g,5,none⟩=some f∧w.cell? ⟨g,6,none⟩=some h∧∀i,w.frozen? ⟨g,i,none⟩=false:=
 ⟨k.cell 0,k.cell 1,k.cell 2,k.cell 3,k.cell 4,k.cell 5,k.cell 6,k.frozen⟩
theorem aAa (nm : List UInt8) (ht gap sp : Int) (L : Option Addr) (c : Nat) (ls : List Ltr) (W H X bw : Nat) (A : Option Addr) (ac : Nat) (bs : List Bool) (most : Int) (w : World) (hL : LtrsAt w L ls) (hA : Reads w 1 A (W * H) (bs.map .bool))
 (hW:W≤4000) (hH:1≤H∧H≤4000) (hWH:W*H≤1048576) (hX:X+bw≤W) (hbw:1≤bw) (hls:∀l∈ls,aF l.W l.H l.m=0∧l.W≤64) (hn:ls.length≤200) (hm:0≤most∧most≤1000) (hht:1≤ht∧ht≤64) :
 Calls Tryz.prog 182 #[.agg #[nm,ht,gap,sp,.slice L ls.length c],.agg #[W,H,.slice A (W*H) ac],.agg #[X,.int .i64 0,bw,H],most] w fun e w'=>
  e=.returned (.agg (cF (cS (fS bw H (iU bs W X 0)) bw H [] ls) X bw H most ht).toArray)∧Bl w w':=by
 let w4:=((((w).alloc (.cells #[nm,ht,gap,sp,.slice L ls.length c] 46)).alloc (.cells #[W,H,.slice A (W*H) ac] 43)).alloc (.cells #[X,.int .i64 0,bw,H] 58)).alloc (.cells #[.string ⟨#[]⟩,.int .i64 0,.int .i64 0,.int .i64 0,.int .i64 0,.int .i64 0,.int .i64 0] 157);obtain ⟨w4b,w41,w42,w43,w44⟩:=aHR (x:=w4) w _ _ _ _ _ _ _ _ rfl;have lw4:w4.heap.size=w.heap.size+4:=(by simp[w4]);have HL:=aHH (hL.bl w4b);have hpz:aF (W:Int) (H:Int) (W*H)=0:=Z7 (by omega) hW hH.1 hH.2 hWH;have hce:fG (W:Int) (H:Int) (W*H) (X:Int) 0 (bw:Int) (H:Int)=0:=by
  unfold fG;rw[hpz];have hin:dG (X:Int) 0 (bw:Int) (H:Int) (W:Int) (H:Int)=true:=aIu (by omega);rw[hin];rfl
 have hct:=SF (W:Int) (H:Int) A (W*H) ac bs (X:Int) 0 (bw:Int) (H:Int) w4 (hA.bl w4b);rw[hce] at hct;simp only[aIF] at hct;have Hct:=aHH hct;have HLs:=aHH hls;have k2:=w42.all3;have k3:=w43.all4;clear hct hce hpz hA hL hls
 go_in
 go_wp2_with fail;refine Hct.out.mono ?_;rintro e w6 ⟨ca,cb,cR,cm,cd,rfl,vF,hb6⟩;clear_value w4;obtain ⟨R',rc',e',hR,-⟩:=vF.1 rfl;injection e' with e';simp only[Array.mk.injEq,List.cons.injEq,Value.int.injEq,Value.slice.injEq,true_and,and_true] at e';obtain ⟨rfl,rfl,rfl,rfl,rfl⟩:=e';obtain ⟨cs,hcs⟩:=aH0 (fS bw H (iU bs W X 0));have hR0:Reads w6 1 cR (bw*H) (cs.map .bool):=(by rw[hcs];exact hR);obtain ⟨w7,hw7⟩:=aH0 (w6.alloc (.cells #[bw,H,.slice cR (bw*H) cd] 43));obtain ⟨q,hq⟩:=aH0 w6.heap.size;have bQ:=aHW hw7 hq;have RN:=aHU hw7;have hb7:=hb6.trans RN;have HR:=aHH (hR0.bl RN);have HCs:=aHH hcs;clear vF hR hR0 hcs k2 k3 Hct;go_upto_region 2 with fail;rw[←hw7,←hq];clear hw7 hq;have k3:=(w43.bl hb7).all4;obtain ⟨w8,hw8⟩:=aH0 (w7.alloc (.cells #[.string ⟨#[]⟩,X,.int .i64 0,bw,H,.int .i64 (-1),.int .i64 (-1)] 157));obtain ⟨o,ho⟩:=aH0 w7.heap.size;have bO:=aHW hw8 ho;have aBe:=aHU hw8;have ho7:w7.heap.size≤o:=(by omega);have HO:=aHH ho;clear ho;go_upto_region 3 with fail;rw[←hw8,←HO.out];clear hw8 k3;have k1:=(w41.bl (hb7.trans aBe)).all5;go_wp2_with fail;go_loopw [27] (fun u wr=>∃(i:Nat) (t:List UInt8) (d1 d2:Int),i≤ls.length∧u=.int .i64 i∧Bl w7 wr∧cS cs bw H [] (ls.take i)=(t,d1,d2)∧Blk wr o 157 #[t,X,.int .i64 0,bw,H,d1,d2]) (fun u _=>ls.length-(RowKit.intOf u).toNat);case atStart=>exact ⟨0,[],-1,-1,Nat.zero_le _,rfl,aBe,rfl,bO⟩
 case round=>
  clear k1 bO aBe;obtain ⟨i,t,d1,d2,hi,rfl,hbr,qX,hbo⟩:=hrel;have q9:=CZ (cs:=cs) (W:=bw) (H:=H) [] (by omega) hH.2 (ls:=ls.take i) (fun l hl=>by
   obtain ⟨h1,h2⟩:=HLs.out l (List.mem_of_mem_take hl);obtain ⟨W',H',e1,e2,-,-,h4,-⟩:=dQ h1;exact ⟨h2,by omega⟩)
  rw[qX] at q9;have AC:d1 = -1∧d2 = -1∨(0≤d1∧d1≤32000000∧-1≤d2∧d2≤32000000):=q9;have HBe:=aHH qX;clear qX q9;have k3:=(w43.bl (hb7.trans hbr)).all4;have k9:=(bQ.bl hbr).all3;by_cases hlt:i<ls.length
  ·have hg:ls[i]? = some ls[i]:=aH2 hlt;obtain ⟨l,hl⟩:=aH0 (ls[i]);rw[←hl] at hg;have hbs:=wN (cs:=cs) (W:=bw) (H:=H) (t0:=[]) hg;rw[HBe.out] at hbs;obtain ⟨hlz,aDH⟩:=HLs.out l (List.mem_of_getElem? hg);obtain ⟨adl,rfl,j1,j2,j3,j4⟩:=(HL.out.bl (hb7.trans hbr)).at_ hg;have hlA:=(HL.out.2 l (List.mem_of_getElem? hg)).1;obtain ⟨lW,lH,elW,elH,elm,hlW,hlH,-⟩:=dQ hlz;rw[elm] at hlA j4;rw[elW] at j2 aDH;rw[elH] at j3;have VH:cD cs bw H (t,d1,d2) l=if (lW:Int)-(bw:Int) < -2∨2<(lW:Int)-(bw:Int) then (t,d1,d2) else if d1<0∨vO cs bw H l<d1 then (l.text,vO cs bw H l,d1) else if d2<0∨vO cs bw H l<d2 then (t,d1,vO cs bw H l) else (t,d1,d2):=by
    unfold cD;rw[elW]
   rw[VH] at hbs;have N1:vO cs bw H l=RH (gV cs bw H) (gV l.bs lW lH) bw H lW lH 1:=(by unfold vO;rw[elW,elH];rfl);have hfr:=wO (W:=bw) (H:=H) (W':=lW) (H':=lH) (r:=1) (cs:=cs) (bs:=l.bs) (by omega) hH.2 hlW hlH;rw[←N1] at hfr;have hd:=fun wx (hx:Bl w7 wx)=>FF bw H lW lH 1 cR l.A cd l.c cs l.bs wx (HR.out.bl hx) (hlA.bl (hb7.trans hx)) (by omega) hH.2 hlW hlH (by omega);rw[←N1] at hd;obtain ⟨d,hdd⟩:=aH0 (vO cs bw H l);rw[←hdd] at hbs hd hfr;have hd':∀wx,Bl w7 wx→Calls Tryz.prog 159 #[.agg #[bw,H,.slice cR (bw*H) cd],.agg #[lW,lH,.slice l.A (lW*lH) l.c],.int .i64 1] wx fun e w'=>e=.returned (.int .i64 d)∧Bl wx w':=hd;have Hd:=aHH hd';have HBs:=aHH hbs;clear hd hd' hbs VH N1 hdd hlz hlA elW elH elm hg hl;go_upto_region 6 with fail;obtain ⟨w9,hw9⟩:=aH0 (wr.alloc (.cells #[.string ⟨l.text.toArray⟩,lW,lH,.slice l.A (lW*lH) l.c] 148));obtain ⟨p,hp⟩:=aH0 wr.heap.size;have b9:=aHW hw9 hp;have aFl:=aHU hw9;have hop:¬(o=p):=(by have:=hbo.lt;omega);rw[←hw9,←hp];clear hw9 hp j1 j2 j3 j4 k3 k9;have hb9:=hbr.trans aFl;have k3:=(w43.bl (hb7.trans hb9)).all4;have k9:=(bQ.bl hb9).all3;have kp:=b9.all4;have aDI:=hbo.bl aFl;by_cases c1:(lW:Int)-(bw:Int) < -2
   ·have HN:=aHH (HBs.out.trans (if_pos (.inl c1)));go_wp2_with fail;exact ⟨⟨i+1,t,d1,d2,hlt,by go_num,hb9,HN.out,aDI⟩,by simp[RowKit.intOf]<;>omega⟩
   ·by_cases c2:2<(lW:Int)-(bw:Int)
    ·have HN:=aHH (HBs.out.trans (if_pos (.inr c2)));go_wp2_with fail;exact ⟨⟨i+1,t,d1,d2,hlt,by go_num,hb9,HN.out,aDI⟩,by simp[RowKit.intOf]<;>omega⟩
    ·have HB2:=aHH (HBs.out.trans (if_neg (by omega)));go_wp2_with fail;refine (Hd.out _ hb9).mono ?_;rintro e w10 ⟨rfl,aAC⟩;have ER:=hb9.trans aAC;have Q8:=aDI.bl aAC;have ko:=Q8.all7;have kp:=b9.bl aAC |>.all4;clear k3 k9;have ho':w7.heap.size≤o:=ho7;by_cases c3:d1<0
     ·have HN:=aHH (HB2.out.trans (if_pos (.inl c3)));have hd2:d2=d1:=(by omega);go_wp2_with fail;exact ⟨⟨i+1,l.text,d,d1,hlt,by go_num,(ER.setCell ho' _).setCell ho' _,HN.out,by rw[←hd2];exact (Q8.set_ 0 _).set_ 5 _⟩,by simp[RowKit.intOf]<;>omega⟩
     ·by_cases c4:d<d1
      ·have HN:=aHH (HB2.out.trans (if_pos (.inr c4)));go_wp2_with fail;exact ⟨⟨i+1,l.text,d,d1,hlt,by go_num,((ER.setCell ho' _).setCell ho' _).setCell ho' _,HN.out,((Q8.set_ 6 _).set_ 0 _).set_ 5 _⟩,by simp[RowKit.intOf]<;>omega⟩
      ·have HB3:=aHH (HB2.out.trans (if_neg (by omega)));by_cases c5:d2<0
       ·have HN:=aHH (HB3.out.trans (if_pos (.inl c5)));go_wp2_with fail;exact ⟨⟨i+1,t,d1,d,hlt,by go_num,ER.setCell ho' _,HN.out,Q8.set_ 6 _⟩,by simp[RowKit.intOf]<;>omega⟩
       ·by_cases c6:d<d2
        ·have HN:=aHH (HB3.out.trans (if_pos (.inr c6)));go_wp2_with fail;exact ⟨⟨i+1,t,d1,d,hlt,by go_num,ER.setCell ho' _,HN.out,Q8.set_ 6 _⟩,by simp[RowKit.intOf]<;>omega⟩
        ·have HN:=aHH (HB3.out.trans (if_neg (by omega)));go_wp2_with fail;exact ⟨⟨i+1,t,d1,d2,hlt,by go_num,ER,HN.out,Q8⟩,by simp[RowKit.intOf]<;>omega⟩
  ·obtain rfl:i=ls.length:=(by omega);have qX:=HBe.out;rw[aH9] at qX;have ko:=hbo.all7;have k1:=(w41.bl (hb7.trans hbr)).all5;have kz:=(w44.bl (hb7.trans hbr)).all7;have hoz:¬(o=w.heap.size+1+1+1):=(by have:=hb7.le;omega);have m1:=Int.mul_nonneg hm.1 (show 0≤ht by omega);have m2:most*ht≤64000:=Int.le_trans (Int.mul_le_mul hm.2 hht.2 (by omega) (by omega)) (by decide);have m3:=Int.mul_nonneg m1 (show (0:Int)≤(bw:Int) by omega);have m4:most*ht*(bw:Int)≤256000000:=Int.le_trans (Int.mul_le_mul m2 (show (bw:Int)≤4000 by omega) (by omega) (by omega)) (by decide);have HBt:=aHH qX;clear qX k9 HBe;by_cases c1:d1<0
   ·have Hv:=aHH (show cF (cS cs bw H [] ls) X bw H most ht=[.string ⟨#[63]⟩,.int .i64 X,.int .i64 0,.int .i64 bw,.int .i64 H,.int .i64 (-1),.int .i64 (-1)] by
     rw[HBt.out];unfold cF rK;rw[if_pos (aIu (.inl c1))])
    go_wp2_with fail;try simp only[Exit.then]
    refine aIx (v:=.agg #[.string ⟨#[63]⟩,X,.int .i64 0,bw,H,.int .i64 (-1),.int .i64 (-1)]) (by simp[results,Tryz.results182,go_sem,kz]) rfl ⟨by rw[←HCs.out,Hv.out],?_⟩;exact ((((((((w4b.trans (hb7.trans hbr)).setCell (by simp;omega) _).setCell (by simp;omega) _).setCell (by simp;omega) _).setCell (by simp;omega) _).setCell (by simp;omega) _).setCell (by simp;omega) _).setCell (by simp;omega) _)
   ·by_cases c2:most*ht*(bw:Int)<d1*1000
    ·have Hv:=aHH (show cF (cS cs bw H [] ls) X bw H most ht=[.string ⟨#[63]⟩,.int .i64 X,.int .i64 0,.int .i64 bw,.int .i64 H,.int .i64 (-1),.int .i64 (-1)] by
      rw[HBt.out];unfold cF rK;rw[if_pos (aIu (.inr c2))])
     go_wp2_with fail;try simp only[Exit.then]
     refine aIx (v:=.agg #[.string ⟨#[63]⟩,X,.int .i64 0,bw,H,.int .i64 (-1),.int .i64 (-1)]) (by simp[results,Tryz.results182,go_sem,kz]) rfl ⟨by rw[←HCs.out,Hv.out],?_⟩;exact ((((((((w4b.trans (hb7.trans hbr)).setCell (by simp;omega) _).setCell (by simp;omega) _).setCell (by simp;omega) _).setCell (by simp;omega) _).setCell (by simp;omega) _).setCell (by simp;omega) _).setCell (by simp;omega) _)
    ·have Hv:=aHH (show cF (cS cs bw H [] ls) X bw H most ht=[.string ⟨t.toArray⟩,.int .i64 X,.int .i64 0,.int .i64 bw,.int .i64 H,.int .i64 d1,.int .i64 d2] by
      rw[HBt.out];unfold cF rK;rw[if_neg (by simp only[decide_eq_true_eq,not_or];exact ⟨c1,c2⟩)])
     go_wp2_with fail;try simp only[Exit.then]
     refine aIx (v:=.agg #[t,X,.int .i64 0,bw,H,d1,d2]) (by simp[results,Tryz.results182,go_sem,kz]) rfl ⟨by rw[←HCs.out,Hv.out],?_⟩;exact ((((((((w4b.trans (hb7.trans hbr)).setCell (by simp;omega) _).setCell (by simp;omega) _).setCell (by simp;omega) _).setCell (by simp;omega) _).setCell (by simp;omega) _).setCell (by simp;omega) _).setCell (by simp;omega) _)
theorem MQ (bs:List Bool) (W H:Nat):decide ((0:Int)∈cAa W (zL bs W H))=wM bs W H:=by
 unfold wM;apply decide_eq_decide.2;constructor
 ·intro h;obtain ⟨x,hx⟩:=List.getElem?_of_mem h;have hlt:x<W:=(by have:=(aH3.1 hx).1;rwa [L5] at this);rw[vL _ hlt] at hx;have h2:zL bs W H x=0:=aIw hx;exact ⟨x,hlt,by unfold zL at h2;omega⟩
 ·rintro ⟨x,hx,h0⟩;refine List.mem_of_getElem? (i:=x) ?_;rw[vL _ hx];unfold zL;rw[h0];rfl
theorem OT (n:Nat):((n:Int)==0)=decide (n=0):=by
 cases n with
 |zero=>rfl
 |succ n=>rw[aIt (by omega)];exact aIr.2 (by omega)
theorem SU (n:Nat):decide (200<(n:Int))=decide (200<n):=decide_eq_decide.2 (by omega)
theorem WO (ls:List Ltr) (t:List UInt8):decide (∃l∈ls,decide (l.text=t)=true)=decide (t∈ls.map Ltr.text):=by
 apply decide_eq_decide.2;constructor
 ·rintro ⟨l,hl,h⟩;exact aIK.2 ⟨l,hl,aIv h⟩
 ·intro h;obtain ⟨l,hl,h2⟩:=aIK.1 h;exact ⟨l,hl,aIu h2⟩
theorem tE:∀args w,(callFunc 90 args).run Tryz.prog w=.ok (.enter 90 args) w:=fT Tryz.func90 (by kernel_rfl) rfl
theorem FZ (L:Option Addr) (c:Nat) (ls:List Ltr) (i:Nat) (hi:i≤ls.length) (b:Nat) (l:Ltr) (w:World) (hL:LtrsAt w L ls) (hb:Blk w b 148 #[l.text,l.W,l.H,.slice l.A l.m l.c]) (hn:ls.length≤9223372036854775807) :
 ∀wx,Bl w wx→Calls Tryz.prog 89 #[.slice L i c,.func (.func 90) #[] #[.pointer (some ⟨b,0,none⟩)]] wx fun e w'=>e=.returned (.bool (decide (l.text∈(ls.take i).map Ltr.text)))∧Bl wx w':=by
 intro wx hx;have hl:(ls.take i).length=i:=(by simp;omega);have hT:Tests Tryz.prog 90 #[.pointer (some ⟨b,0,none⟩)] wx (ls.take i) (fun y=>decide (y.text=l.text)):=
  ⟨tE,fun wy y hy _=>zO b l y wy (hb.bl (hx.trans hy))⟩
 have h:=xE L c (ls.take i) _ _ _ wx ((hL.bl hx).take i hi) hT (by omega);rw[hl] at h;rw[←WO];exact h
theorem JW (l:Ltr) (w:World) (hA:Reads w 1 l.A l.m (l.bs.map .bool)) (hp:aF l.W l.H l.m=0) :
 ∀ wx, Bl w wx → Calls Tryz.prog 92 #[.agg #[l.W, l.H, .slice l.A l.m l.c]] wx fun e w' => ∃ P n d, e = .returned (.slice P n d) ∧ Bl wx w' ∧
  ∀wy,Bl w' wy→Calls Tryz.prog 91 #[.slice P n d,.int .i64 0] wy fun e w'=>e=.returned (.bool (wM l.bs l.W.toNat l.H.toNat))∧wy=w':=by
 obtain ⟨t,W,H,A,m,c,bs⟩:=l;obtain ⟨W,H,rfl,rfl,rfl,hW,hH,-⟩:=dQ hp;intro wx hx;refine (C5 W H A c bs wx (hA.bl hx) hW hH).mono ?_;rintro e w' ⟨P,d,rfl,hP,hb⟩;refine ⟨P,W,d,rfl,hb,fun wy hy => ?_⟩;have h:=rO P W d _ 0 wy (hP.bl hy) (by omega);rw[MQ] at h;exact h
theorem nN (nm:List UInt8) (ht gap sp:Int) (L:Option Addr) (c:Nat) (ls:List Ltr) (w:World) (hL:LtrsAt w L ls) (hnm:nm.length≤9223372036854775807) (hn:ls.length≤9223372036854775807) (hc:ls.length≤c) :
 Calls Tryz.prog 24 #[.agg #[nm,ht,gap,sp,.slice L ls.length c]] w fun e w'=>e=.returned (.int .i64 (bN (cG nm) ht gap sp ls))∧Bl w w':=by
 let w1:=(w).alloc (.cells #[nm,ht,gap,sp,.slice L ls.length c] 46);obtain ⟨w1b,w11⟩:=aHO (x:=w1) w _ _ rfl;have HL:=aHH (hL.bl w1b);have aBO:=fun w=>tC ⟨nm.toArray⟩ w (by rw[Lib.size_mk];exact hnm);have HNm:=aHH aBO;have k1:=w11.all5;clear hL aBO;obtain ⟨E0,hE0⟩:=aH0 (eK (cG nm) ht gap sp ls.length);have HE0:=aHH hE0;clear hE0
 go_in
 go_upto_region 1 with fail;go_cut [3] from 8 to 47 (fun s3 wc=>s3=.int .i64 E0∧Bl w1 wc);case first=>
  cases h1:inB ht 1 64
  ·have hf:aB [aE (!cG nm) 5,aE true 3,aE (decide (sp≤gap)) 7,aE ((ls.length:Int)==0) 9,aE (decide (200<(ls.length:Int))) 4]=E0:=by
    rw[HE0.out];unfold eK eT;rw[h1];rw[OT,SU];rfl
   refine aHZ [aHX 0,aHX 1,aHX 5,aHX 6,aHX 22,aHX 23,aHX 24,aHX 25,aHX 26,aHX 28,aHX 29,aHX 30,aHX 31,aHX 33,aHX 34,aHX 35,aHX 36,aHY 2,aHX 3,aHY 4,aHY 7,aHX 8,aHX 9,aHX 10,aHX 11,aHY 12,aHX 13,aHX 14,aHX 15,aHX 16,aHX 17,aHY 18,aHX 19,aHX 20,aHY 21,aHY 27,aHY 32,aHY 37,aHY 38,aHY 39,aHX 40] (by kernel_rfl) ?_
   iterate 17
    apply Flow.calm2 _ _ rfl rfl
    ·intro a b c d;obtain ⟨e,f⟩:=b.rule;go_simp;(try go_ints);exact d
    ·intro a b;simp only[sqA];exact b
   apply Flow.move rfl;go_wp2_with fail;refine (HNm.out _).mono ?_;rintro e w2 ⟨rfl,HB1⟩;have hb2:Bl w1 w2:=Bl.ofDrew HB1;have k2:=(w11.bl hb2).all5;go_wp2_with fail;refine ⟨fun _=>(by first|exact HB1|exact Bl.refl _),?_⟩;apply Flow.calm2 _ _ rfl rfl
   ·intro a b c d;obtain ⟨e,f⟩:=b.rule;go_simp;(try go_ints);exact d
   ·intro a b;simp only[sqA];exact b
   apply Flow.move rfl;go_wp2_with fail;refine (aI _ _ _).mono ?_;rintro e w' ⟨rfl,rfl⟩;go_wp2_with fail;refine ⟨fun _=>(by first|exact HB2|exact Bl.refl _),?_⟩;apply Flow.move rfl;go_wp2_with fail;refine (eJ _ _ _ _).mono ?_;rintro e w' ⟨rfl,rfl⟩;go_wp2_with fail;refine ⟨fun _=>(by first|exact HB3|exact Bl.refl _),?_⟩;apply Flow.calm2 _ _ rfl rfl
   ·intro a b c d;obtain ⟨e,f⟩:=b.rule;go_simp;(try go_ints);exact d
   ·intro a b;simp only[sqA];exact b
   apply Flow.mv _ rfl
   ·intro a b;simp only[sqA,Act.eval,sqC];exact b
   iterate 2
    first
     | (apply Flow.pass rfl (by rfl))
     | (apply Flow.calmG _ rfl (by rfl)
        ·intro a b;obtain ⟨e,f⟩:=b.rule;go_simp;all_goals (try rfl))
    simp only[sqA];try go_ints
   apply Flow.move rfl;go_wp2_with fail;first|refine ⟨fun _=>Bl.refl _,?_⟩|refine ⟨Bl.refl _,?_⟩
   first
    | (apply Flow.pass rfl (by rfl))
    | (apply Flow.calmG _ rfl (by rfl)
       ·intro a b;obtain ⟨e,f⟩:=b.rule;go_simp;all_goals (try rfl))
   simp only[sqA];try go_ints
   apply Flow.calm2 _ _ rfl rfl
   ·intro a b c d;obtain ⟨e,f⟩:=b.rule;go_simp;(try go_ints);exact d
   ·intro a b;simp only[sqA];exact b
   apply Flow.mv _ rfl
   ·intro a b;simp only[sqA,Act.eval,sqC];exact b
   iterate 2
    first
     | (apply Flow.pass rfl (by rfl))
     | (apply Flow.calmG _ rfl (by rfl)
        ·intro a b;obtain ⟨e,f⟩:=b.rule;go_simp;all_goals (try rfl))
    simp only[sqA];try go_ints
   apply Flow.move rfl;go_wp2_with fail;first|refine ⟨fun _=>Bl.refl _,?_⟩|refine ⟨Bl.refl _,?_⟩
   first
    | (apply Flow.pass rfl (by rfl))
    | (apply Flow.calmG _ rfl (by rfl)
       ·intro a b;obtain ⟨e,f⟩:=b.rule;go_simp;all_goals (try rfl))
   simp only[sqA];try go_ints
   apply Flow.calm2 _ _ rfl rfl
   ·intro a b c d;obtain ⟨e,f⟩:=b.rule;go_simp;(try go_ints);exact d
   ·intro a b;simp only[sqA];exact b
   apply Flow.move rfl;go_wp2_with fail;refine (aI _ _ _).mono ?_;rintro e w' ⟨rfl,rfl⟩;go_wp2_with fail;refine ⟨fun _=>(by first|exact HB6|exact Bl.refl _),?_⟩;apply Flow.move rfl;go_wp2_with fail;refine (aI _ _ _).mono ?_;rintro e w' ⟨rfl,rfl⟩;go_wp2_with fail;refine ⟨fun _=>(by first|exact HB7|exact Bl.refl _),?_⟩;apply Flow.move rfl;go_wp2_with fail;refine (aI _ _ _).mono ?_;rintro e w' ⟨rfl,rfl⟩;go_wp2_with fail;refine ⟨fun _=>(by first|exact HB8|exact Bl.refl _),?_⟩;apply Flow.move rfl;go_wp2_with fail;refine (aI _ _ _).mono ?_;rintro e w' ⟨rfl,rfl⟩;go_wp2_with fail;refine ⟨fun _=>(by first|exact HB9|exact Bl.refl _),?_⟩;apply Flow.move rfl;go_wp2_with fail;first|refine ⟨fun _ => ?_,?_⟩|refine ⟨?_,?_⟩
   ·repeat' (first|exact Bl.refl _|refine Bl.drewL ?_|refine Bl.drew ?_|refine Bl.alloc ?_ _)
   apply Flow.move rfl;go_wp2_with fail;refine (tD _ _ _ _ _ _ _ (Blk.new _ _ _)).mono ?_;rintro e w' ⟨rfl,rfl⟩;go_wp2_with fail;refine ⟨fun _=>(by first|exact HB11|exact Bl.refl _),?_⟩;apply Flow.asg _ rfl
   ·intro a b;simp only[sqA,Act.eval,sqC];exact b
   refine Flow.done ?_;go_wp2_with fail;go_meet;case rel=>exact ⟨rfl,hb2.alloc _⟩
  ·cases h2:inB gap 1 16
   ·have hf:aB [aE (!cG nm) 5,aE true 3,aE (decide (sp≤gap)) 7,aE ((ls.length:Int)==0) 9,aE (decide (200<(ls.length:Int))) 4]=E0:=by
     rw[HE0.out];unfold eK eT;rw[h1,h2];rw[OT,SU];rfl
    refine aHZ [aHX 0,aHX 1,aHX 5,aHX 6,aHX 22,aHX 23,aHX 24,aHX 25,aHX 26,aHX 28,aHX 29,aHX 30,aHX 31,aHX 33,aHX 34,aHX 35,aHX 36,aHY 2,aHX 3,aHY 4,aHY 7,aHX 8,aHX 9,aHX 10,aHX 11,aHY 12,aHX 13,aHX 14,aHX 15,aHX 16,aHX 17,aHY 18,aHX 19,aHX 20,aHY 21,aHY 27,aHY 32,aHY 37,aHY 38,aHY 39,aHX 40] (by kernel_rfl) ?_
    iterate 17
     apply Flow.calm2 _ _ rfl rfl
     ·intro a b c d;obtain ⟨e,f⟩:=b.rule;go_simp;(try go_ints);exact d
     ·intro a b;simp only[sqA];exact b
    apply Flow.move rfl;go_wp2_with fail;refine (HNm.out _).mono ?_;rintro e w2 ⟨rfl,HB1⟩;have hb2:Bl w1 w2:=Bl.ofDrew HB1;have k2:=(w11.bl hb2).all5;go_wp2_with fail;refine ⟨fun _=>(by first|exact HB1|exact Bl.refl _),?_⟩;apply Flow.calm2 _ _ rfl rfl
    ·intro a b c d;obtain ⟨e,f⟩:=b.rule;go_simp;(try go_ints);exact d
    ·intro a b;simp only[sqA];exact b
    apply Flow.move rfl;go_wp2_with fail;refine (aI _ _ _).mono ?_;rintro e w' ⟨rfl,rfl⟩;go_wp2_with fail;refine ⟨fun _=>(by first|exact HB2|exact Bl.refl _),?_⟩;apply Flow.move rfl;go_wp2_with fail;refine (eJ _ _ _ _).mono ?_;rintro e w' ⟨rfl,rfl⟩;go_wp2_with fail;refine ⟨fun _=>(by first|exact HB3|exact Bl.refl _),?_⟩;apply Flow.calm2 _ _ rfl rfl
    ·intro a b c d;obtain ⟨e,f⟩:=b.rule;go_simp;(try go_ints);exact d
    ·intro a b;simp only[sqA];exact b
    apply Flow.mv _ rfl
    ·intro a b;simp only[sqA,Act.eval,sqC];exact b
    iterate 2
     first
      | (apply Flow.pass rfl (by rfl))
      | (apply Flow.calmG _ rfl (by rfl)
         ·intro a b;obtain ⟨e,f⟩:=b.rule;go_simp;all_goals (try rfl))
     simp only[sqA];try go_ints
    apply Flow.move rfl;go_wp2_with fail;refine (eJ _ _ _ _).mono ?_;rintro e w' ⟨rfl,rfl⟩;go_wp2_with fail;refine ⟨fun _=>(by first|exact HB4|exact Bl.refl _),?_⟩
    first
     | (apply Flow.pass rfl (by rfl))
     | (apply Flow.calmG _ rfl (by rfl)
        ·intro a b;obtain ⟨e,f⟩:=b.rule;go_simp;all_goals (try rfl))
    simp only[sqA];try go_ints
    apply Flow.calm2 _ _ rfl rfl
    ·intro a b c d;obtain ⟨e,f⟩:=b.rule;go_simp;(try go_ints);exact d
    ·intro a b;simp only[sqA];exact b
    apply Flow.mv _ rfl
    ·intro a b;simp only[sqA,Act.eval,sqC];exact b
    iterate 2
     first
      | (apply Flow.pass rfl (by rfl))
      | (apply Flow.calmG _ rfl (by rfl)
         ·intro a b;obtain ⟨e,f⟩:=b.rule;go_simp;all_goals (try rfl))
     simp only[sqA];try go_ints
    apply Flow.move rfl;go_wp2_with fail;first|refine ⟨fun _=>Bl.refl _,?_⟩|refine ⟨Bl.refl _,?_⟩
    first
     | (apply Flow.pass rfl (by rfl))
     | (apply Flow.calmG _ rfl (by rfl)
        ·intro a b;obtain ⟨e,f⟩:=b.rule;go_simp;all_goals (try rfl))
    simp only[sqA];try go_ints
    apply Flow.calm2 _ _ rfl rfl
    ·intro a b c d;obtain ⟨e,f⟩:=b.rule;go_simp;(try go_ints);exact d
    ·intro a b;simp only[sqA];exact b
    apply Flow.move rfl;go_wp2_with fail;refine (aI _ _ _).mono ?_;rintro e w' ⟨rfl,rfl⟩;go_wp2_with fail;refine ⟨fun _=>(by first|exact HB6|exact Bl.refl _),?_⟩;apply Flow.move rfl;go_wp2_with fail;refine (aI _ _ _).mono ?_;rintro e w' ⟨rfl,rfl⟩;go_wp2_with fail;refine ⟨fun _=>(by first|exact HB7|exact Bl.refl _),?_⟩;apply Flow.move rfl;go_wp2_with fail;refine (aI _ _ _).mono ?_;rintro e w' ⟨rfl,rfl⟩;go_wp2_with fail;refine ⟨fun _=>(by first|exact HB8|exact Bl.refl _),?_⟩;apply Flow.move rfl;go_wp2_with fail;refine (aI _ _ _).mono ?_;rintro e w' ⟨rfl,rfl⟩;go_wp2_with fail;refine ⟨fun _=>(by first|exact HB9|exact Bl.refl _),?_⟩;apply Flow.move rfl;go_wp2_with fail;first|refine ⟨fun _ => ?_,?_⟩|refine ⟨?_,?_⟩
    ·repeat' (first|exact Bl.refl _|refine Bl.drewL ?_|refine Bl.drew ?_|refine Bl.alloc ?_ _)
    apply Flow.move rfl;go_wp2_with fail;refine (tD _ _ _ _ _ _ _ (Blk.new _ _ _)).mono ?_;rintro e w' ⟨rfl,rfl⟩;go_wp2_with fail;refine ⟨fun _=>(by first|exact HB11|exact Bl.refl _),?_⟩;apply Flow.asg _ rfl
    ·intro a b;simp only[sqA,Act.eval,sqC];exact b
    refine Flow.done ?_;go_wp2_with fail;go_meet;case rel=>exact ⟨rfl,hb2.alloc _⟩
   ·have hf:aB [aE (!cG nm) 5,aE (!inB sp 1 64) 3,aE (decide (sp≤gap)) 7,aE ((ls.length:Int)==0) 9,aE (decide (200<(ls.length:Int))) 4]=E0:=by
     rw[HE0.out];unfold eK eT;rw[h1,h2];rw[OT,SU];rfl
    refine aHZ [aHX 0,aHX 1,aHX 5,aHX 6,aHX 22,aHX 23,aHX 24,aHX 25,aHX 26,aHX 28,aHX 29,aHX 30,aHX 31,aHX 33,aHX 34,aHX 35,aHX 36,aHY 2,aHX 3,aHY 4,aHY 7,aHX 8,aHX 9,aHX 10,aHX 11,aHY 12,aHX 13,aHX 14,aHX 15,aHX 16,aHX 17,aHY 18,aHX 19,aHX 20,aHY 21,aHY 27,aHY 32,aHY 37,aHY 38,aHY 39,aHX 40] (by kernel_rfl) ?_
    iterate 17
     apply Flow.calm2 _ _ rfl rfl
     ·intro a b c d;obtain ⟨e,f⟩:=b.rule;go_simp;(try go_ints);exact d
     ·intro a b;simp only[sqA];exact b
    apply Flow.move rfl;go_wp2_with fail;refine (HNm.out _).mono ?_;rintro e w2 ⟨rfl,HB1⟩;have hb2:Bl w1 w2:=Bl.ofDrew HB1;have k2:=(w11.bl hb2).all5;go_wp2_with fail;refine ⟨fun _=>(by first|exact HB1|exact Bl.refl _),?_⟩;apply Flow.calm2 _ _ rfl rfl
    ·intro a b c d;obtain ⟨e,f⟩:=b.rule;go_simp;(try go_ints);exact d
    ·intro a b;simp only[sqA];exact b
    apply Flow.move rfl;go_wp2_with fail;refine (aI _ _ _).mono ?_;rintro e w' ⟨rfl,rfl⟩;go_wp2_with fail;refine ⟨fun _=>(by first|exact HB2|exact Bl.refl _),?_⟩;apply Flow.move rfl;go_wp2_with fail;refine (eJ _ _ _ _).mono ?_;rintro e w' ⟨rfl,rfl⟩;go_wp2_with fail;refine ⟨fun _=>(by first|exact HB3|exact Bl.refl _),?_⟩;apply Flow.calm2 _ _ rfl rfl
    ·intro a b c d;obtain ⟨e,f⟩:=b.rule;go_simp;(try go_ints);exact d
    ·intro a b;simp only[sqA];exact b
    apply Flow.mv _ rfl
    ·intro a b;simp only[sqA,Act.eval,sqC];exact b
    iterate 2
     first
      | (apply Flow.pass rfl (by rfl))
      | (apply Flow.calmG _ rfl (by rfl)
         ·intro a b;obtain ⟨e,f⟩:=b.rule;go_simp;all_goals (try rfl))
     simp only[sqA];try go_ints
    apply Flow.move rfl;go_wp2_with fail;refine (eJ _ _ _ _).mono ?_;rintro e w' ⟨rfl,rfl⟩;go_wp2_with fail;refine ⟨fun _=>(by first|exact HB4|exact Bl.refl _),?_⟩
    first
     | (apply Flow.pass rfl (by rfl))
     | (apply Flow.calmG _ rfl (by rfl)
        ·intro a b;obtain ⟨e,f⟩:=b.rule;go_simp;all_goals (try rfl))
    simp only[sqA];try go_ints
    apply Flow.calm2 _ _ rfl rfl
    ·intro a b c d;obtain ⟨e,f⟩:=b.rule;go_simp;(try go_ints);exact d
    ·intro a b;simp only[sqA];exact b
    apply Flow.mv _ rfl
    ·intro a b;simp only[sqA,Act.eval,sqC];exact b
    iterate 2
     first
      | (apply Flow.pass rfl (by rfl))
      | (apply Flow.calmG _ rfl (by rfl)
         ·intro a b;obtain ⟨e,f⟩:=b.rule;go_simp;all_goals (try rfl))
     simp only[sqA];try go_ints
    apply Flow.move rfl;go_wp2_with fail;refine (eJ _ _ _ _).mono ?_;rintro e w' ⟨rfl,rfl⟩;go_wp2_with fail;refine ⟨fun _=>(by first|exact HB5|exact Bl.refl _),?_⟩
    first
     | (apply Flow.pass rfl (by rfl))
     | (apply Flow.calmG _ rfl (by rfl)
        ·intro a b;obtain ⟨e,f⟩:=b.rule;go_simp;all_goals (try rfl))
    simp only[sqA];try go_ints
    apply Flow.calm2 _ _ rfl rfl
    ·intro a b c d;obtain ⟨e,f⟩:=b.rule;go_simp;(try go_ints);exact d
    ·intro a b;simp only[sqA];exact b
    apply Flow.move rfl;go_wp2_with fail;refine (aI _ _ _).mono ?_;rintro e w' ⟨rfl,rfl⟩;go_wp2_with fail;refine ⟨fun _=>(by first|exact HB6|exact Bl.refl _),?_⟩;apply Flow.move rfl;go_wp2_with fail;refine (aI _ _ _).mono ?_;rintro e w' ⟨rfl,rfl⟩;go_wp2_with fail;refine ⟨fun _=>(by first|exact HB7|exact Bl.refl _),?_⟩;apply Flow.move rfl;go_wp2_with fail;refine (aI _ _ _).mono ?_;rintro e w' ⟨rfl,rfl⟩;go_wp2_with fail;refine ⟨fun _=>(by first|exact HB8|exact Bl.refl _),?_⟩;apply Flow.move rfl;go_wp2_with fail;refine (aI _ _ _).mono ?_;rintro e w' ⟨rfl,rfl⟩;go_wp2_with fail;refine ⟨fun _=>(by first|exact HB9|exact Bl.refl _),?_⟩;apply Flow.move rfl;go_wp2_with fail;first|refine ⟨fun _ => ?_,?_⟩|refine ⟨?_,?_⟩
    ·repeat' (first|exact Bl.refl _|refine Bl.drewL ?_|refine Bl.drew ?_|refine Bl.alloc ?_ _)
    apply Flow.move rfl;go_wp2_with fail;refine (tD _ _ _ _ _ _ _ (Blk.new _ _ _)).mono ?_;rintro e w' ⟨rfl,rfl⟩;go_wp2_with fail;refine ⟨fun _=>(by first|exact HB11|exact Bl.refl _),?_⟩;apply Flow.asg _ rfl
    ·intro a b;simp only[sqA,Act.eval,sqC];exact b
    refine Flow.done ?_;go_wp2_with fail;go_meet;case rel=>exact ⟨rfl,hb2.alloc _⟩
 case rest=>
  rename World=>wc;obtain ⟨rfl,hbc⟩:=hcut;have k5:=(w11.bl hbc).all5;clear k1;by_cases hz:E0=0;case neg=>
   have hq:(E0==0)=false:=(by simp[hz]);have HX:=aHH (show bN (cG nm) ht gap sp ls=E0 by unfold bN;rw[←HE0.out,if_neg hz]);clear hz;go_wp2_with fail;go_ret;exact ⟨by rw[HX.out];rfl,w1b.trans hbc⟩
  case pos=>
   subst hz;have HX:=aHH (show bN (cG nm) ht gap sp ls=d7 ht [] ls by unfold bN;rw[←HE0.out,if_pos rfl]);clear HE0;go_wp2_with fail;go_loopw [54] (fun u wr=>∃i:Nat,i≤ls.length∧u=.int .i64 i∧Bl w1 wr∧d7 ht ((ls.take i).map Ltr.text) (ls.drop i)=d7 ht [] ls) (fun u _=>ls.length-(RowKit.intOf u).toNat);case atStart=>exact ⟨0,Nat.zero_le _,rfl,hbc,by simp⟩
   case round=>
    obtain ⟨i,hi,rfl,hbr,hrs⟩:=hrel;clear k5;have HRs:=aHH hrs;have k5:=(w11.bl hbr).all5;clear hrs;by_cases hlt:i<ls.length
    ·have hg:ls[i]? = some ls[i]:=aH2 hlt;obtain ⟨l,hl⟩:=aH0 (ls[i]);rw[←hl] at hg;obtain ⟨ad,rfl,k1,k2,k3,k4⟩:=(HL.out.bl hbr).at_ hg;have HA:=aHH (((HL.out.bl hbr).2 l (List.mem_of_getElem? hg)));have HG:=aHH hg;clear hg hl;go_upto_region 7 with fail;obtain ⟨w5,hw5⟩:=aH0 (wr.alloc (.cells #[.string ⟨l.text.toArray⟩,.int .i64 l.W,.int .i64 l.H,.slice l.A l.m l.c] 148));have b5:=aHV hw5;have hb5:Bl w1 w5:=(by rw[hw5];exact hbr.alloc _);rw[←hw5];have k5:=(w11.bl hb5).all5;have k6:=b5.all4;have htx:=HA.out.2;have AD:=FZ (some ad) c ls i (by omega) wr.heap.size l w5 (HL.out.bl hb5) b5 hn;obtain ⟨pv,hpv⟩:=aH0 ((ls.take i).map Ltr.text);have hrs:=HRs.out;have hfr:=uB (ht:=ht) HG.out;rw[←hpv] at AD hrs hfr;have HRs:=aHH hrs;have HF:=aHH hfr;clear hrs hfr hpv;obtain ⟨E1,hE1⟩:=aH0 (ST pv l);have hf1:aB [aE (!iJ l.text) 2,aE (decide (l.text∈pv)) 6,aF l.W l.H l.m]=E1:=(by rw[hE1];rfl);obtain ⟨HE1,aDJ,B5,Hw5⟩:=aHJ hE1 AD b5 hb5;have hic:i≤c:=(by omega);clear hw5 hE1 k1 k2 k3 k4 AD b5 hb5;refine aHZ [aHX 0,aHX 1,aHX 5,aHX 6,aHX 7,aHX 8,aHX 9,aHX 12,aHX 13,aHY 2,aHX 3,aHY 4,aHY 10,aHY 11,aHY 14,aHY 15,aHY 16,aHX 17] (by kernel_rfl) ?_
     iterate 4
      apply Flow.calm2 _ _ rfl rfl
      ·intro a b c d;obtain ⟨e,f⟩:=b.rule;go_simp;(try go_ints);exact d
      ·intro a b;simp only[sqA];exact b
     apply Flow.mv _ rfl
     ·intro a b;simp only[sqA,Act.eval,sqC];exact b
     iterate 4
      apply Flow.calm2 _ _ rfl rfl
      ·intro a b c d;obtain ⟨e,f⟩:=b.rule;go_simp;(try go_ints);exact d
      ·intro a b;simp only[sqA];exact b
     apply Flow.move rfl;go_wp2_with fail;refine (zN _ _ htx).mono ?_;rintro e w' ⟨rfl,rfl⟩;go_wp2_with fail;refine ⟨fun _=>(by first|exact HB1|exact Bl.refl _),?_⟩;apply Flow.calm2 _ _ rfl rfl
     ·intro a b c d;obtain ⟨e,f⟩:=b.rule;go_simp;(try go_ints);exact d
     ·intro a b;simp only[sqA];exact b
     apply Flow.move rfl;go_wp2_with fail;refine (aI _ _ _).mono ?_;rintro e w' ⟨rfl,rfl⟩;go_wp2_with fail;refine ⟨fun _=>(by first|exact HB2|exact Bl.refl _),?_⟩;apply Flow.move rfl;go_wp2_with fail;refine (aDJ.out _ ((Bl.refl _).drew)).mono ?_;rintro e w6 ⟨rfl,HB3⟩;go_wp2_with fail;refine ⟨fun _=>(by first|exact HB3|exact Bl.refl _),?_⟩;apply Flow.move rfl;go_wp2_with fail;refine (aI _ _ _).mono ?_;rintro e w' ⟨rfl,rfl⟩;go_wp2_with fail;refine ⟨fun _=>(by first|exact HB4|exact Bl.refl _),?_⟩;apply Flow.move rfl;go_wp2_with fail;refine (nE _ _ _ _ _ _).mono ?_;rintro e w7 ⟨rfl,HB5⟩;go_wp2_with fail;refine ⟨fun _=>(by first|exact HB5|exact Bl.refl _),?_⟩;apply Flow.move rfl;go_wp2_with fail;first|refine ⟨fun _ => ?_,?_⟩|refine ⟨?_,?_⟩
     ·repeat' (first|exact Bl.refl _|refine Bl.drewL ?_|refine Bl.drew ?_|refine Bl.alloc ?_ _)
     apply Flow.move rfl;go_wp2_with fail;refine (iY _ _ _ _ _ (Blk.new _ _ _)).mono ?_;rintro e w' ⟨rfl,rfl⟩;go_wp2_with fail;refine ⟨fun _=>(by first|exact HB7|exact Bl.refl _),?_⟩;apply Flow.asg _ rfl
     ·intro a b;simp only[sqA,Act.eval,sqC];exact b
     refine Flow.done ?_;have hb8:Bl w5 (w7.alloc (.cells #[.int .i64 (aE (!iJ l.text) 2),.int .i64 (aE (decide (l.text∈pv)) 6),.int .i64 (aF l.W l.H l.m)] 27)):=((Bl.ofDrew HB3).trans HB5).alloc _;clear HB3 HB5;obtain ⟨w8,hw8⟩:=aH0 (w7.alloc (.cells #[.int .i64 (aE (!iJ l.text) 2),.int .i64 (aE (decide (l.text∈pv)) 6),.int .i64 (aF l.W l.H l.m)] 27));rw[←hw8] at hb8 ⊢;have HB8:=aHH (Hw5.out.trans hb8);have k5:=(w11.bl HB8.out).all5;have b8:=B5.out.bl hb8;have k6:=b8.all4;clear hw8 hb8 hf1;by_cases hz:E1=0;case neg=>
      have hq:(E1==0)=false:=(by simp[hz]);have HY:=aHH (show d7 ht [] ls=E1 by rw[←HRs.out,HF.out,oQ,←HE1.out,if_neg hz,if_neg hz]);clear hz;go_wp2_with fail;go_ret;exact ⟨by rw[HX.out,HY.out];rfl,w1b.trans HB8.out⟩
     case pos=>
      subst hz;have HP:=aHH (OS HE1.out.symm);have aBP:=JW l w8 ((HL.out.bl HB8.out).2 l (List.mem_of_getElem? HG.out)).1 HP.out;have aDK:=aHH aBP;obtain ⟨E2,hE2⟩:=aH0 (aBx ht l);have hf2:aB [aE (l.H != ht) 11,aE (decide (64<l.W)) 4,aE (wM l.bs l.W.toNat l.H.toNat) 2]=E2:=(by rw[hE2];rfl);have HE2:=aHH hE2;clear hE2 aBP;go_upto_region 10 with fail;refine aHZ [aHX 0,aHX 1,aHX 2,aHX 3,aHX 4,aHX 5,aHX 7,aHX 8,aHX 9,aHX 10,aHX 12,aHX 13,aHY 6,aHY 11,aHY 14,aHY 15,aHY 16,aHY 17,aHY 18,aHX 19] (by kernel_rfl) ?_
      iterate 12
       apply Flow.calm2 _ _ rfl rfl
       ·intro a b c d;obtain ⟨e,f⟩:=b.rule;go_simp;(try go_ints);exact d
       ·intro a b;simp only[sqA];exact b
      apply Flow.move rfl;go_wp2_with fail;refine (aI _ _ _).mono ?_;rintro e w' ⟨rfl,rfl⟩;go_wp2_with fail;refine ⟨fun _=>(by first|exact HB1|exact Bl.refl _),?_⟩;apply Flow.move rfl;go_wp2_with fail;refine (aI _ _ _).mono ?_;rintro e w' ⟨rfl,rfl⟩;go_wp2_with fail;refine ⟨fun _=>(by first|exact HB2|exact Bl.refl _),?_⟩;apply Flow.move rfl;go_wp2_with fail;refine (aDK.out _ ((Bl.refl _).drew)).mono ?_;rintro e w9 ⟨P,n,d,rfl,HB3,AD⟩;go_wp2_with fail;refine ⟨fun _=>(by first|exact HB3|exact Bl.refl _),?_⟩;apply Flow.move rfl;go_wp2_with fail;refine (AD _ (Bl.refl _)).mono ?_;rintro e w' ⟨rfl,rfl⟩;go_wp2_with fail;refine ⟨fun _=>(by first|exact HB4|exact Bl.refl _),?_⟩;apply Flow.move rfl;go_wp2_with fail;refine (aI _ _ _).mono ?_;rintro e w' ⟨rfl,rfl⟩;go_wp2_with fail;refine ⟨fun _=>(by first|exact HB5|exact Bl.refl _),?_⟩;apply Flow.move rfl;go_wp2_with fail;first|refine ⟨fun _ => ?_,?_⟩|refine ⟨?_,?_⟩
      ·repeat' (first|exact Bl.refl _|refine Bl.drewL ?_|refine Bl.drew ?_|refine Bl.alloc ?_ _)
      apply Flow.move rfl;go_wp2_with fail;refine (iY _ _ _ _ _ (Blk.new _ _ _)).mono ?_;rintro e w' ⟨rfl,rfl⟩;go_wp2_with fail;refine ⟨fun _=>(by first|exact HB7|exact Bl.refl _),?_⟩;apply Flow.asg _ rfl
      ·intro a b;simp only[sqA,Act.eval,sqC];exact b
      refine Flow.done ?_;have ER:Bl w8 (w9.alloc (.cells #[.int .i64 (aE (l.H != ht) 11),.int .i64 (aE (decide (64<l.W)) 4),.int .i64 (aE (wM l.bs l.W.toNat l.H.toNat) 2)] 27)):=(Bl.ofDrew HB3).alloc _;have aFm:=aHH (HB8.out.trans ER);clear hf2 ER HB3 AD k5 k6;by_cases hz:E2=0;case neg=>
       have hq:(E2==0)=false:=(by simp[hz]);have HY:=aHH (show d7 ht [] ls=E2 by rw[←HRs.out,HF.out,oQ,←HE1.out,if_pos rfl,←HE2.out,if_neg hz]);clear hz;go_wp2_with fail;go_ret;exact ⟨by rw[HX.out,HY.out];rfl,w1b.trans aFm.out⟩
      case pos=>subst hz;have HY:=aHH (show d7 ht ((ls.take (i+1)).map Ltr.text) (ls.drop (i+1))=d7 ht [] ls by rw[←HRs.out,HF.out,oQ,←HE1.out,if_pos rfl,←HE2.out,if_pos rfl]);go_wp2_with fail;exact ⟨⟨i+1,hlt,by go_num,aFm.out,HY.out⟩,by simp[RowKit.intOf];omega⟩
    ·obtain rfl:i=ls.length:=(by omega);have HY:=aHH (show d7 ht [] ls=0 by rw[←HRs.out,List.drop_length];rfl);go_wp2_with fail;go_ret;exact ⟨by rw[HX.out,HY.out];rfl,w1b.trans hbr⟩
theorem DD:(Tryz.prog.info? 58).map (fun i=>(i.zero,i.size,i.bytes))=some (some (.agg #[.int .i64 0,.int .i64 0,.int .i64 0,.int .i64 0]),4,32):=by kernel_rfl
theorem gT {w:World} {base:Nat} {e:TypeId} {size n g cap:Nat} {xs:List Value} (h:w.ownsRow base e size (.slice (some ⟨g,0,none⟩) n cap) n xs) {j:Nat} {u:Value} (hj:xs[j]? = some u):w.cell? ⟨g,j,none⟩=some u:=by
 obtain ⟨A,c,e2,hr⟩:=bL h;injection e2 with e1 _ _;subst e1;have hlt:j<xs.length:=(aH3.1 hj).1;have hn:0<n:=by
  rcases Nat.eq_zero_or_pos n with h0|h0
  ·have:=hr.1;rw[h0,Nat.zero_mul] at this;omega
  ·exact h0
 obtain ⟨ad,e3,hc⟩:=hr.2 hn;injection e3 with e3;subst e3;have:=hc j u hj
 rwa [jY] at this
theorem xK (W H:Int) (A:Option Addr) (an ac:Nat) (bs:List Bool) (w:World) (hA:Reads w 1 A an (bs.map .bool)) :
 Calls Tryz.prog 181 #[.agg #[W, H, .slice A an ac]] w fun e w' => ∃ R m d, e = .returned (.tuple #[.slice R m d, .int .i64 (aF W H an)]) ∧ (aF W H an ≠ 0 → R = none ∧ m = 0) ∧
  (aF W H an=0→m=(aD (kH bs W.toNat H.toNat) W.toNat).length∧Reads w' 4 R m (aZ H.toNat (aD (kH bs W.toNat H.toNat) W.toNat)))∧Bl w w':=by
 let w2:=(w).alloc (.cells #[W,H,.slice A an ac] 43);obtain ⟨w2b,w21⟩:=aHO (x:=w2) w _ _ rfl;have lw2:w2.heap.size=w.heap.size+1:=(by simp[w2]);have Hcs:=aHH (wQ W H A an ac bs w2 (hA.bl w2b));have k1:=w21.all3;clear hA
 go_in
 go_wp2_with fail;refine Hcs.out.mono ?_;rintro e w3 ⟨P,m,c,rfl,hT,hb3⟩;clear_value w2;clear Hcs k1;by_cases hz:aF W H an=0;case neg=>
  have hq:(aF W H an==0)=false:=(by simp[hz]);have HZ:=aHH hz;clear hz hT;go_wp2_with fail;refine aIx (v:=.tuple #[.slice none 0 0,.int .i64 (aF W H an)]) (by simp[results,Tryz.results181,go_sem]) rfl ⟨none,0,0,rfl,fun _=>⟨rfl,rfl⟩,fun h=>absurd h HZ.out,w2b.trans hb3⟩
 case pos=>
  have HZ:=aHH hz;rw[hz];have hT1:=hT.1 hz;obtain ⟨W,H,rfl,rfl,rfl,hW,hH,hWH⟩:=dQ hz;simp only[aIF] at hT1;obtain ⟨rfl,hP⟩:=hT1;obtain ⟨f,hf⟩:=aH0 (kH bs m H);have hfl:∀k,f k≤4000:=fun k=>(by rw[hf];have:=R4 bs m H k;omega);have aBQ:zL bs m H=fun k=>((f k:Nat):Int):=(by rw[hf];rfl);rw[aBQ] at hP;have k1:=(w21.bl hb3).all3;have h0:w3.ownsRow w3.heap.size 58 4 (.slice none 0 0) (aD f 0).length (aZ H (aD f 0)):=World.ownsRow_nil _ _ _ _;obtain ⟨HP,HF,HFl⟩:=aHI hP hf hfl;clear hz hP hf aBQ hT hfl;go_wp2_with fail;go_loopw [20,6] (fun u v wr=>∃k:Nat,k≤m∧u=.int .i64 k∧Bl w3 wr∧wr.ownsRow w3.heap.size 58 4 v (aD f k).length (aZ H (aD f k))) (fun u _ _=>m-(RowKit.intOf u).toNat);case atStart=>exact ⟨0,Nat.zero_le _,rfl,Bl.refl _,h0⟩
  case round=>
   clear k1;obtain ⟨k,hk,rfl,hbr,aV⟩:=hrel;obtain ⟨R0,c0,rfl,-,-⟩:=jP aV;have k1:=(w21.bl (hb3.trans hbr)).all3;have hpl:=kI f k;have aCO:=aHH aV;by_cases hlt:k<m
   ·obtain ⟨ad,u,rfl,hu,hc⟩:=(HP.out.bl hbr).at_ hlt;have hu':u=.int .i64 ((f k:Nat):Int):=by
     rw[aId,vL _ hlt] at hu;exact (aIw hu).symm
    subst hu';have hnl:=HFl.out k;have VI:=nI f k;have hin:=kS f k;have hst:aD f (k+1)=if f k=0 then aD f k else if oH f k=true then pS (aD f k) else aD f k++[(k,1)]:=rfl;obtain ⟨n,hn⟩:=aH0 (f k);rw[←hn] at hnl hst hc;obtain ⟨HSt,YE,HIn⟩:=aHI hst VI hin;clear hu hn hst VI hin;by_cases hz:n=0
    ·have hq:((n:Int)==0)=true:=(by rw[OT];exact aIu hz);have HN:=aHH (show aD f (k+1)=aD f k by rw[HSt.out,if_pos hz]);clear hz aV;go_wp2_with fail;exact ⟨⟨k+1,hlt,by go_num,hbr,by rw[HN.out];exact aCO.out⟩,by simp[RowKit.intOf]<;>omega⟩
    ·have hq:((n:Int)==0)=false:=(by rw[OT];exact aIt hz);cases ha:oH f k
     ·have HN:=aHH (show aD f (k+1)=aD f k++[(k,1)] by rw[HSt.out,if_neg hz,if_neg (by rw[ha];decide)]);rcases YE.out.2 ha with he|⟨l,p,he,hp⟩
      ·have cT:(aD f k).length=0:=(by rw[he];rfl);have vG:=aHH cT;rw[cT] at aV ⊢;have HOw:=aHH aV;clear aV aCO hz ha he cT;go_wp2_with fail;refine aHZ [aHX 0,aHX 1,aHX 2,aHX 3,aHX 4,aHX 5,aHX 6,aHX 7,aHX 8,aHX 9,aHX 10,aHX 11,aHX 12,aHX 13,aHX 14,aHX 15,aHX 16,aHX 17] (by kernel_rfl) ?_;apply Flow.mv _ rfl
       ·intro a b;simp only[sqA,Act.eval,sqC];exact b
       apply Flow.calm2 _ _ rfl rfl
       ·intro a b c d;obtain ⟨e,f⟩:=b.rule;go_simp;(try go_ints);exact d
       ·intro a b;simp only[sqA];exact b
       apply Flow.mv _ rfl
       ·intro a b;simp only[sqA,Act.eval,sqC];exact b
       iterate 13
        first
         | (apply Flow.pass rfl (by rfl))
         | (apply Flow.calmG _ rfl (by rfl)
            ·intro a b;obtain ⟨e,f⟩:=b.rule;go_simp;all_goals (try rfl))
        simp only[sqA];try go_ints
       apply Flow.calm2 _ _ rfl rfl
       ·intro a b c d;obtain ⟨e,f⟩:=b.rule;go_simp;(try go_ints);exact d
       ·intro a b;simp only[sqA];exact b
       apply Flow.asg _ rfl
       ·intro a b;simp only[sqA,Act.eval,sqC];exact b
       refine Flow.done ?_;go_wp2_with (at_builtin;refine aG (w1:=w3) rfl (.tmp 28) (.tmp 33) 59 rfl 58 (.agg #[.int .i64 0,.int .i64 0,.int .i64 0,.int .i64 0]) 4 32 Tryz.underlying59 DD rfl (by omega) w3.heap.size _ 0 (aZ H (aD f k)) rfl (hbr.drew.alloc _) ?hB ?hBr ((cX HOw.out (Bl.refl _).drew).alloc _) (some ⟨wr.heap.size,0,none⟩) 1 1 [.int .i64 k,.int .i64 0,.int .i64 1,.int .i64 H] rfl ((Blk.new _ _ _).reads 1 4 rfl) ?h1 ?c1 ?c2 ?_);case hB=>exact Nat.le_refl _
       case hBr=>have:=hbr.le;first|omega|(simp;omega)
       case h1=>simp[Value.oneCell']
       case c1=>unfold maxLen;omega
       case c2=>omega
       intro v' w8 bF hb8 hg8;have kN:aZ H (aD f k)++[.int .i64 k,.int .i64 0,.int .i64 1,.int .i64 H]=aZ H (aD f (k+1)):=(by rw[HN.out,fV];rfl);rw[kN] at bF;have sT:(aD f (k+1)).length=0+1:=(by rw[HN.out,aH5,vG.out];rfl);have HO8:=aHH bF;have HL2:=aHH sT;clear bF kN sT;go_wp2_with fail;exact ⟨⟨k+1,hlt,by go_num,hb8,by rw[HL2.out];exact HO8.out⟩,by simp[RowKit.intOf]<;>omega⟩
      ·obtain ⟨N,hN⟩:=aH0 l.length;have cT:(aD f k).length=N+1:=(by rw[he,hN,aH5];rfl);have vG:=aHH cT;rw[cT] at aV ⊢;obtain ⟨g,cap,e,hgB,-⟩:=gF aV (by omega);injection e with e1 _ e3;subst e1;subst e3;have hgl:(aZ H (aD f k))[N*4+0]? = some (.int .i64 p.1):=(by rw[iZ (i:=N) (p:=p) (by rw[he,hN];simp) 0 (by omega)];rfl);have hgw:(aZ H (aD f k))[N*4+2]? = some (.int .i64 p.2):=(by rw[iZ (i:=N) (p:=p) (by rw[he,hN];simp) 2 (by omega)];rfl);rw[Nat.add_zero] at hgl;have hc1:=gT aV hgl;have hc2:=gT aV hgw;have hpi:=HIn.out p (by rw[he];simp);have q3:((p.1:Int)+(p.2:Int)==(k:Int))=false:=(by simp;omega);obtain ⟨px,hpx⟩:=aH0 p.1;obtain ⟨pw,hpw⟩:=aH0 p.2;rw[←hpx,←hpw] at q3 hpi;rw[←hpx] at hc1;rw[←hpw] at hc2;have hNN:(N:Int)<(N:Int)+1:=(by omega);have HOw:=aHH aV;rw[cT] at hpl;clear aV aCO hz ha he hgl hgw hp hpx hpw hN cT;go_wp2_with fail;refine aHZ [aHX 0,aHX 1,aHX 2,aHX 3,aHX 4,aHX 5,aHX 6,aHX 7,aHX 8,aHX 9,aHX 10,aHX 11,aHX 12,aHX 13,aHX 14,aHX 15,aHX 16,aHX 17] (by kernel_rfl) ?_;apply Flow.mv _ rfl
       ·intro a b;simp only[sqA,Act.eval,sqC];exact b
       apply Flow.calm2 _ _ rfl rfl
       ·intro a b c d;obtain ⟨e,f⟩:=b.rule;go_simp;(try go_ints);exact d
       ·intro a b;simp only[sqA];exact b
       apply Flow.mv _ rfl
       ·intro a b;simp only[sqA,Act.eval,sqC];exact b
       iterate 13
        first
         | (apply Flow.pass rfl (by rfl))
         | (apply Flow.calmG _ rfl (by rfl)
            ·intro a b;obtain ⟨e,f⟩:=b.rule;go_simp;all_goals (try rfl))
        simp only[sqA];try go_ints
       apply Flow.calm2 _ _ rfl rfl
       ·intro a b c d;obtain ⟨e,f⟩:=b.rule;go_simp;(try go_ints);exact d
       ·intro a b;simp only[sqA];exact b
       apply Flow.asg _ rfl
       ·intro a b;simp only[sqA,Act.eval,sqC];exact b
       refine Flow.done ?_;go_wp2_with (at_builtin;refine aG (w1:=w3) rfl (.tmp 28) (.tmp 33) 59 rfl 58 (.agg #[.int .i64 0,.int .i64 0,.int .i64 0,.int .i64 0]) 4 32 Tryz.underlying59 DD rfl (by omega) w3.heap.size _ (N+1) (aZ H (aD f k)) rfl (hbr.drew.alloc _) ?hB ?hBr ((cX HOw.out (Bl.refl _).drew).alloc _) (some ⟨wr.heap.size,0,none⟩) 1 1 [.int .i64 k,.int .i64 0,.int .i64 1,.int .i64 H] rfl ((Blk.new _ _ _).reads 1 4 rfl) ?h1 ?c1 ?c2 ?_);case hB=>exact Nat.le_refl _
       case hBr=>have:=hbr.le;first|omega|(simp;omega)
       case h1=>simp[Value.oneCell']
       case c1=>unfold maxLen;omega
       case c2=>omega
       intro v' w8 bF hb8 hg8;have kN:aZ H (aD f k)++[.int .i64 k,.int .i64 0,.int .i64 1,.int .i64 H]=aZ H (aD f (k+1)):=(by rw[HN.out,fV];rfl);rw[kN] at bF;have sT:(aD f (k+1)).length=(N+1)+1:=(by rw[HN.out,aH5,vG.out];rfl);have HO8:=aHH bF;have HL2:=aHH sT;clear bF kN sT;go_wp2_with fail;exact ⟨⟨k+1,hlt,by go_num,hb8,by rw[HL2.out];exact HO8.out⟩,by simp[RowKit.intOf]<;>omega⟩
     ·have HN:=aHH (show aD f (k+1)=pS (aD f k) by rw[HSt.out,if_neg hz,if_pos ha]);obtain ⟨l,p,he,hp⟩:=YE.out.1 ha;obtain ⟨N,hN⟩:=aH0 l.length;have cT:(aD f k).length=N+1:=(by rw[he,hN,aH5];rfl);rw[cT] at aV ⊢;obtain ⟨g,cap,e,hgB,-⟩:=gF aV (by omega);injection e with e1 _ e3;subst e1;subst e3;have hgl:(aZ H (aD f k))[N*4+0]? = some (.int .i64 p.1):=(by rw[iZ (i:=N) (p:=p) (by rw[he,hN];simp) 0 (by omega)];rfl);have hgw:(aZ H (aD f k))[N*4+2]? = some (.int .i64 p.2):=(by rw[iZ (i:=N) (p:=p) (by rw[he,hN];simp) 2 (by omega)];rfl);rw[Nat.add_zero] at hgl;have hc1:=gT aV hgl;have hc2:=gT aV hgw;have hfz:=(kR aV).2;have hpi:=HIn.out p (by rw[he];simp);have q3:((p.1:Int)+(p.2:Int)==(k:Int))=true:=(by simp;omega);have hwd:(aZ H (aD f k)).set (N*4+2) (.int .i64 ((p.2:Int)+1))=aZ H (aD f (k+1)):=(by rw[HN.out,he,hN];exact pV H l p);have sT:(aD f (k+1)).length=N+1:=(by rw[HN.out,lN,cT]);have qW:=dO aV (N*4+2) (.int .i64 ((p.2:Int)+1));rw[hwd] at qW;obtain ⟨px,hpx⟩:=aH0 p.1;obtain ⟨pw,hpw⟩:=aH0 p.2;rw[←hpx,←hpw] at q3 hpi;rw[←hpx] at hc1;rw[←hpw] at hc2 qW;have AF:=aHH qW;have HL2:=aHH sT;have aGy:w3.heap.size≤g:=hgB;have hNN:(N:Int)<(N:Int)+1:=(by omega);rw[cT] at hpl;clear aV aCO hz ha he hgl hgw hp hpx hpw hN qW hwd sT cT;go_wp2_with fail;refine aHZ [aHX 0,aHX 1,aHX 2,aHX 3,aHX 4,aHX 5,aHX 6,aHX 7,aHX 8,aHX 9,aHX 10,aHX 11,aHX 12,aHX 13,aHX 14,aHX 15,aHX 16,aHX 17] (by kernel_rfl) ?_;apply Flow.mv _ rfl
      ·intro a b;simp only[sqA,Act.eval,sqC];exact b
      apply Flow.calm2 _ _ rfl rfl
      ·intro a b c d;obtain ⟨e,f⟩:=b.rule;go_simp;(try go_ints);exact d
      ·intro a b;simp only[sqA];exact b
      apply Flow.mv _ rfl
      ·intro a b;simp only[sqA,Act.eval,sqC];exact b
      iterate 13
       first
        | (apply Flow.pass rfl (by rfl))
        | (apply Flow.calmG _ rfl (by rfl)
           ·intro a b;obtain ⟨e,f⟩:=b.rule;go_simp;all_goals (try rfl))
       simp only[sqA];try go_ints
      apply Flow.calm2 _ _ rfl rfl
      ·intro a b c d;obtain ⟨e,f⟩:=b.rule;go_simp;(try go_ints);exact d
      ·intro a b;simp only[sqA];exact b
      apply Flow.asg _ rfl
      ·intro a b;simp only[sqA,Act.eval,sqC];exact b
      refine Flow.done ?_;go_wp2_with fail;exact ⟨⟨k+1,hlt,by go_num,(hbr.drew).setCell aGy _,by rw[HL2.out];exact cX AF.out (Bl.refl _).drew⟩,by simp[RowKit.intOf]<;>omega⟩
   ·obtain rfl:k=m:=(by omega);obtain ⟨R,d,e,hR⟩:=bL aV;injection e with e1 _ e3;subst e1;subst e3;have HR:=aHH hR;clear aV hR;go_wp2_with fail;refine aIx (v:=.tuple #[.slice R0 (aD f k).length c0,.int .i64 0]) (by simp[results,Tryz.results181,go_sem]) rfl ⟨R0,(aD f k).length,⟨c0,by rw[HZ.out]⟩,fun h=>absurd HZ.out h,?_,(w2b.trans hb3).trans hbr⟩;intro _
    first
     | (simp only[aIF];rw[←HF.out];exact ⟨rfl,HR.out⟩)
     | (rw[←HF.out];exact ⟨rfl,HR.out⟩)
end Go.Proofs.YtllefinciimffaaGreatDoor
