import Derived.Test.YtllefinciimffaaGreatDoorMClaimFields35
import Derived.Test.YtllefinciimffaaGreatDoorMClaimFields19
set_option maxHeartbeats 20000000
set_option maxRecDepth 100000
namespace Go.Proofs.YtllefinciimffaaGreatDoor
open Go.RowKit Go.Shelf
def sJ (l:List Nat):List Int:=l.map fun (n:Nat)=>(n:Int)
theorem yX (l:List Nat):(sJ l).length=l.length:=aH6 ..
theorem yY (l:List Nat):bD (sJ l)=aT l:=by
 unfold bD sJ aT;rw[List.map_map];rfl
theorem CE (f : Nat → Bool) : ∀ k, (bE f k).1.sum + (bE f k).2 = k
 |0=>rfl
 |k+1=>by
  have ih:=CE f k;by_cases hs:f k=vA f k
  ·rw[xN hs];show (bE f k).1.sum+((bE f k).2+1)=k+1;omega
  ·rw[DF hs];show ((bE f k).1++[(bE f k).2]).sum+1=k+1;rw[List.sum_append];simp;omega
theorem yZ (f:Nat→Bool) (k:Nat):(jR f k).sum=k:=by
 unfold jR;rw[List.sum_append];have:=CE f k;simpa using this
theorem lD (l:List Nat) (i:Nat):(l.take i).sum≤l.sum:=by
 have h:=congrArg List.sum (aIh i l);rw[List.sum_append] at h;omega
theorem wB (l:List Nat) (i:Nat):yR (sJ l) i=(((l.take i).sum:Nat):Int):=by
 unfold yR sJ;rw[←List.map_take];generalize l.take i=k;induction k with
 |nil=>rfl
 |cons a k ih=>simp only[List.map_cons,List.sum_cons,ih];omega
theorem iS {l:List Nat} {i a:Nat} (h:l[i]? = some a):(l.take (i+1)).sum=(l.take i).sum+a:=by
 rw[aIJ,h,List.sum_append];simp
def AA (l:List Nat) (i k:Nat):Int:=if k≤i then (((l.take k).sum:Nat):Int) else 0
theorem IT (zs:List Int) (i:Nat) (h:i≤zs.length):lC zs i 59 1=IM (zs.drop i):=by
 unfold lC IM;rw[aIg];by_cases h1:i+59≤zs.length
 ·rw[if_pos h1,if_pos (by omega)]
 ·rw[if_neg h1,if_neg (by omega)]
theorem XY (zs:List Int) (i m:Nat) (hm:1≤m) (h:i+10*m-1≤zs.length):lC zs i (10*m-1) 2=m9 (zs.drop i) m:=by
 unfold lC m9;rw[if_pos (by omega)]
theorem EH (c:Cd):∀u∈c.cells,u.oneCell'=true:=by simp[Cd.cells,Value.oneCell']
def TrySt (zs:List Int) (w5:World) (i:Nat) (s12 s13 s14 s15 s16:Value) (wr:World):Prop:=∃(kd:Int) (mn:Nat) (t:List UInt8) (b:Bool) (m:Nat),s12=.int .i64 kd∧s13=.int .i64 mn∧s14=.string ⟨t.toArray⟩∧s15=.bool b∧s16=.int .i64 m∧3≤m∧m≤405∧Bl w5 wr ∧
 (b=true→gM (zs.drop i)=some (kd,t,mn))∧(b=false→IM (zs.drop i)=none∧dY (zs.drop i) 3=dY (zs.drop i) m)
def RowRes (cs:List Cd) (w:World) (e:Ending) (w':World):Prop:=∃R c,e=.returned (.slice R cs.length c)∧Reads w' 6 R cs.length (aK cs)∧Bl w w'
theorem UY (W H:Nat) (A:Option Addr) (ac:Nat) (bs:List Bool) (y:Nat) (w:World) (hA:Reads w 1 A (W*H) (bs.map .bool)) (hW:W≤4000) (hH:H≤4000) (hy:y<H) (hT:SpOk w) :
 Calls Tryz.prog 151 #[.agg #[W,H,.slice A (W*H) ac],y] w (RowRes (IN (sJ (jR (fun x=>pix bs W x y) W)) y) w):=by
 let w2:=(w).alloc (.cells #[W,H,.slice A (W*H) ac] 43);obtain ⟨w2b,w21⟩:=aHO (x:=w2) w _ _ rfl;have HT:=aHH (hT.bl w2b);have hro:=OZ W H A ac bs y w2 (hA.bl w2b) hW hH hy;obtain ⟨l,hl⟩:=aH0 (jR (fun x=>pix bs W x y) W);have hls:l.sum≤4000:=(by rw[hl,yZ];exact hW);have hll:l.length≤4001:=by
  rw[hl];unfold jR;have:=(mR (fun x=>pix bs W x y) W).1;rw[aH5,aIo];omega
 have hl0:0<l.length:=(by rw[hl];unfold jR;simp);unfold RunsOfRes at hro;rw[←hl] at hro ⊢;obtain ⟨zs,hzs⟩:=aH0 (sJ l);rw[←hzs];have HZs:=aHH hzs;clear hzs;have Hro:=aHH hro;have HLs:=aHH hls;have k1:=w21.all3;clear hA hT hro hl hls;obtain ⟨n,hn⟩:=aH0 l.length;rw[←hn] at Hro hll hl0;have HN:=aHH hn;clear hn
 go_in
 go_wp2_with fail;refine Hro.out.mono ?_;rintro e w3 ⟨R,d,rfl,hr3,N3,hd⟩;have hb3:Bl w2 w3:=N3;clear N3 Hro k1;clear_value w2;have HR3:=aHH hr3;have HD:=aHH hd;clear hr3 hd;obtain ⟨ad,rfl,-⟩:=HR3.out.2 hl0;go_upto_region 2 with fail;obtain ⟨w4,hw4⟩:=aH0 (w3.alloc (.cells #[.slice (some ad) n d] 47));obtain ⟨g5,hg5⟩:=aH0 w3.heap.size;have b5:=aHW hw4 hg5;have aDb:=aHU hw4;rw[←hw4,←hg5];clear hw4 hg5;have hmk:=run_make_row' (P:=Tryz.prog) 47 3 (.int .i64 0) 8 Tryz.underlying47 iI rfl .i64 .i64 (n+1) (by omega) (by omega);rw[E8,show ((n+1:Nat):Int)=(n:Int)+1 by omega] at hmk;have k5:=b5.all1;go_upto_region 3 with fail;obtain ⟨w5,hw5⟩:=aH0 (w4.alloc (.cells (qD (n+1) fun _=>0) 3));obtain ⟨g6,hg6⟩:=aH0 w4.heap.size;have b6:Blk w5 g6 3 (qD (n+1) (AA l 0)):=by
  rw[hw5,hg6];have h0:qD (n+1) (AA l 0)=qD (n+1) fun _=>0:=sW fun k _=>by
   unfold AA;by_cases hk:k≤0
   ·rw[if_pos hk,show k=0 by omega];rfl
   ·rw[if_neg hk]
  rw[h0];exact Blk.new _ _ _
 have aAX:=aHU hw5;have h46:w4.heap.size≤g6:=(by omega);rw[←hw5,←hg6];clear hw5 hg6 hmk;have k5':=(b5.bl aAX).all1;clear k5;have HB6:=aHH b6;clear b6;go_wp2_with fail;go_loopw [26] (fun u wr=>∃i:Nat,i≤n∧u=.int .i64 i∧Bl w4 wr∧Blk wr g6 3 (qD (n+1) (AA l i))) (fun u _=>n-(intOf u).toNat);case atStart=>exact ⟨0,Nat.zero_le _,rfl,aAX,HB6.out⟩
 case round=>
  clear k5' HB6;obtain ⟨i,hi,rfl,hbr,hbo⟩:=hrel;by_cases hlt:i<n
  ·obtain ⟨a,ha⟩:∃a,l[i]? = some a:=⟨_,aH2 (by rw[←HN.out];exact hlt)⟩;have hss:=iS ha;have hs1:=lD l (i+1);have hs2:=HLs.out;obtain ⟨ad',e',hc⟩:=(HR3.out.bl (aDb.trans hbr)).2 hl0;injection e' with e';subst e';have hca:=hc i (.int .i64 a) (by unfold aT;rw[aId,ha];rfl);have kc:=hbo.tabAt (show i<n+1 by omega);have kc1:=hbo.tabAt (show i+1<n+1 by omega);have kf:=hbo.frozen (i+1);obtain ⟨s0,hs0⟩:=aH0 ((l.take i).sum);have hat:AA l i i=(s0:Int):=(by unfold AA;rw[if_pos (Nat.le_refl _),hs0]);rw[hat] at kc;rw[←hs0] at hss;have qW:=hbo.tabSet (f':=AA l (i+1)) (i+1) ((s0:Int)+(a:Int)) (fun k hk=>by
    unfold AA;by_cases e:k=i+1
    ·subst e;rw[if_pos (Nat.le_refl _),if_pos rfl,hss];omega
    ·rw[if_neg e];by_cases e2:k≤i
     ·rw[if_pos e2,if_pos (by omega)]
     ·rw[if_neg e2,if_neg (by omega)])
   have hsb:s0≤4000:=(by omega);have hab:a≤4000:=(by omega);have aDA:=aHH qW;clear qW hss hs1 hs2 hat hs0 ha hc;go_wp2_with fail;exact ⟨⟨i+1,hlt,by go_num,hbr.setCell h46 _,aDA.out⟩,by simp[intOf];omega⟩
  ·obtain rfl:n=i:=(by omega);rename World=>w6;have aBn:=hbr;obtain ⟨HBo,HR6,HT6⟩:=aHI hbo (HR3.out.bl (aDb.trans aBn)) (HT.out.bl (hb3.trans (aDb.trans aBn)));have b56:=b5.bl aBn;obtain ⟨HB5,HW6,HZl⟩:=aHI b56 (w2b.trans (hb3.trans (aDb.trans aBn))) (show zs.length=n by rw[HZs.out,yX];exact HN.out.symm);have HRz:=aHH (show Reads w6 1 (some ad) zs.length (bD zs) by rw[HZl.out,HZs.out,yY];exact HR6.out);have N5:=aHH (show ∀k,yR zs k=(((l.take k).sum:Nat):Int)∧(l.take k).sum≤4000 from fun k=>⟨by rw[HZs.out];exact wB l k,by have:=lD l k;have:=HLs.out;omega⟩);have Ht1:=aHH (fun (j:Nat) (hj:j≤10000) (wx:World) (hx:Bl w6 wx)=>show Calls Tryz.prog 192 #[j,.int .i64 59,.int .i64 1,.pointer (some ⟨g5,0,none⟩)] wx (TryRes (lC zs j 59 1) wx) from
    XV g5 zs (some ad) d j 59 wx (by rw[HZl.out];exact HB5.out.bl hx) (HRz.out.bl hx) (by rw[HZl.out];exact hll) (by rw[HZl.out];exact HD.out) (by decide) (by decide) (by omega) (HT6.out.bl hx))
   have Ht2:=aHH (fun (j mn:Nat) (hj:j≤10000) (h1:1≤mn) (h2:mn≤10000) (wx:World) (hx:Bl w6 wx)=>show Calls Tryz.prog 192 #[j,mn,.int .i64 2,.pointer (some ⟨g5,0,none⟩)] wx (TryRes (lC zs j mn 2) wx) from
    XW g5 zs (some ad) d j mn wx (by rw[HZl.out];exact HB5.out.bl hx) (HRz.out.bl hx) (by rw[HZl.out];exact hll) (by rw[HZl.out];exact HD.out) h1 (by omega) (by omega) (HT6.out.bl hx))
   clear hbr hbo HR6 HR3 HN b56 b5 HT HRz HD HZs;go_wp2_with fail;go_loopw [10,11] (fun s10 s11 wr=>∃(i:Nat) (out:List Cd),1≤i∧i≤n+2∧s11=.int .i64 i∧Bl w6 wr∧Hid (RowC wr w6.heap.size s10 out)∧Hid (out++pT zs y i=IN zs y∧out.length*30≤i)) (fun _ s11 _=>5000-(intOf s11).toNat);case atStart=>exact ⟨1,[],by decide,by omega,rfl,Bl.refl _,aHH (RowC.nil _ _),aHH ⟨aIP zs y,by decide⟩⟩
   case round=>
    rename World=>wr;obtain ⟨i,out,hi1,hin,rfl,hbr,sS,zH⟩:=hrel;have k5:=(HB5.out.bl hbr).all1;by_cases hlt:i<n
    ·have aDc:(i:Int)<(n:Int):=(by omega);go_wp2_with fail;refine (Ht1.out i (by omega) _ hbr).mono ?_;rintro e w7 ⟨s,b,rfl,hy1,hn1,hb7⟩;obtain ⟨HY,HNo,HB7⟩:=aHI (fun h=>(IT zs i (by rw[HZl.out];omega)).symm.trans (hy1 h)) (fun h=>(IT zs i (by rw[HZl.out];omega)).symm.trans (hn1 h)) hb7;clear hy1 hn1 hb7 k5 aDc;have k5:=(HB5.out.bl (hbr.trans HB7.out)).all1;go_wp2_with fail;go_loopw [12,13,14,15,16] (fun s12 s13 s14 s15 s16 wx=>TrySt zs wr i s12 s13 s14 s15 s16 wx) (fun _ _ _ _ s16 _=>500-(intOf s16).toNat);case atStart=>exact ⟨1,59,s,b,3,rfl,rfl,rfl,rfl,rfl,by decide,by decide,HB7.out,fun h=>sH (HY.out h),fun h=>⟨HNo.out h,rfl⟩⟩
     case round=>
      rename World=>wq;clear k5;obtain ⟨kd,mn,t,b2,m,rfl,rfl,rfl,rfl,rfl,hm3,hm405,hbq,aEJ,hno⟩:=hrel;have k5:=(HB5.out.bl (hbr.trans hbq)).all1;cases b2 with
      |false=>
       obtain ⟨hE,hF⟩:=hno rfl;have HE:=aHH hE;have HF:=aHH hF;clear aEJ hno hE hF;by_cases hle:i+10*m-1≤n
       ·have c1:(i:Int)+10*(m:Int)-1≤(n:Int):=(by omega);obtain ⟨mn2,hmn⟩:=aH0 (10*m-1);have e1:10*(m:Int)-1=(mn2:Int):=(by omega);have HM:=aHH hmn;have hm1:1≤mn2:=(by omega);have hm2:mn2≤10000:=(by omega);clear hmn;go_wp2_with fail;refine (Ht2.out i mn2 (by omega) hm1 hm2 _ (hbr.trans hbq)).mono ?_;rintro e w9 ⟨s2,b3,rfl,hy2,hn2,hb9⟩;have htr:lC zs i mn2 2=m9 (zs.drop i) m:=(by rw[HM.out];exact XY zs i m (by omega) (by rw[HZl.out];exact hle));have cT:10*m-1≤(zs.drop i).length:=(by rw[aIg,HZl.out];omega);have HY2:=aHH (fun h=>show gM (zs.drop i)=some (2,s2,mn2) from by rw[HM.out];exact pM HE.out (HF.out.trans (pK cT (htr.symm.trans (hy2 h)))));have HN2:=aHH (fun h=>HF.out.trans (gW cT (htr.symm.trans (hn2 h))));clear hy2 hn2 htr cT;go_wp2_with fail;exact ⟨⟨2,mn2,s2,b3,m+1,rfl,rfl,rfl,rfl,by go_num,by omega,by omega,hbq.trans hb9,HY2.out,fun h=>⟨HE.out,HN2.out h⟩⟩,by simp[intOf]<;>omega⟩
       ·have c1:¬(i:Int)+10*(m:Int)-1≤(n:Int):=(by omega);have HC:=aHH (show gM (zs.drop i)=none from iE HE.out (HF.out.trans (pL (by rw[aIg,HZl.out];omega))));go_wp2_with fail;have ho:=zH.out.2;exact ⟨⟨i+2,out,by omega,by omega,by go_num,hbr.trans hbq,aHH (sS.out.bl hbq),aHH ⟨by rw[←CA (by rw[HZl.out];exact hlt) HC.out];exact zH.out.1,by omega⟩⟩,by simp[intOf]<;>omega⟩
      |true=>
       have hc:=aEJ rfl;obtain ⟨aD5,aEK,aEL⟩:=pN hc;rw[aIg,HZl.out] at aEL;obtain ⟨u,hu⟩:=aH0 ((l.take i).sum);obtain ⟨v,hv⟩:=aH0 ((l.take (i+mn)).sum);have ka:w6.cell? ⟨g6,i,none⟩=some (.int .i64 (u:Int)):=by
        rw[HBo.out.tabAt (show i<n+1 by omega)];unfold AA;rw[if_pos (by omega),hu]
       have kb:w6.cell? ⟨g6,i+mn,none⟩=some (.int .i64 (v:Int)):=by
        rw[HBo.out.tabAt (show i+mn<n+1 by omega)];unfold AA;rw[if_pos (by omega),hv]
       have hu4:u≤4000:=(by have:=(N5.out i).2;omega);have hv4:v≤4000:=(by have:=(N5.out (i+mn)).2;omega);have aEM:=aHH (show (out++[⟨kd,t,u,y,(v:Int)-u,1⟩])++pT zs y (i+mn+1)=IN zs y by
        rw[aIi,←zH.out.1,B0 (by rw[HZl.out];exact hlt) hc,(N5.out i).1,(N5.out (i+mn)).1,←hu,←hv];rfl)
       have aDd:=hbr.trans hbq;have HRq:=aHH (sS.out.bl hbq);have hsz:=aDd.le;have d1:(i:Int)<(n:Int)+1:=(by omega);have d2:(i:Int)+(mn:Int)<(n:Int)+1:=(by omega);have d3:(0:Int)≤(i:Int)+(mn:Int):=(by omega);have ho:=zH.out.2;clear aEJ hno hc hu hv k5 sS;go_upto_region 21 with fail;refine xC (Bl w6) [(true,0),(true,1),(true,2),(true,3),(true,4),(true,5),(true,6),(true,7),(true,8),(true,9),(true,10),(true,11),(true,12),(true,13),(true,14),(true,15),(true,16),(true,17),(true,18),(true,19),(false,20),(false,21),(true,22)] (by kernel_rfl) (by kernel_rfl) (by kernel_rfl) (by kernel_rfl) (Bl.drew aDd) ?_
       iterate 5
        apply FlowS.mv _ rfl
        ·intro a b;simp only[sqA,Act.eval,sqC];exact b
       iterate 2
        apply FlowS.calm2 _ _ rfl rfl
        ·intro a b c d;obtain ⟨e,f⟩:=b.rule;go_simp;(try go_ints);exact d
        ·intro a b;simp only[sqA];exact b
       iterate 4
        apply FlowS.mv _ rfl
        ·intro a b;simp only[sqA,Act.eval,sqC];exact b
       iterate 3
        apply FlowS.calm2 _ _ rfl rfl
        ·intro a b c d;obtain ⟨e,f⟩:=b.rule;go_simp;(try go_ints);exact d
        ·intro a b;simp only[sqA];exact b
       iterate 2
        apply FlowS.mv _ rfl
        ·intro a b;simp only[sqA,Act.eval,sqC];exact b
       iterate 4
        apply FlowS.calm2 _ _ rfl rfl
        ·intro a b c d;obtain ⟨e,f⟩:=b.rule;go_simp;(try go_ints);exact d
        ·intro a b;simp only[sqA];exact b
       apply FlowS.move rfl;go_wp2_with fail;refine ⟨(by first|assumption|(repeat' (first|assumption|refine Bl.drew ?_|refine Bl.alloc ?_ _))),?_⟩;apply FlowS.move rfl;go_wp2_with (at_builtin;refine aG (w1:=w6) rfl (.tmp 84) (.tmp 104) 158 rfl 161 (.agg #[.int .i64 0,.string ⟨#[]⟩,.int .i64 0,.int .i64 0,.int .i64 0,.int .i64 0]) 6 56 Tryz.underlying158 mY rfl (by omega) w6.heap.size _ out.length (aK out) rfl ((aDd.alloc _).drew) (Nat.le_refl _) (((aDd.alloc _).drew).le) (cX HRq.out.1 (((Bl.refl wq).alloc _).drew)) (some ⟨wq.heap.size,0,none⟩) 1 1 (Cd.cells ⟨kd,t,u,y,(v:Int)-u,1⟩) rfl (((Blk.new _ _ _).drew).reads 1 6 rfl) (EH _) (by unfold maxLen;omega) (by omega) ?_;intro v' w8 bF hb8 hg8;have vJ:=aHH bF);go_wp2_with fail;refine ⟨(by first|assumption|(repeat' (first|assumption|refine Bl.drew ?_|refine Bl.alloc ?_ _))),?_⟩;apply FlowS.asg _ rfl
       ·intro a b;simp only[sqA,Act.eval,sqC];exact b
       refine FlowS.done ?_;have HR8:=aHH (show RowC w8 w6.heap.size v' (out++[⟨kd,t,u,y,(v:Int)-u,1⟩]) from ⟨by
        rw[fL,aH5];simpa [aK] using vJ.out,fun e=>by simp at e⟩)
       have HB8:=aHH hb8;clear bF hb8 hg8 vJ ka kb d1 d2 d3;go_wp2_with fail;exact ⟨⟨i+mn+1,_,by omega,by omega,by go_num,HB8.out,HR8,aHH ⟨aEM.out,by simp;omega⟩⟩,by simp[intOf]<;>omega⟩
    ·obtain ⟨A',c',rfl,hrd⟩:=bL sS.out.1;have CJ:out=IN zs y:=by
      have h:=zH.out.1;rw[IP (by rw[HZl.out];omega),aIN] at h;exact h
     have HRd:=aHH hrd;have HO:=aHH CJ;clear hrd CJ;have aDc:¬(i:Int)<(n:Int):=(by omega);go_wp2_with fail;refine aIx (v:=.slice A' out.length c') (by simp[results,Tryz.results151,go_sem]) rfl ⟨A',c',by rw[HO.out],by rw[←HO.out];exact HRd.out,HW6.out.trans hbr⟩
theorem QT {w:World} {ad:Addr} {zs:List Int} {i:Nat} (h:Reads w 1 (some ad) zs.length (bD zs)) (hi:i≤zs.length):Reads w 1 (some (ad.add i)) (zs.length-i) (bD (zs.drop i)):=by
 have h1:=yW (i:=i) (m:=zs.length-i) h (by omega);have e:(zs.drop i).take (zs.length-i)=zs.drop i:=aID (by rw[aIg];omega)
 rwa [e] at h1
theorem IU {l:List Nat} {i:Nat} (h:l.length≤i):(l.take i).sum=l.sum:=by rw[aID h]
theorem QU {W H:Int} {an:Nat} {y:Int} (hz:jC (aF W H an) H y=0):∃Wn Hn yn:Nat,W=(Wn:Int)∧H=(Hn:Int)∧y=(yn:Int)∧an=Wn*Hn∧Wn≤4000∧Hn≤4000∧yn<Hn:=by
 have h1:=dX hz _ (List.mem_cons_self ..);have h2:=dX hz (aE (!inB y 0 (H-1)) 13) (by simp);have hin:inB y 0 (H-1)=true:=by
  cases h:inB y 0 (H-1)
  ·rw[h] at h2;exact absurd h2 (by decide)
  ·rfl
 rw[aQ] at hin;have hs:aM W H=0:=by
  unfold aF at h1;by_cases h2:aM W H=0
  ·exact h2
  ·rw[if_neg h2] at h1;exact h1
 have hz2:=aR hs;unfold aF at h1;rw[if_pos hs] at h1;have han:(an:Int)=W*H:=by
  by_cases h:(an:Int)=W*H
  ·exact h
  ·rw[if_neg h] at h1;exact absurd h1 (by decide)
 obtain ⟨Wn,rfl⟩:=Int.eq_ofNat_of_zero_le (show 0≤W by omega);obtain ⟨Hn,rfl⟩:=Int.eq_ofNat_of_zero_le (show 0≤H by omega);obtain ⟨yn,rfl⟩:=Int.eq_ofNat_of_zero_le hin.1;exact ⟨Wn,Hn,yn,rfl,rfl,rfl,by exact_mod_cast han,by omega,by omega,by omega⟩
def ReadRowRes (W H:Int) (an:Nat) (bs:List Bool) (y:Int) (w:World) (e:Ending) (w':World):Prop:=∃R m d err,e=.returned (.tuple #[.slice R m d,.int .i64 err])∧err=jC (aF W H an) H y∧(err≠0→R=none∧m=0) ∧
 (err=0→m=(IN (sJ (jR (fun x=>pix bs W.toNat x y.toNat) W.toNat)) y).length∧Reads w' 6 R m (aK (IN (sJ (jR (fun x=>pix bs W.toNat x y.toNat) W.toNat)) y)))∧Bl w w'
theorem LA {W H:Int} {an:Nat} {bs:List Bool} {y:Int} {w w':World} {err:Int} (h:err=jC (aF W H an) H y) (hz:err≠0) (hb:Bl w w'):ReadRowRes W H an bs y w (.returned (.tuple #[.slice none 0 0,err])) w':=
 ⟨none,0,0,err,rfl,h,fun _=>⟨rfl,rfl⟩,fun h=>absurd h hz,hb⟩
theorem LC (W H:Int) (A:Option Addr) (an ac:Nat) (bs:List Bool) (y:Int) (w:World) (hA:Reads w 1 A an (bs.map .bool)) (hac:an≤ac) (hT:SpOk w) :
 Calls Tryz.prog 183 #[.agg #[W,H,.slice A an ac],y] w (ReadRowRes W H an bs y w):=by
 let w2:=(w).alloc (.cells #[W,H,.slice A an ac] 43);obtain ⟨w2b,w21⟩:=aHO (x:=w2) w _ _ rfl;have HT:=aHH (hT.bl w2b);have hru:=W3 W H A an ac bs y w2 (hA.bl w2b) hac;unfold RunsRes at hru;obtain ⟨E,hE⟩:=aH0 (jC (aF W H an) H y);rw[←hE] at hru;have Hru:=aHH hru;have HE:=aHH hE;have k1:=w21.all3;clear hA hT hru hE
 go_in
 go_wp2_with fail;refine Hru.out.mono ?_;rintro e w3 ⟨R,m,d,E',rfl,rfl,mK,hok,N3⟩;rename Int=>E;have hb3:Bl w2 w3:=N3;clear N3 Hru k1;clear_value w2;have HW3:=aHH (w2b.trans hb3);by_cases hz:E=0;case neg=>
  have hq:(E != 0)=true:=(by simp[hz]);have HZ:=aHH hz;clear hz mK hok;go_wp2_with fail;exact aIx (v:=.tuple #[.slice none 0 0,.int .i64 E]) (by simp[results,Tryz.results183,go_sem]) rfl (LA HE.out HZ.out HW3.out)
 case pos=>
  obtain ⟨Wn,Hn,yn,rfl,rfl,rfl,rfl,hW4,hH4,hy⟩:=QU (HE.out.symm.trans hz);obtain ⟨hm2,hrd,hd⟩:=hok hz;subst hz;simp only[aIF] at hm2 hrd;obtain ⟨l,hl⟩:=aH0 (jR (fun x=>pix bs Wn x yn) Wn);have hls:l.sum≤4000:=(by rw[hl,yZ];exact hW4);have hll:l.length≤4001:=by
   rw[hl];unfold jR;have:=(mR (fun x=>pix bs Wn x yn) Wn).1;rw[aH5,aIo];omega
  have hl0:0<l.length:=(by rw[hl];unfold jR;simp);rw[←hl] at hm2 hrd;obtain ⟨n,hn⟩:=aH0 l.length;rw[←hn] at hll hl0 hm2;subst hm2;obtain ⟨ad,rfl,-⟩:=hrd.2 hl0;obtain ⟨zs,hzs⟩:=aH0 (sJ l);have HZl:=aHH (show zs.length=m by rw[hzs,yX,←hn]);have HRz:=aHH (show Reads w3 1 (some ad) zs.length (bD zs) by rw[HZl.out,hzs,yY];exact hrd);have N5:=aHH (show ∀k,yR zs k=(((l.take k).sum:Nat):Int)∧(l.take k).sum≤4000 from fun k=>⟨by rw[hzs];exact wB l k,by have:=lD l k;omega⟩);have Q9:=aHH (fun (cs:List Cd) (h:cs=IN zs yn)=>show cs=IN (sJ (jR (fun x=>pix bs ((Wn:Int)).toNat x ((yn:Int)).toNat) ((Wn:Int)).toNat)) (yn:Int) by
   simp only[aIF];rw[←hl,←hzs];exact h)
  have HN:=aHH hn;have HD:=aHH hd;have YP:=aHH (fun (i a:Nat) (hi:l[i]? = some a) (wx:World) (hx:Bl w3 wx)=>show wx.cell? (ad.add i)=some (.int .i64 a) by
   obtain ⟨ad',e',hc⟩:=(hrd.bl hx).2 hl0;injection e' with e';subst e';exact hc i _ (by unfold aT;rw[aId,hi];rfl))
  have HT3:=aHH (HT.out.bl hb3);obtain ⟨a0,ha0⟩:∃a,l[0]? = some a:=⟨_,aH2 (by rw[←hn];exact hl0)⟩;have hc0:=YP.out 0 a0 ha0 w3 (Bl.refl _);have hs1:(l.take 1).sum=a0:=(by rw[iS ha0];simp);have HS1:=aHH hs1;rw[show ad.add 0=ad by unfold Addr.add;simp] at hc0;clear hs1 ha0 hn hd hzs hrd hl hok mK hls HT;go_wp2_with fail;go_loopw [8,9,10] (fun s8 s9 s10 wr=>∃(i:Nat) (out:List Cd),1≤i∧i≤m+2∧s10=.int .i64 i∧s9=.int .i64 (((l.take i).sum:Nat):Int)∧Bl w3 wr∧Hid (RowC wr w3.heap.size s8 out)∧Hid (out++pT zs yn i=IN zs yn∧out.length*30≤i)) (fun _ _ s10 _=>5000-(intOf s10).toNat);case atStart=>exact ⟨1,[],by decide,by omega,rfl,by rw[HS1.out],Bl.refl _,aHH (RowC.nil _ _),aHH ⟨aIP zs yn,by decide⟩⟩
  case round=>
   rename World=>wr;clear hc0;obtain ⟨i,out,hi1,hin,rfl,rfl,hbr,sS,zH⟩:=hrel;obtain ⟨u,hu⟩:=aH0 ((l.take i).sum);have hu4:u≤4000:=(by have:=(N5.out i).2;omega);have HU:=aHH hu;rw[←hu];clear hu;by_cases hlt:i<m
   ·have aDc:(i:Int)<(m:Int):=(by omega);have hdl:(zs.drop i).length=m-i:=(by rw[aIg,HZl.out]);have hca:=QR (zs.drop i) (some (ad.add i)) (d-i) wr (by rw[hdl];have h:=QT (HRz.out.bl hbr) (show i≤zs.length by rw[HZl.out];omega);rw[HZl.out] at h;exact h) (by omega) (by have:=HD.out;omega) (HT3.out.bl hbr);rw[hdl] at hca;have Hca:=aHH hca;have HDl:=aHH hdl;have hdm:=HD.out;clear hca hdl;go_wp2_with fail;refine Hca.out.mono ?_;rintro e w4 vF;have hP:∃kd t many,e=.returned (.tuple #[.agg #[.int .i64 kd,.string ⟨t.toArray⟩,.int .i64 0,.int .i64 0,.int .i64 0,.int .i64 0],.int .i64 ((many:Nat):Int)])∧(gM (zs.drop i)=some (kd,t,many)∨(many=0∧gM (zs.drop i)=none))∧Bl wr w4:=by
     rcases vF with ⟨kd,t,many,hc,he,hb⟩|⟨hc,he,hb⟩
     ·exact ⟨kd,t,many,he,.inl hc,hb⟩
     ·exact ⟨0,[],0,he,.inr ⟨rfl,hc⟩,hb⟩
    obtain ⟨kd,t,many,rfl,hP,hb4⟩:=hP;clear vF Hca hdm;have HP:=aHH hP;clear hP;go_upto_region 9 with fail;obtain ⟨w5,hw5⟩:=aH0 (w4.alloc (.cells #[.int .i64 kd,.string ⟨t.toArray⟩,.int .i64 0,.int .i64 0,.int .i64 0,.int .i64 0] 161));obtain ⟨gc,hgc⟩:=aH0 w4.heap.size;have bC:=aHW hw5 hgc;have aAX:=aHU hw5;have aDe:w4.heap.size≤gc:=(by omega);have hb3_4:=hbr.trans hb4;have HR4:=aHH (sS.out.bl hb4);rw[←hw5,←hgc];clear hw5 hgc;go_upto_if 41 with fail;go_cut [8,13,15] from 41 to 69 (fun s8 s13 s15 wc=>∃(out2:List Cd) (st:Nat),s13=.int .i64 st∧2≤st∧i+st≤m+2∧Bl w3 wc∧Hid (RowC wc w3.heap.size s8 out2)∧Hid (out2++pT zs yn (i+st)=IN zs yn∧out2.length*30≤i+st));case first=>
     rcases HP.out with hc|⟨rfl,hc⟩
     ·obtain ⟨aD5,aEK,aEL⟩:=pN hc;rw[HDl.out] at aEL;have hm0:(0:Int)<(many:Int):=(by omega);have cc:=bC.all6';have HC:=aHH hc;clear hc HP;go_upto_region 12 with fail;obtain ⟨w6,hw6⟩:=aH0 (((w5.setCell ⟨gc,2,none⟩ (.int .i64 u)).setCell ⟨gc,3,none⟩ (.int .i64 yn)).setCell ⟨gc,5,none⟩ (.int .i64 1));have bC6:Blk w6 gc 161 #[.int .i64 kd,.string ⟨t.toArray⟩,.int .i64 u,yn,.int .i64 0,.int .i64 1]:=(by rw[hw6];exact ((bC.set_ 2 _).set_ 3 _).set_ 5 _);have aBn:Bl w4 w6:=(by rw[hw6];exact ((aAX.setCell aDe _).setCell aDe _).setCell aDe _);rw[←hw6];have HBC:=aHH bC6;clear hw6 bC cc bC6;have hd2:=HD.out;go_wp2_with fail;go_loopw [54] (fun s54 wx=>∃j:Nat,j≤many∧s54=.int .i64 j∧Bl w4 wx∧Blk wx gc 161 #[.int .i64 kd,.string ⟨t.toArray⟩,.int .i64 u,yn,.int .i64 ((((l.take (i+j)).sum:Nat):Int)-(u:Int)),.int .i64 1]) (fun s54 _=>many-(intOf s54).toNat);case atStart=>exact ⟨0,Nat.zero_le _,rfl,aBn,by rw[Nat.add_zero,←HU.out,Int.sub_self];exact HBC.out⟩
      case round=>
       rename World=>wx;obtain ⟨j,hj,rfl,hbx,hbC⟩:=hrel;have cc:=hbC.all6';have aEN:=hb3_4.trans hbx;by_cases hjl:j<many
       ·obtain ⟨a,ha⟩:∃a,l[i+j]? = some a:=⟨_,aH2 (by rw[←HN.out];omega)⟩;have hcj:=YP.out (i+j) a ha wx aEN;rw[←dZ] at hcj;have hss:=iS ha;have hs1:=(N5.out (i+j)).2;have hs2:=(N5.out (i+j+1)).2;obtain ⟨s,hs⟩:=aH0 ((l.take (i+j)).sum);rw[←hs] at hss hs1 cc hbC;have HSs:=aHH hss;have qW:=hbC.set_ 4 (.int .i64 ((s:Int)-(u:Int)+(a:Int)));have AF:=aHH (show Blk (wx.setCell ⟨gc,4,none⟩ (.int .i64 ((s:Int)-(u:Int)+(a:Int)))) gc 161 #[.int .i64 kd,.string ⟨t.toArray⟩,.int .i64 u,yn,.int .i64 ((((l.take (i+(j+1))).sum:Nat):Int)-(u:Int)),.int .i64 1] by
         rw[show i+(j+1)=i+j+1 by omega,HSs.out,show (((s+a:Nat):Int)-(u:Int))=(s:Int)-(u:Int)+(a:Int) by omega];exact qW)
        have aHg:(j:Int)<(many:Int):=(by omega);have ha4:a≤4000:=(by omega);clear hs hss qW ha hbC;go_wp2_with fail;exact ⟨⟨j+1,hjl,by go_num,hbx.setCell aDe _,AF.out⟩,by simp[intOf]<;>omega⟩
       ·obtain rfl:many=j:=(by omega);have aHg:¬(many:Int)<(many:Int):=(by omega);obtain ⟨v,hv⟩:=aH0 ((l.take (i+many)).sum);rw[←hv] at cc hbC;have aEM:=aHH (show (out++[⟨kd,t,u,yn,(v:Int)-u,1⟩])++pT zs yn (i+(many+1))=IN zs yn by
         rw[aIi,←zH.out.1,B0 (by rw[HZl.out];exact hlt) HC.out,(N5.out i).1,(N5.out (i+many)).1,←HU.out,←hv];rfl)
        have ho:=zH.out.2;have HRx:=aHH (HR4.out.bl hbx);clear hv hbC;go_wp2_with (at_builtin;refine aG (w1:=w3) rfl (.tmp 64) (.tmp 66) 158 rfl 161 (.agg #[.int .i64 0,.string ⟨#[]⟩,.int .i64 0,.int .i64 0,.int .i64 0,.int .i64 0]) 6 56 Tryz.underlying158 mY rfl (by omega) w3.heap.size _ out.length (aK out) rfl (aEN.alloc _) (Nat.le_refl _) ((aEN.alloc _).le) (cX HRx.out.1 ((Bl.refl wx).alloc _)) (some ⟨wx.heap.size,0,none⟩) 1 1 (Cd.cells ⟨kd,t,u,yn,(v:Int)-u,1⟩) rfl ((Blk.new _ _ _).reads 1 6 rfl) (EH _) (by unfold maxLen;omega) (by omega) ?_;intro v' w8 bF hb8 hg8;have vJ:=aHH bF);have HR8:=aHH (show RowC w8 w3.heap.size v' (out++[⟨kd,t,u,yn,(v:Int)-u,1⟩]) from ⟨by
         rw[fL,aH5];simpa [aK] using vJ.out,fun e=>by simp at e⟩)
        have HB8:=aHH hb8;clear bF hb8 hg8 vJ cc;go_wp2_with fail;go_meet;case rel=>exact ⟨_,many+1,by go_num,by omega,by omega,HB8.out,HR8,aHH ⟨aEM.out,by simp;omega⟩⟩
     ·have HC:=aHH hc;clear hc HP;go_wp2_with fail;go_meet;case rel=>exact ⟨out,2,rfl,by omega,by omega,hb3_4.trans aAX,aHH (HR4.out.bl aAX),aHH ⟨by rw[←CA (by rw[HZl.out];exact hlt) HC.out];exact zH.out.1,by have:=zH.out.2;omega⟩⟩
    case rest=>
     obtain ⟨out2,st,rfl,h2st,hst,hbc,aCx,aCy⟩:=hcut;rename World=>w7;clear bC aAX HP;have HCc:=aHH hbc;clear hbc;have aFX:st≤5000:=(by omega);go_wp2_with fail;go_loopw [9,16] (fun s9 s16 wx=>∃k:Nat,i≤k∧k≤i+st∧k≤max i m∧s16=.int .i64 k∧s9=.int .i64 (((l.take k).sum:Nat):Int)∧w7=wx) (fun _ s16 _=>10000-(intOf s16).toNat);case atStart=>exact ⟨i,Nat.le_refl _,by omega,by omega,rfl,by rw[HU.out],rfl⟩
     case round=>
      obtain ⟨k,hik,hks,hkm,rfl,rfl,rfl⟩:=hrel;by_cases hq:i+st≤m
      ·have q1:¬(m:Int)<(i:Int)+(st:Int):=(by omega);by_cases hk:k<i+st
       ·have q2:(k:Int)<(i:Int)+(st:Int):=(by omega);obtain ⟨a,ha⟩:∃a,l[k]? = some a:=⟨_,aH2 (by rw[←HN.out];omega)⟩;have hcj:=YP.out k a ha w7 HCc.out;have hss:=iS ha;have hs1:=(N5.out k).2;have hs2:=(N5.out (k+1)).2;have aBm:(k:Int)<(m:Int):=(by omega);obtain ⟨s,hs⟩:=aH0 ((l.take k).sum);rw[←hs] at hss hs1 ⊢;have ha4:a≤4000:=(by omega);have HSs:=aHH hss;clear hs hss ha;go_wp2_with fail;exact ⟨⟨k+1,by omega,by omega,by omega,by go_num,by rw[HSs.out];go_num,by first|rfl|trivial⟩,by simp[intOf]<;>omega⟩
       ·obtain rfl:k=i+st:=(by omega);have q2:¬((i+st:Nat):Int)<(i:Int)+(st:Int):=(by omega);go_wp2_with fail;exact ⟨⟨i+st,out2,by omega,hst,by go_num,rfl,HCc.out,aCx,aCy⟩,by simp[intOf]<;>omega⟩
      ·have q1:(m:Int)<(i:Int)+(st:Int):=(by omega);by_cases hk:k<m
       ·have q2:(k:Int)<(m:Int):=(by omega);obtain ⟨a,ha⟩:∃a,l[k]? = some a:=⟨_,aH2 (by rw[←HN.out];omega)⟩;have hcj:=YP.out k a ha w7 HCc.out;have hss:=iS ha;have hs1:=(N5.out k).2;have hs2:=(N5.out (k+1)).2;have aBm:(k:Int)<(m:Int):=(by omega);obtain ⟨s,hs⟩:=aH0 ((l.take k).sum);rw[←hs] at hss hs1 ⊢;have ha4:a≤4000:=(by omega);have HSs:=aHH hss;clear hs hss ha;go_wp2_with fail;exact ⟨⟨k+1,by omega,by omega,by omega,by go_num,by rw[HSs.out];go_num,by first|rfl|trivial⟩,by simp[intOf]<;>omega⟩
       ·obtain rfl:k=m:=(by omega);have HOv:=aHH (show (l.take k).sum=(l.take (i+st)).sum by rw[IU (show l.length≤k by rw[←HN.out];exact Nat.le_refl _),IU (show l.length≤i+st by rw[←HN.out];omega)]);have q2:¬(k:Int)<(k:Int):=(by omega);go_wp2_with fail;exact ⟨⟨i+st,out2,by omega,hst,by go_num,by rw[HOv.out],HCc.out,aCx,aCy⟩,by simp[intOf]<;>omega⟩
   ·obtain ⟨A',c',rfl,hrd⟩:=bL sS.out.1;have CJ:out=IN zs yn:=by
     have h:=zH.out.1;rw[IP (by rw[HZl.out];omega),aIN] at h;exact h
    have HRd:=aHH hrd;have HO:=aHH CJ;clear hrd CJ;have aDc:¬(i:Int)<(m:Int):=(by omega);go_wp2_with fail;refine aIx (v:=.tuple #[.slice A' out.length c',.int .i64 0]) (by simp[results,Tryz.results183,go_sem]) rfl ⟨A',_,c',0,rfl,HE.out,fun h=>absurd rfl h,fun _ => ?_,HW3.out.trans hbr⟩;rw[←Q9.out out HO.out];exact ⟨rfl,HRd.out⟩
end Go.Proofs.YtllefinciimffaaGreatDoor
namespace Go.Proofs.YtllefinciimffaaGreatDoor
open Go.RowKit
theorem qU (zs : List Int) (y : Int) : ∀ k i, i ≤ zs.length + 1 → (lA zs y k i).length * 30 ≤ zs.length + 1 - i
 |0,_,_=>Nat.zero_le _
 |k+1,i,h=>by
  show (if i<zs.length then _ else _:List Cd).length*30≤_;by_cases hi:i<zs.length
  ·rw[if_pos hi];cases hc:gM (zs.drop i) with
   |none=>
    simp only;have:=qU zs y k (i+2);by_cases h2:i+2≤zs.length+1
    ·have:=this h2;omega
    ·have e:lA zs y k (i+2)=[]:=by
      cases k with
      |zero=>rfl
      |succ k=>show (if _ then _ else _)=[];rw[if_neg (by omega)]
     rw[e];exact Nat.zero_le _
   |some x=>obtain ⟨kd,t,many⟩:=x;obtain ⟨-,h29,hm⟩:=pN hc;rw[aIg] at hm;have:=qU zs y k (i+many+1) (by omega);simp only[aH8];omega
  ·rw[if_neg hi];exact Nat.zero_le _
theorem UZ (zs:List Int) (y:Int):(IN zs y).length*30≤zs.length:=by
 have:=qU zs y zs.length 1 (by omega);unfold IN;omega
theorem U2 : ∀ {ps : List (UInt8 × List UInt8)}, (∀ p ∈ ps, p.2.length = 1) → (fI ps).length = ps.length
 |[],_=>rfl
 |p :: ps,h=>by
  unfold fI;rw[aIM,aH5,h p (List.mem_cons_self ..),aH8];have:=U2 (ps:=ps) fun q hq=>h q (List.mem_cons_of_mem _ hq);unfold fI at this;omega
theorem XZ {m d:List UInt8} (h:jT m=some d):d.length=13:=by
 unfold jT at h;by_cases hh:jW m=true
 ·rw[if_pos hh] at h;cases hp:eE m 12 with
  |none=>rw[hp] at h;cases h
  |some ps=>rw[hp] at h;obtain ⟨f,-,rfl⟩:=Option.map_eq_some_iff.1 h;rw[aH8,U2,mU hp];intro p hpm;obtain ⟨i,hi⟩:=List.getElem?_of_mem hpm;obtain ⟨d,-,-,hn,-⟩:=xR (k:=p.1) (n:=p.2) (rY hp i p hi);rw[hn];rfl
 ·rw[if_neg hh] at h;cases h
theorem IV (m:List UInt8):(fZ m).1.length≤13:=by
 unfold fZ;cases h:jT m with
 |none=>exact Nat.zero_le _
 |some d=>
  simp only;have:=XZ h;split
  ·show d.length≤13;omega
  ·exact Nat.zero_le _
theorem NM (m:List UInt8):(m7 m).1.length≤43:=by
 rcases sG m with ⟨T,hT1,hT2⟩|⟨-,h⟩
 ·have h43:=(K7 hT2).2;rw[K1 hT1 hT2];split
  ·show (jV T).length≤43;unfold jV;rw[aH7,aIg];omega
  ·exact Nat.zero_le _
 ·rw[h];exact Nat.zero_le _
theorem aAu (kind:Int) (m:List UInt8):(rdK kind m).1.length≤43:=by
 unfold rdK aL;have h1:=IV m;have h2:=IV m.reverse;have h3:=NM m;have h4:=NM m.reverse;split
 ·split<;>omega
 ·split<;>omega
theorem IW {zs:List Int} {kind:Int} {t:List UInt8} (h:EY zs kind=some t):t.length≤43:=by
 unfold EY at h;split at h
 ·split at h
  ·rw[←aIw h];exact aAu _ _
  ·cases h
 ·cases h
theorem QV {zs:List Int} {kd:Int} {t:List UInt8} {many:Nat} (h:gM zs=some (kd,t,many)):t.length≤43:=by
 cases he:IM zs with
 |some t'=>
  rw[sH he] at h;obtain ⟨rfl,h2⟩:=Prod.mk.inj (aIw h);obtain ⟨rfl,rfl⟩:=Prod.mk.inj h2;unfold IM at he;split at he
  ·exact IW he
  ·cases he
 |none=>
  cases hf:dY zs 3 with
  |none=>rw[iE he hf] at h;cases h
  |some x=>obtain ⟨m,t'⟩:=x;rw[pM he hf] at h;obtain ⟨rfl,h2⟩:=Prod.mk.inj (aIw h);obtain ⟨rfl,rfl⟩:=Prod.mk.inj h2;exact IW (yV hf).2.2
theorem tU {zs : List Int} {y : Int} (hs : ∀ i j, i ≤ j → 0 ≤ yR zs i ∧ yR zs i ≤ yR zs j ∧ yR zs j ≤ 4000) (hy : 0 ≤ y ∧ y ≤ 4000) : ∀ k i, ∀ c ∈ lA zs y k i, gL c = 0 ∧ c.t.length ≤ 43
 |0,_,c,h=>by cases h
 |k+1,i,c,h=>by
  have h:c∈(if i<zs.length then (match gM (zs.drop i) with
   |some (kd,t,many)=>⟨kd,t,yR zs i,y,yR zs (i+many)-yR zs i,1⟩ :: lA zs y k (i+many+1)
   |none=>lA zs y k (i+2)) else []:List Cd):=h
  by_cases hi:i<zs.length
  ·rw[if_pos hi] at h;cases hc:gM (zs.drop i) with
   |none=>rw[hc] at h;exact tU hs hy k (i+2) c h
   |some x=>
    obtain ⟨kd,t,many⟩:=x;rw[hc] at h;rcases aIk.1 h with rfl|h
    ·obtain ⟨hk,-,-⟩:=pN hc;have h1:=hs i (i+many) (by omega);have h0:=hs 0 i (by omega);refine ⟨?_,QV hc⟩;unfold gL;rw[if_neg (by show ¬(kd≠1∧kd≠2);omega)];have:jA ⟨kd,t,yR zs i,y,yR zs (i+many)-yR zs i,1⟩=true:=by
      unfold jA;simp only[aIs];exact ⟨aQ.2 (by omega),aQ.2 hy,aQ.2 (by omega),aQ.2 (by omega)⟩
     rw[this];rfl
    ·exact tU hs hy k (i+many+1) c h
  ·rw[if_neg hi] at h;cases h
theorem aAv {l:List Nat} {y:Int} (hl:l.sum≤4000) (hy:0≤y∧y≤4000):∀c∈IN (sJ l) y,gL c=0∧c.t.length≤43:=by
 refine tU (fun i j hij => ?_) hy _ _;rw[wB,wB];have h1:=lD l j;have h2:(l.take i).sum≤(l.take j).sum:=by
  have:=lD (l.take j) i
  rwa [List.take_take,Nat.min_eq_left hij] at this
 omega
def lE (bs:List Bool) (W y:Nat):List Cd:=IN (sJ (jR (fun x=>pix bs W x y) W)) (y:Int)
def aP (bs : List Bool) (W step : Nat) : Nat → List Cd
 |0=>[]
 |j+1=>aP bs W step j++lE bs W (j*step)
theorem U3 {bs:List Bool} {W y:Nat} (hW:W≤4000) (hy:y≤4000):∀c∈lE bs W y,gL c=0∧c.t.length≤43:=aAv (by rw[yZ];exact hW) (by omega)
theorem U4 (f:Nat→Bool) (k:Nat):(jR f k).length≤k+1:=by
 unfold jR;have:=(mR f k).1;rw[aH5,aIo];omega
theorem tV (bs:List Bool) (W y:Nat):(lE bs W y).length*30≤W+1:=by
 have h:=UZ (sJ (jR (fun x=>pix bs W x y) W)) (y:Int);rw[yX] at h;have:=U4 (fun x=>pix bs W x y) W;unfold lE;omega
theorem nY (bs : List Bool) (W step : Nat) : ∀ j, (aP bs W step j).length * 30 ≤ j * (W + 1)
 |0=>Nat.zero_le _
 |j+1=>by
  have h1:=nY bs W step j;have h2:=tV bs W (j*step);show (aP bs W step j++lE bs W (j*step)).length*30≤_;rw[aH5,Nat.add_mul,Nat.add_mul];omega
theorem nB {bs : List Bool} {W step H : Nat} (hW : W ≤ 4000) (hH : H ≤ 4000) : ∀ j, (∀ i, i < j → i * step < H) → ∀ c ∈ aP bs W step j, gL c = 0 ∧ c.t.length ≤ 43
 |0,_,c,h=>by cases h
 |j+1,hj,c,h=>by
  rcases aIj.1 h with h|h
  ·exact nB hW hH j (fun i hi=>hj i (by omega)) c h
  ·exact U3 hW (by have:=hj j (by omega);omega) c h
def EI (H step:Nat):Nat:=(H+step-1) / step
theorem NN {H step:Nat} (hs:1≤step) (j:Nat):j*step<H↔j<EI H step:=by
 unfold EI;rw[Nat.lt_iff_add_one_le (m:=j),Nat.le_div_iff_mul_le (by omega),Nat.add_mul];omega
theorem U5 {cs:List Cd} (h:∀c∈cs,gL c=0):eS cs=aE (decide (10000<(cs.length:Int))) 4:=by
 unfold eS;rw[if_pos];have:∀l:List Cd,(∀c∈l,gL c=0)→aB (l.map gL)=0:=by
  intro l;induction l with
  |nil=>intro _;rfl
  |cons c l ih=>intro hl;show (if gL c=0 then aB (l.map gL) else gL c)=0;rw[if_pos (hl c (List.mem_cons_self ..))];exact ih fun x hx=>hl x (List.mem_cons_of_mem _ hx)
 exact this cs h
end Go.Proofs.YtllefinciimffaaGreatDoor
namespace Go.Proofs.YtllefinciimffaaGreatDoor
open Go.RowKit Go.Shelf
def iT (pe step:Int):Int:=aB [pe,aE (!inB step 1 4000) 3]
theorem y8 (cs:List Cd):∀u∈aK cs,u.oneCell'=true:=by
 intro u hu;unfold aK at hu;obtain ⟨c,-,h⟩:=List.mem_flatMap.1 hu;exact EH c u h
def FindRes (W H:Int) (an:Nat) (bs:List Bool) (step:Int) (w:World) (e:Ending) (w':World):Prop:=
 (iT (aF W H an) step≠0∧e=.returned (.tuple #[.slice none 0 0,.int .i64 (iT (aF W H an) step)])∧Bl w w') ∨
 (iT (aF W H an) step=0∧VoteRes (aP bs W.toNat step.toNat (EI H.toNat step.toNat)) w e w')
theorem EJ {W H:Int} {an:Nat} {bs:List Bool} {step:Int} {w w':World} {err:Int} (h:iT (aF W H an) step=err) (hz:err≠0) (hb:Bl w w'):FindRes W H an bs step w (.returned (.tuple #[.slice none 0 0,err])) w':=
 .inl ⟨by rw[h];exact hz,by rw[h],hb⟩
theorem U6 (W H:Int) (A:Option Addr) (an ac:Nat) (bs:List Bool) (step:Int) (w:World) (hA:Reads w 1 A an (bs.map .bool)) (hac:an≤ac) (hT:SpOk w) :
 Calls Tryz.prog 141 #[.agg #[W,H,.slice A an ac],step] w (FindRes W H an bs step w):=by
 let w2:=(w).alloc (.cells #[W,H,.slice A an ac] 43);obtain ⟨w2b,w21⟩:=aHO (x:=w2) w _ _ rfl;have HA:=aHH (hA.bl w2b);have HT:=aHH (hT.bl w2b);have k1:=w21.all3;clear hA hT
 go_in
 go_wp2_with fail;refine (cQ _ _ _ _ _ _).mono ?_;rintro e w3 ⟨rfl,N3⟩;have hb3:Bl w2 w3:=N3;clear N3 k1;clear_value w2;have HW3:=aHH (w2b.trans hb3);obtain ⟨pe,hpe⟩:=aH0 (aF W H an);rw[←hpe];have HPe:=aHH hpe;clear hpe;by_cases hz:pe=0;case neg=>
  have hq:(pe != 0)=true:=(by simp[hz]);have HZ:=aHH hz;have HE:=aHH (show iT (aF W H an) step=pe by
   rw[←HPe.out];show (if pe=0 then _ else pe)=pe;rw[if_neg hz])
  clear hz;go_wp2_with fail;exact aIx (v:=.tuple #[.slice none 0 0,.int .i64 pe]) (by simp[results,Tryz.results141,go_sem]) rfl (EJ HE.out HZ.out HW3.out)
 case pos=>
  have HE0:=aHH (show iT (aF W H an) step=aE (!inB step 1 4000) 3 by
   rw[←HPe.out,hz];unfold iT;cases inB step 1 4000<;>rfl)
  subst hz;by_cases c1:step<1
  ·have HE:=aHH (show iT (aF W H an) step=3 by rw[HE0.out,dF.2 (.inl c1)];rfl);go_wp2_with fail;exact aIx (v:=.tuple #[.slice none 0 0,.int .i64 3]) (by simp[results,Tryz.results141,go_sem]) rfl (EJ HE.out (by decide) HW3.out)
  ·by_cases c2:4000<step
   ·have HE:=aHH (show iT (aF W H an) step=3 by rw[HE0.out,dF.2 (.inr c2)];rfl);go_wp2_with fail;exact aIx (v:=.tuple #[.slice none 0 0,.int .i64 3]) (by simp[results,Tryz.results141,go_sem]) rfl (EJ HE.out (by decide) HW3.out)
   ·have HE:=aHH (show iT (aF W H an) step=0 by rw[HE0.out,aQ.2 (by omega)];rfl);obtain ⟨Wn,Hn,rfl,rfl,rfl,hW4,hH4,hWH⟩:=dQ HPe.out.symm;obtain ⟨st,rfl⟩:∃st:Nat,step=(st:Int):=⟨step.toNat,by omega⟩;have RP:1≤st:=(by omega);have aFX:st≤4000:=(by omega);obtain ⟨J,hJ⟩:=aH0 (EI Hn st);have HJ:=aHH (show ∀j,j*st<Hn↔j<J from fun j=>by rw[hJ];exact NN RP j);have Q9:=aHH (fun (e:Ending) (w':World) (h:VoteRes (aP bs Wn st J) w e w')=>show FindRes (Wn:Int) (Hn:Int) (Wn*Hn) bs (st:Int) w e w' from .inr ⟨HE.out,by
     simp only[aIF];rw[←hJ];exact h⟩)
    have sS:=aHH (fun (y:Nat) (hy:y<Hn) (wx:World) (hx:Bl w2 wx)=>show Calls Tryz.prog 183 #[.agg #[Wn,Hn,.slice A (Wn*Hn) ac],.int .i64 y] wx (fun e w'=>∃R d,e=.returned (.tuple #[.slice R (lE bs Wn y).length d,.int .i64 0])∧Reads w' 6 R (lE bs Wn y).length (aK (lE bs Wn y))∧Bl wx w') from
     (LC (Wn:Int) (Hn:Int) A (Wn*Hn) ac bs (y:Int) wx (HA.out.bl hx) hac (HT.out.bl hx)).mono (by
       rintro e w' ⟨R,m,d,err,rfl,aBo,-,hok,hb⟩;have h0:err=0:=by
        rw[aBo];unfold jC;rw[←HPe.out,aQ.2 (by omega)];rfl
       subst h0;obtain ⟨rfl,hr⟩:=hok rfl;simp only[aIF] at hr ⊢;exact ⟨R,d,rfl,hr,hb⟩))
    have AG:=aHH (show ∀j,j≤J→(aP bs Wn st j).length≤600000∧(lE bs Wn (j*st)).length≤200 from fun j hj=>by
     have h1:=nY bs Wn st j;have h2:=tV bs Wn (j*st);have h3:j≤4000:=by
      rcases Nat.eq_zero_or_pos j with h|h
      ·omega
      ·have:=(HJ.out (j-1)).2 (by omega);have h4:(j-1)*1≤(j-1)*st:=Nat.mul_le_mul_left _ RP;omega
     have h5:j*(Wn+1)≤4000*4001:=aIH h3 (by omega);omega)
    have HTx:=aHH (show ∀c∈aP bs Wn st J,c.t.length≤9223372036854775807 from fun c hc=>by
     have:=(nB hW4 hH4 J (fun i hi=>(HJ.out i).2 hi) c hc).2;omega)
    have k1:=(w21.bl hb3).all3;clear hJ HE0 HE HPe c1 c2 hWH;go_wp2_with fail;go_loopw [7,8] (fun s7 s8 wr=>∃j:Nat,j≤J∧s8=.int .i64 ((j*st:Nat):Int)∧Bl w3 wr∧Hid (wr.ownsRow w3.heap.size 161 6 s7 (aP bs Wn st j).length (aK (aP bs Wn st j)))) (fun _ s8 _=>10000-(intOf s8).toNat);case atStart=>exact ⟨0,Nat.zero_le _,by rw[Nat.zero_mul];rfl,Bl.refl _,aHH (World.ownsRow_nil _ _ _ 6)⟩
    case round=>
     rename World=>wr;clear k1;obtain ⟨j,hj,rfl,hbr,aV⟩:=hrel;have k1:=(w21.bl (hb3.trans hbr)).all3;obtain ⟨y,hy⟩:=aH0 (j*st);have HY:=aHH hy;have hjJ:=HJ.out j;rw[←hy] at hjJ ⊢;by_cases hlt:y<Hn
     ·have hyi:(y:Int)<(Hn:Int):=(by omega);have hj1:=hjJ.1 hlt;have hl:=AG.out j hj;have HC:=aHH (show aP bs Wn st (j+1)=aP bs Wn st j++lE bs Wn y by rw[hy];rfl);rw[←hy] at hl;obtain ⟨cs,hcs⟩:=aH0 (aP bs Wn st j);rw[←hcs] at aV HC hl;obtain ⟨rs,hrs⟩:=aH0 (lE bs Wn y);have qY:=fun wx hx=>sS.out y hlt wx hx;rw[←hrs] at HC hl qY;have aCz:=aHH qY;clear hcs hrs qY hjJ hy;go_wp2_with fail;refine (aCz.out _ (hb3.trans hbr)).mono ?_;rintro e w5 ⟨R,d,rfl,hr,hb5⟩;have HRd:=aHH hr;have HOw:=aHH (cX aV.out hb5);have aCA:=hbr.trans hb5;clear hr aCz;go_wp2_with (at_builtin;refine aG (w1:=w3) rfl (.tmp 35) (.tmp 36) 158 rfl 161 (.agg #[.int .i64 0,.string ⟨#[]⟩,.int .i64 0,.int .i64 0,.int .i64 0,.int .i64 0]) 6 56 Tryz.underlying158 mY rfl (by omega) w3.heap.size _ cs.length (aK cs) rfl aCA (Nat.le_refl _) aCA.le HOw.out R rs.length d (aK rs) rfl HRd.out (y8 rs) (by unfold maxLen;omega) (by omega) ?_;intro v' w8 bF hb8 hg8;have vJ:=aHH bF);have HO8:=aHH (show w8.ownsRow w3.heap.size 161 6 v' (aP bs Wn st (j+1)).length (aK (aP bs Wn st (j+1))) by
       rw[HC.out,fL,aH5];exact vJ.out)
      have HB8:=aHH hb8;clear bF hb8 hg8 vJ;go_wp2_with fail;have hy:=HY.out;have hy2:(j+1)*st=y+st:=(by rw[Nat.add_mul,←hy,Nat.one_mul]);exact ⟨⟨j+1,hj1,by rw[hy2];go_num,HB8.out,HO8⟩,by simp[intOf]<;>omega⟩
     ·have hyi:¬(y:Int)<(Hn:Int):=(by omega);obtain rfl:j=J:=by
       have:¬j<J:=fun h=>hlt (hjJ.2 h);omega
      obtain ⟨R,d,rfl,hrd⟩:=bL aV.out;have hl:=AG.out j hj;have hvo:=XC R d (aP bs Wn st j) wr hrd (by omega) HTx.out;have HVo:=aHH hvo;clear hvo hrd aV;go_wp2_with fail;refine HVo.out.mono ?_;rintro e w9 hv;rcases hv with ⟨h1,rfl,hb⟩|⟨h1,R3,c3,hin,rfl,hr,hb⟩
      ·have HV:=aHH (Q9.out _ w9 (Or.inl ⟨h1,rfl,(HW3.out.trans hbr).trans hb⟩));clear h1 hb HVo;go_wp2_with fail;exact aIx (v:=.tuple #[.slice none 0 0,.int .i64 (eS (aP bs Wn st j))]) (by simp[results,Tryz.results141,go_sem]) rfl HV.out
      ·have HV:=aHH (Q9.out _ w9 (Or.inr ⟨h1,R3,c3,hin,rfl,hr,(HW3.out.trans hbr).trans hb⟩));obtain ⟨q,hq⟩:=aH0 ((cB (aP bs Wn st j)).length);rw[←hq] at HV ⊢;clear h1 hb HVo hr hq;go_wp2_with fail;exact aIx (v:=.tuple #[.slice R3 q c3,.int .i64 0]) (by simp[results,Tryz.results141,go_sem]) rfl HV.out
def CodesRes (cs:List Cd) (w:World) (e:Ending) (w':World):Prop:=∃R c h,e=.returned (.slice R (cB cs).length c)∧Reads w' 6 R (cB cs).length (aK (fB (cB cs) h))∧Bl w w'
theorem LD (W H st:Nat) (A:Option Addr) (ac:Nat) (bs:List Bool) (w:World) (hA:Reads w 1 A (W*H) (bs.map .bool)) (hW:W≤4000) (hH:H≤4000) (hHW:H*(W+1)≤60000) (RP:1≤st) (aFX:st≤4000) (hT:SpOk w) :
 Calls Tryz.prog 95 #[.agg #[W,H,.slice A (W*H) ac],st] w (CodesRes (aP bs W st (EI H st)) w):=by
 let w2:=(w).alloc (.cells #[W,H,.slice A (W*H) ac] 43);obtain ⟨w2b,w21⟩:=aHO (x:=w2) w _ _ rfl;obtain ⟨HA,HT,HW2⟩:=aHI (hA.bl w2b) (hT.bl w2b) w2b;obtain ⟨J,hJ⟩:=aH0 (EI H st);have HJ:=aHH (show ∀j,j*st<H↔j<J from fun j=>by rw[hJ];exact NN RP j);rw[←hJ];have sS:=aHH (fun (y:Nat) (hy:y<H) (wx:World) (hx:Bl w2 wx)=>show Calls Tryz.prog 151 #[.agg #[W,H,.slice A (W*H) ac],.int .i64 y] wx (RowRes (lE bs W y) wx) from
  UY W H A ac bs y wx (HA.out.bl hx) hW (by omega) hy (HT.out.bl hx))
 have AG:=aHH (show ∀j,j≤J→(aP bs W st j).length≤2000∧(lE bs W (j*st)).length≤200 from fun j hj=>by
  have h1:=nY bs W st j;have h2:=tV bs W (j*st);have h3:j≤H:=by
   rcases Nat.eq_zero_or_pos j with h|h
   ·omega
   ·have:=(HJ.out (j-1)).2 (by omega);have h4:(j-1)*1≤(j-1)*st:=Nat.mul_le_mul_left _ RP;omega
  have h5:j*(W+1)≤H*(W+1):=Nat.mul_le_mul_right _ h3;omega)
 have HOk:=aHH (show ∀c∈aP bs W st J,CdOk 1 c from fun c hc=>by
  have h:=nB (H:=H) hW (by omega) J (fun i hi=>(HJ.out i).2 hi) c hc;exact qK h.1 (by omega))
 have k1:=w21.all3;clear hA hT hJ
 go_in
 go_upto_region 1 with fail
 change Code.wp _ _ _ _ w2
 clear_value w2;go_wp2_with fail;go_loopw [5,6] (fun s5 s6 wr=>∃j:Nat,j≤J∧s6=.int .i64 ((j*st:Nat):Int)∧Bl w2 wr∧Hid (wr.ownsRow w2.heap.size 161 6 s5 (aP bs W st j).length (aK (aP bs W st j)))) (fun _ s6 _=>10000-(intOf s6).toNat);case atStart=>exact ⟨0,Nat.zero_le _,by rw[Nat.zero_mul];rfl,Bl.refl _,aHH (World.ownsRow_nil _ _ _ 6)⟩
 case round=>
  rename World=>wr;clear k1;obtain ⟨j,hj,rfl,hbr,aV⟩:=hrel;have k1:=(w21.bl hbr).all3;obtain ⟨y,hy⟩:=aH0 (j*st);have HY:=aHH hy;have hjJ:=HJ.out j;rw[←hy] at hjJ ⊢;by_cases hlt:y<H
  ·have hyi:(y:Int)<(H:Int):=(by omega);have hj1:=hjJ.1 hlt;have hl:=AG.out j hj;have HC:=aHH (show aP bs W st (j+1)=aP bs W st j++lE bs W y by rw[hy];rfl);rw[←hy] at hl;obtain ⟨cs,hcs⟩:=aH0 (aP bs W st j);rw[←hcs] at aV HC hl;obtain ⟨rs,hrs⟩:=aH0 (lE bs W y);have qY:=fun wx hx=>sS.out y hlt wx hx;rw[←hrs] at HC hl qY;unfold RowRes at qY;have aCz:=aHH qY;clear hcs hrs qY hjJ hy;go_wp2_with fail;refine (aCz.out _ hbr).mono ?_;rintro e w5 ⟨R,d,rfl,hr,hb5⟩;have HRd:=aHH hr;have HOw:=aHH (cX aV.out hb5);have aCA:=hbr.trans hb5;clear hr aCz;go_wp2_with (at_builtin;refine aG (w1:=w2) rfl (.tmp 14) (.tmp 17) 158 rfl 161 (.agg #[.int .i64 0,.string ⟨#[]⟩,.int .i64 0,.int .i64 0,.int .i64 0,.int .i64 0]) 6 56 Tryz.underlying158 mY rfl (by omega) w2.heap.size _ cs.length (aK cs) rfl aCA (Nat.le_refl _) aCA.le HOw.out R rs.length d (aK rs) rfl HRd.out (y8 rs) (by unfold maxLen;omega) (by omega) ?_;intro v' w8 bF hb8 hg8;have vJ:=aHH bF);have HO8:=aHH (show w8.ownsRow w2.heap.size 161 6 v' (aP bs W st (j+1)).length (aK (aP bs W st (j+1))) by
    rw[HC.out,fL,aH5];exact vJ.out)
   have HB8:=aHH hb8;clear bF hb8 hg8 vJ;go_wp2_with fail;have hy:=HY.out;have hy2:(j+1)*st=y+st:=(by rw[Nat.add_mul,←hy,Nat.one_mul]);exact ⟨⟨j+1,hj1,by rw[hy2];go_num,HB8.out,HO8⟩,by simp[intOf]<;>omega⟩
  ·have hyi:¬(y:Int)<(H:Int):=(by omega);obtain rfl:j=J:=by
    have:¬j<J:=fun h=>hlt (hjJ.2 h);omega
   obtain ⟨R,d,rfl,hrd⟩:=bL aV.out;have hl:=AG.out j hj;have hvo:=QA R d (aP bs W st j) wr hrd (by omega) HOk.out;have HVo:=aHH hvo;clear hvo hrd aV;go_wp2_with fail;refine HVo.out.mono ?_;rintro e w9 ⟨R3,c3,hin,rfl,hr,hb⟩;obtain ⟨q,hq⟩:=aH0 ((cB (aP bs W st j)).length);have HV:=aHH (show CodesRes (aP bs W st j) w (.returned (.slice R3 q c3)) w9 from ⟨R3,c3,hin,by rw[hq],hr,(HW2.out.trans hbr).trans hb⟩);rw[←hq];clear hb HVo hr hq;go_wp2_with fail;exact aIx (v:=.slice R3 q c3) (by simp[results,Tryz.results95,go_sem]) rfl HV.out
end Go.Proofs.YtllefinciimffaaGreatDoor
