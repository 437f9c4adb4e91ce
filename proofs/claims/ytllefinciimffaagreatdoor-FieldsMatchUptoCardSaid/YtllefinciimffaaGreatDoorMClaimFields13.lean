import Derived.Test.YtllefinciimffaaGreatDoorMClaimFields11
import Derived.Lib.AppendIntMem
import Derived.Lib.AtoiTie
import Derived.Lib.AtoiAllCases
import Derived.Shelf.Strconv.ErrVarAll
import Derived.Shelf.Strconv.Itoa3
import Derived.Shelf.Small.Wraps
set_option maxHeartbeats 20000000
set_option maxRecDepth 100000
namespace Go.Proofs.YtllefinciimffaaGreatDoor
open Go.RowKit
def jC (pe H y:Int):Int:=aB [pe,aE (!inB y 0 (H-1)) 13]
def RunsRes (W H:Int) (an:Nat) (bs:List Bool) (y:Int) (w:World) (e:Ending) (w':World):Prop:=∃R m d err,e=.returned (.tuple #[.slice R m d,.int .i64 err])∧err=jC (aF W H an) H y∧(err≠0→R=none∧m=0) ∧
 (err=0→m=(jR (fun x=>pix bs W.toNat x y.toNat) W.toNat).length∧Reads w' 1 R m (aT (jR (fun x=>pix bs W.toNat x y.toNat) W.toNat))∧m≤d)∧Bl w w'
theorem DK {W H:Int} {an:Nat} {bs:List Bool} {y:Int} {w w':World} {err:Int} (h:jC (aF W H an) H y=err) (hz:err≠0) (hb:Bl w w'):RunsRes W H an bs y w (.returned (.tuple #[.slice none 0 0,err])) w':=
 ⟨none,0,0,err,rfl,h.symm,fun _=>⟨rfl,rfl⟩,fun h=>absurd h hz,hb⟩
theorem W3 (W H:Int) (A:Option Addr) (an ac:Nat) (bs:List Bool) (y:Int) (w:World) (hA:Reads w 1 A an (bs.map .bool)) (hac:an≤ac) :
 Calls Tryz.prog 236 #[.agg #[W,H,.slice A an ac],y] w (RunsRes W H an bs y w):=by
 let w2:=(w).alloc (.cells #[W,H,.slice A an ac] 43);obtain ⟨w2b,w21⟩:=aHO (x:=w2) w _ _ rfl;have HA:=aHH (hA.bl w2b);have k1:=w21.all3;clear hA
 go_in
 go_wp2_with fail;refine (cQ _ _ _ _ _ _).mono ?_;rintro e w3 ⟨rfl,N3⟩;have hb3:Bl w2 w3:=N3;clear N3 k1;clear_value w2;obtain ⟨pe,hpe⟩:=aH0 (aF W H an);rw[←hpe];have HPe:=aHH hpe;clear hpe;by_cases hz:pe=0;case neg=>
  have hq:(pe != 0)=true:=(by simp[hz]);have HZ:=aHH hz;have HE:=aHH (show jC (aF W H an) H y=pe by
   rw[←HPe.out];show (if pe=0 then _ else pe)=pe;rw[if_neg hz])
  clear hz;go_wp2_with fail;exact aIx (v:=.tuple #[.slice none 0 0,.int .i64 pe]) (by simp[results,Tryz.results236,go_sem]) rfl (DK HE.out HZ.out (w2b.trans hb3))
 case pos=>
  obtain ⟨W',H',rfl,rfl,rfl,hW4,hH4,hWH⟩:=dQ (HPe.out.symm.trans hz);subst hz;have hsz:=aR (fU HPe.out.symm).1;have HE0:=aHH (show jC (aF (W':Int) (H':Int) (W'*H')) (H':Int) y=aE (!inB y 0 ((H':Int)-1)) 13 by
   rw[←HPe.out];unfold jC;cases inB y 0 ((H':Int)-1)<;>rfl)
  have k1:=(w21.bl hb3).all3;by_cases c1:y<0
  ·have HE:=aHH (show jC (aF (W':Int) (H':Int) (W'*H')) (H':Int) y=13 by
    rw[HE0.out,dF.2 (.inl c1)];rfl)
   go_wp2_with fail;exact aIx (v:=.tuple #[.slice none 0 0,.int .i64 13]) (by simp[results,Tryz.results236,go_sem]) rfl (DK HE.out (by decide) (w2b.trans hb3))
  ·by_cases c2:(H':Int)≤y
   ·have HE:=aHH (show jC (aF (W':Int) (H':Int) (W'*H')) (H':Int) y=13 by
     rw[HE0.out,dF.2 (.inr (by omega))];rfl)
    go_wp2_with fail;exact aIx (v:=.tuple #[.slice none 0 0,.int .i64 13]) (by simp[results,Tryz.results236,go_sem]) rfl (DK HE.out (by decide) (w2b.trans hb3))
   ·have HE:=aHH (show jC (aF (W':Int) (H':Int) (W'*H')) (H':Int) y=0 by
     rw[HE0.out,aQ.2 ⟨by omega,by omega⟩];rfl)
    obtain ⟨Y,rfl⟩:=Int.eq_ofNat_of_zero_le (show 0≤y by omega);have hY:Y<H':=(by omega);obtain ⟨q,hq⟩:=aH0 (Y*W');have hqI:(Y:Int)*(W':Int)=(q:Int):=(by rw[hq,aIG]);have hqI2:((Y:Int)+1)*(W':Int)=(q:Int)+(W':Int):=(by rw[Int.add_mul,hqI,Int.one_mul]);have qY:q+W'≤W'*H':=(by rw[hq,←Nat.succ_mul,Nat.mul_comm W' H'];exact Nat.mul_le_mul_right W' hY);have hW1:1≤W':=(by omega);have hqc:q+W'≤ac:=(by omega);obtain ⟨ad,hAd,NZ⟩:∃ad,A=some ad∧∀x,x<W'→w2.cell? (ad.add (q+x))=some (.bool (pix bs W' x Y)):=by
     obtain ⟨ad,u,e,-,-⟩:=HA.out.at_ (k:=q) (by omega);refine ⟨ad,e,fun x hx => ?_⟩;obtain ⟨ad',e',h⟩:=rJ HA.out (k:=q+x) (by omega);rw[e] at e';obtain rfl:=aIw e';rw[h];unfold pix;rw[hq]
    subst hAd;have HCl:=aHH NZ;obtain ⟨f,hf⟩:∃f,f=fun x=>pix bs W' x Y:=⟨_,rfl⟩;have HF:=aHH hf;have hn1:decide ((Y:Int)<0)=false:=aIt c1;have hn2:¬(H'≤Y):=(by omega);have hn3:¬((H':Int)≤(Y:Int)):=(by omega);clear c1 c2 HE0 NZ hf hq;go_upto_region 7 with fail;obtain ⟨w4,hw4⟩:=aH0 (w3.alloc (.cells #[.int .i64 0] 3));have hb4:=aHU hw4;have h0:w4.ownsRow w3.heap.size 3 1 (.slice (some ⟨w3.heap.size,0,none⟩) 1 1) 1 (gU (bE f 0)):=(by rw[hw4];exact SX);rw[←hw4];clear hw4;have H0:=aHH h0;clear h0 k1;have mJ:=hb3.trans hb4;have k1:=(w21.bl mJ).all3;go_wp2_with fail;rw[show q+W'-q=W' from Nat.add_sub_cancel_left _ _];go_loopw [38,7,8] (fun u v x wr=>∃k:Nat,k≤W'∧u=.int .i64 k∧x=.bool (vA f k)∧Bl w3 wr∧Hid (wr.ownsRow w3.heap.size 3 1 v ((bE f k).1.length+1) (gU (bE f k)))) (fun u _ _ _=>W'-(RowKit.intOf u).toNat);case atStart=>exact ⟨0,Nat.zero_le _,rfl,rfl,hb4,H0⟩
    case round=>
     clear k1;obtain ⟨k,hk,rfl,rfl,hbr,aV⟩:=hrel;obtain ⟨g,cap,rfl,hgB,ZJ⟩:=gF aV.out (by omega);have aBT:=aHH ZJ;clear ZJ;by_cases hlt:k<W'
     ·have hle:=mR f k;have hpx:wr.cell? (ad.add (q+k))=some (.bool (f k)):=by
       have h:=(hb3.trans hbr).at (HCl.out k hlt);rw[HF.out];exact h
      have aGF:wr.cell? ((ad.add q).add k)=some (.bool (f k)):=(by rw[dZ];exact hpx);obtain ⟨l,hl⟩:=aH0 ((bE f k).1);obtain ⟨c,hc⟩:=aH0 ((bE f k).2);have hrc:gU (bE f k)=aT l++[.int .i64 c]:=(by rw[hl,hc];rfl);have vI:=aV.out;rw[hrc,←hl] at vI;have hs1:=xN (f:=f) (k:=k);have hs2:=DF (f:=f) (k:=k);rw[←hl,←hc] at hs1 hs2 hle;rw[←hl];have hin:vA f (k+1)=f k:=rfl;obtain ⟨n,hn⟩:=aH0 l.length;rw[←hn] at vI hle ⊢;obtain ⟨HOw,HIn,HNl,HBr⟩:=aHJ vI hin hn hbr;obtain ⟨p,hp⟩:=aH0 (f k);rw[←hp] at HIn hs1 hs2 hpx aGF;obtain ⟨q',hq'⟩:=aH0 (vA f k);rw[←hq'] at hs1 hs2 ⊢;have hkn:((n+1:Nat):Int)-1=(n:Int):=(by omega);clear vI aV hrc hl hc hn hp hq' hin hbr;by_cases hpq:p=q'
      ·have HS:=aHH (hs1 hpq);have hcl:wr.cell? ⟨g,n,none⟩=some (.int .i64 c):=mS HOw.out (by rw[aIa (by rw[cY,HNl.out];omega),cY,HNl.out,Nat.sub_self];rfl);have hfz:=(kR HOw.out).2;have AF:=aHH (show (wr.setCell ⟨g,n,none⟩ (.int .i64 ((c:Int)+1))).ownsRow w3.heap.size 3 1 (.slice (some ⟨g,0,none⟩) (n+1) cap) ((bE f (k+1)).1.length+1) (gU (bE f (k+1))) by
        have h:=dO HOw.out n (.int .i64 ((c+1:Nat):Int));rw[HNl.out,DG,←HNl.out] at h;rw[HS.out];show World.ownsRow _ _ _ _ _ (l.length+1) (aT l++[.int .i64 ((c+1:Nat):Int)]);rw[←HNl.out];exact h)
       clear hs1 hs2;go_wp2_with fail;exact ⟨⟨k+1,hlt,by go_num,by rw[HIn.out,hpq],HBr.out.setCell hgB _,AF⟩,by simp[RowKit.intOf]<;>omega⟩
      ·have HS:=aHH (hs2 hpq);have aDM:(p != q')=true:=(by rw[bne_iff_ne];exact hpq);have hpe:(p==q')=false:=(by rw[aIr];exact hpq);have V5:=HBr.out;have t1:w3.heap.size≤wr.heap.size:=V5.le;have t2:(n+1+1)*8≤140737488355328:=(by omega);have t3:n+1+1≤maxLen:=(by unfold maxLen;omega);clear hs1 hs2;go_wp2_with (at_builtin;refine bI (w1:=w3) rfl (.tmp 45) (.tmp 46) 47 rfl 3 (.int .i64 0) 8 Tryz.underlying47 iI rfl w3.heap.size _ (n+1) (aT l++[.int .i64 c]) rfl (.int .i64 0) rfl ?a1 ?a2 ?a3 ?a4 ?a5 ?a6 ?a7 ?a8;exact rfl;exact V5;exact Nat.le_refl _;exact t1;exact HOw.out;exact t2;exact t3;intro v' w8 bF hb8 hg8;obtain ⟨g2,cap2,rfl,hg2,-⟩:=gF bF (by omega);have vJ:=aHH bF;have HB8:=aHH hb8;have hcl:w8.cell? ⟨g2,n+1,none⟩=some (.int .i64 0):=mS vJ.out (SW HNl.out c _);have hfz:=(kR vJ.out).2;clear bF hb8 hg8);have AF:=aHH (show (w8.setCell ⟨g2,n+1,none⟩ (.int .i64 1)).ownsRow w3.heap.size 3 1 (.slice (some ⟨g2,0,none⟩) (n+1+1) cap2) ((bE f (k+1)).1.length+1) (gU (bE f (k+1))) by
        have h:=dO vJ.out (n+1) (.int .i64 ((1:Nat):Int));have e:=F3 l c 0 1;rw[←HNl.out] at e;rw[show (Value.int .i64 (0:Int))=Value.int .i64 ((0:Nat):Int) from rfl,e] at h;rw[HS.out];show World.ownsRow _ _ _ _ _ ((l++[c]).length+1) (aT (l++[c])++[.int .i64 ((1:Nat):Int)]);rw[aH5,aIo,←HNl.out];exact h)
       go_wp2_with fail;exact ⟨⟨k+1,hlt,by go_num,by rw[HIn.out],HB8.out.setCell hg2 _,AF⟩,by simp[RowKit.intOf]<;>omega⟩
     ·obtain rfl:k=W':=(by omega);obtain ⟨A2,c2,e2,hr2⟩:=bL aV.out;injection e2 with q1 _ q3;subst q1;subst q3;have HRr:=aHH hr2;clear hr2 aV;have hll:(jR f k).length=(bE f k).1.length+1:=(by unfold jR;rw[aH5,aIo]);go_wp2_with fail;refine aIx (v:=.tuple #[.slice (some ⟨g,0,none⟩) ((bE f k).1.length+1) cap,.int .i64 0]) (by simp[results,Tryz.results236,go_sem]) rfl ⟨some ⟨g,0,none⟩,_,cap,0,rfl,HE.out.symm,fun h=>absurd rfl h,fun _ => ?_,w2b.trans (hb3.trans hbr)⟩;simp only[aIF];rw[←HF.out];refine ⟨hll.symm,?_,aBT.out⟩;rw[←rQ];exact HRr.out
theorem Reads.sub {w:World} {n:Nat} {ad:Addr} {xs:List Value} (h:Reads w 1 (some ad) n xs) {s m:Nat} (hs:s+m≤n):Reads w 1 (some (ad.add s)) m ((xs.drop s).take m):=by
 have hl:=h.1;refine ⟨by rw[aH7,aIg];omega,fun hm=>⟨_,rfl,fun j u hj => ?_⟩⟩;have hjm:j<m:=by
  have:=(aH3.1 hj).1;rw[aH7] at this;omega
 rw[aIe hjm,aIf] at hj;obtain ⟨ad',e,hc⟩:=h.2 (by omega);obtain rfl:=aIw e;rw[dZ];exact hc _ _ hj
def bD (zs:List Int):List Value:=zs.map (.int .i64)
theorem n8 {w:World} {A:Option Addr} {zs:List Int} {i:Nat} {z:Int} (h:Reads w 1 A zs.length (bD zs)) (hi:zs[i]? = some z):∃ad,A=some ad∧w.cell? (ad.add i)=some (.int .i64 z):=by
 obtain ⟨ad,u,e,hu,hc⟩:=h.at_ (aH3.1 hi).1;unfold bD at hu;rw[aId,hi] at hu;obtain rfl:=aIw hu;exact ⟨ad,e,hc⟩
theorem GC (f:Int→Int→Int) (z0:Int) (r:List Int) {j:Nat} {x:Int} (h:r[j]? = some x):(r.take (j+1)).foldl f z0=f ((r.take j).foldl f z0) x:=by
 rw[aIJ,h,List.foldl_append];rfl
def YZ : List Int → Int
 |[]=>0
 |z :: r=>r.foldl min z
def Y3 : List Int → Int
 |[]=>0
 |z :: r=>r.foldl max z
theorem J3 (A:Option Addr) (c:Nat) (zs:List Int) (w:World) (hx:Reads w 1 A zs.length (bD zs)) (hp:1≤zs.length) (hl:zs.length≤1048576) :
 Calls Tryz.prog 253 #[.slice A zs.length c] w fun e w'=>e=.returned (.int .i64 (YZ zs))∧w=w':=by
 obtain ⟨z0,r,hzr⟩:∃z r,zs=z :: r:=by
  cases zs with
  |nil=>simp at hp
  |cons z r=>exact ⟨z,r,rfl⟩
 have cT:zs.length=r.length+1:=(by rw[hzr];rfl);obtain ⟨ad,rfl,c0⟩:=n8 hx (i:=0) (z:=z0) (by rw[hzr];rfl);rw[Addr.add_zero'] at c0;obtain ⟨n,hn⟩:=aH0 zs.length;obtain ⟨HX,HZ,HN⟩:=aHI hx hzr hn;rw[←hn] at cT hp hl ⊢;have aGG:¬((n:Int)<1):=(by omega);have AG:=aHH cT;have hrl:r.length≤1048576:=(by omega);clear hx hzr hn cT
 go_in
 go_wp2_with fail;go_loopw [4,3] (fun u v wr=>∃j:Nat,j≤r.length∧u=.int .i64 ((j+1:Nat):Int)∧v=.int .i64 ((r.take j).foldl min z0)∧wr=w) (fun u _ _=>n-(RowKit.intOf u).toNat);case atStart=>exact ⟨0,Nat.zero_le _,rfl,rfl,by trivial⟩
 case round=>
  obtain ⟨j,hj,rfl,rfl,rfl⟩:=hrel;by_cases hlt:j<r.length
  ·obtain ⟨x,hx⟩:∃x,r[j]? = some x:=⟨_,aH2 hlt⟩;obtain ⟨ad',e,c1⟩:=n8 HX.out (i:=j+1) (z:=x) (by rw[HZ.out];exact hx);obtain rfl:=aIw e;rw[Addr.add_succ'] at c1;have hst:=GC min z0 r hx;obtain ⟨m,hm⟩:=aH0 ((r.take j).foldl min z0);rw[←hm] at hst ⊢;have HSt:=aHH hst;have hjI:((j+1:Nat):Int)<(n:Int):=(by have:=AG.out;omega);clear hst hm hx e;go_wp2_with fail;exact ⟨⟨j+1,hlt,by go_num,by rw[HSt.out],by trivial⟩,by have:=AG.out;simp[RowKit.intOf]<;>omega⟩
  ·obtain rfl:j=r.length:=(by omega);have iG:r.take r.length=r:=aH9;rw[iG];have HE:=aHH (show r.foldl min z0=YZ zs by rw[HZ.out];rfl);have hjI:¬(((r.length+1:Nat):Int)<(n:Int)):=(by have:=AG.out;omega);clear iG;go_wp2_with fail;go_ret;exact ⟨cP HE.out,rfl⟩
theorem J4 (A:Option Addr) (c:Nat) (zs:List Int) (w:World) (hx:Reads w 1 A zs.length (bD zs)) (hp:1≤zs.length) (hl:zs.length≤1048576) :
 Calls Tryz.prog 254 #[.slice A zs.length c] w fun e w'=>e=.returned (.int .i64 (Y3 zs))∧w=w':=by
 obtain ⟨z0,r,hzr⟩:∃z r,zs=z :: r:=by
  cases zs with
  |nil=>simp at hp
  |cons z r=>exact ⟨z,r,rfl⟩
 have cT:zs.length=r.length+1:=(by rw[hzr];rfl);obtain ⟨ad,rfl,c0⟩:=n8 hx (i:=0) (z:=z0) (by rw[hzr];rfl);rw[Addr.add_zero'] at c0;obtain ⟨n,hn⟩:=aH0 zs.length;obtain ⟨HX,HZ,HN⟩:=aHI hx hzr hn;rw[←hn] at cT hp hl ⊢;have aGG:¬((n:Int)<1):=(by omega);have AG:=aHH cT;have hrl:r.length≤1048576:=(by omega);clear hx hzr hn cT
 go_in
 go_wp2_with fail;go_loopw [4,3] (fun u v wr=>∃j:Nat,j≤r.length∧u=.int .i64 ((j+1:Nat):Int)∧v=.int .i64 ((r.take j).foldl max z0)∧wr=w) (fun u _ _=>n-(RowKit.intOf u).toNat);case atStart=>exact ⟨0,Nat.zero_le _,rfl,rfl,by trivial⟩
 case round=>
  obtain ⟨j,hj,rfl,rfl,rfl⟩:=hrel;by_cases hlt:j<r.length
  ·obtain ⟨x,hx⟩:∃x,r[j]? = some x:=⟨_,aH2 hlt⟩;obtain ⟨ad',e,c1⟩:=n8 HX.out (i:=j+1) (z:=x) (by rw[HZ.out];exact hx);obtain rfl:=aIw e;rw[Addr.add_succ'] at c1;have hst:=GC max z0 r hx;obtain ⟨m,hm⟩:=aH0 ((r.take j).foldl max z0);rw[←hm] at hst ⊢;have HSt:=aHH hst;have hjI:((j+1:Nat):Int)<(n:Int):=(by have:=AG.out;omega);clear hst hm hx e;go_wp2_with fail;exact ⟨⟨j+1,hlt,by go_num,by rw[HSt.out],by trivial⟩,by have:=AG.out;simp[RowKit.intOf]<;>omega⟩
  ·obtain rfl:j=r.length:=(by omega);have iG:r.take r.length=r:=aH9;rw[iG];have HE:=aHH (show r.foldl max z0=Y3 zs by rw[HZ.out];rfl);have hjI:¬(((r.length+1:Nat):Int)<(n:Int)):=(by have:=AG.out;omega);clear iG;go_wp2_with fail;go_ret;exact ⟨cP HE.out,rfl⟩
theorem J5 (f : Int → Int → Int) (hf : ∀ a b, f a b = a ∨ f a b = b) (lo hi : Int) : ∀ (r : List Int) (z : Int), (lo ≤ z ∧ z ≤ hi) → (∀ x ∈ r, lo ≤ x ∧ x ≤ hi) → lo ≤ r.foldl f z ∧ r.foldl f z ≤ hi
 |[],_,h,_=>h
 |x :: r,z,h,hr=>by
  refine J5 f hf lo hi r (f z x) ?_ fun y hy=>hr y (List.mem_cons_of_mem _ hy);rcases hf z x with e|e
  ·rw[e];exact h
  ·rw[e];exact hr x (List.mem_cons_self ..)
theorem xU {zs:List Int} (hp:1≤zs.length) (h:∀z∈zs,1≤z∧z≤4000):(1≤YZ zs∧YZ zs≤4000)∧(1≤Y3 zs∧Y3 zs≤4000):=by
 cases zs with
 |nil=>simp at hp
 |cons z r=>have h1:=h z (List.mem_cons_self ..);have h2:∀x∈r,1≤x∧x≤4000:=fun x hx=>h x (List.mem_cons_of_mem _ hx);exact ⟨J5 min (fun a b=>by omega) 1 4000 r z h1 h2,J5 max (fun a b=>by omega) 1 4000 r z h1 h2⟩
def tI (r:Int) (zs:List Int):Bool:=decide (YZ zs+Y3 zs<2*r)
theorem MX (r:Int) (A:Option Addr) (c:Nat) (zs:List Int) (w:World) (hr:1≤r∧r≤4000) (hx:Reads w 1 A zs.length (bD zs)) (hp:1≤zs.length) (hl:zs.length≤1048576) (h:∀z∈zs,1≤z∧z≤4000) :
 Calls Tryz.prog 326 #[r,.slice A zs.length c] w fun e w'=>e=.returned (.bool (tI r zs))∧w=w':=by
 have hmm:=xU hp h;have h1:=J3 A c zs w hx hp hl;have h2:=J4 A c zs w hx hp hl;obtain ⟨lo,hlo⟩:=aH0 (YZ zs);obtain ⟨hi,hhi⟩:=aH0 (Y3 zs);rw[←hlo] at h1;rw[←hhi] at h2;rw[←hlo,←hhi] at hmm;obtain ⟨HD,H1,H2⟩:=aHI (show tI r zs=decide (lo+hi<2*r) by rw[hlo,hhi];rfl) h1 h2;clear h1 h2 hlo hhi hx h
 go_in
 go_wp2_with fail;refine H1.out.mono ?_;rintro e w' ⟨rfl,rfl⟩;go_wp2_with fail;refine H2.out.mono ?_;rintro e w' ⟨rfl,rfl⟩;go_wp2_with fail;go_ret;exact ⟨aS HD.out.symm,rfl⟩
end Go.Proofs.YtllefinciimffaaGreatDoor
namespace Go.Proofs
open Go.Shelf
def Tryz.lays171_ren:Go.Shelf.Ren:=⟨fun|171=>60|243=>122|246=>169|283=>225|284=>226|285=>227|286=>228|129=>251|317=>279|318=>280|319=>281|320=>282|337=>323|338=>324|n=>n,fun|3=>3|9=>9|2=>2|4=>4|171=>269|0=>0|53=>270|37=>92|5=>5|173=>273|212=>320|51=>277|20=>20|213=>321|46=>233|232=>366|233=>367|n=>n,fun|17=>1|18=>8|19=>9|n=>n⟩
theorem Tryz.lays171 : Go.Proofs.LaysM.n171 Tryz.prog Tryz.lays171_ren := {
 mixed:=by kernel_rfl
 f129:=Tryz.func251.trans (congrArg some (by kernel_rfl))
 f171:=Tryz.func60.trans (congrArg some (by kernel_rfl))
 f243:=Tryz.func122.trans (congrArg some (by kernel_rfl))
 f246:=Tryz.func169.trans (congrArg some (by kernel_rfl))
 f283:=Tryz.func225.trans (congrArg some (by kernel_rfl))
 f284:=Tryz.func226.trans (congrArg some (by kernel_rfl))
 f285:=Tryz.func227.trans (congrArg some (by kernel_rfl))
 f286:=Tryz.func228.trans (congrArg some (by kernel_rfl))
 f317:=Tryz.func279.trans (congrArg some (by kernel_rfl))
 f318:=Tryz.func280.trans (congrArg some (by kernel_rfl))
 f319:=Tryz.func281.trans (congrArg some (by kernel_rfl))
 f320:=Tryz.func282.trans (congrArg some (by kernel_rfl))
 f337:=Tryz.func323.trans (congrArg some (by kernel_rfl))
 f338:=Tryz.func324.trans (congrArg some (by kernel_rfl))
 t0:=Tryz.underlying0
 a0:=Tryz.isAgg0
 z0:=Tryz.sizeOf0
 v0:=Tryz.zeroValue0
 t2:=Tryz.underlying2
 a2:=Tryz.isAgg2
 z2:=Tryz.sizeOf2
 v2:=Tryz.zeroValue2
 t3:=Tryz.underlying3
 a3:=Tryz.isAgg3
 z3:=Tryz.sizeOf3
 v3:=Tryz.zeroValue3
 t4:=Tryz.underlying4
 a4:=Tryz.isAgg4
 z4:=Tryz.sizeOf4
 v4:=Tryz.zeroValue4
 t5:=Tryz.underlying5
 a5:=Tryz.isAgg5
 z5:=Tryz.sizeOf5
 v5:=Tryz.zeroValue5
 t9:=Tryz.underlying9
 a9:=Tryz.isAgg9
 z9:=Tryz.sizeOf9
 v9:=Tryz.zeroValue9
 t20:=Tryz.underlying20
 a20:=Tryz.isAgg20
 z20:=Tryz.sizeOf20
 v20:=Tryz.zeroValue20
 t37:=Tryz.underlying92
 a37:=Tryz.isAgg92
 z37:=Tryz.sizeOf92
 v37:=Tryz.zeroValue92
 t46:=Tryz.underlying233
 a46:=Tryz.isAgg233
 z46:=Tryz.sizeOf233
 v46:=Tryz.zeroValue233
 t51:=Tryz.underlying277
 a51:=Tryz.isAgg277
 z51:=Tryz.sizeOf277
 v51:=Tryz.zeroValue277
 t53:=Tryz.underlying270
 a53:=Tryz.isAgg270
 z53:=Tryz.sizeOf270
 v53:=Tryz.zeroValue270
 t171:=Tryz.underlying269
 a171:=Tryz.isAgg269
 z171:=Tryz.sizeOf269
 v171:=Tryz.zeroValue269
 t173:=Tryz.underlying273
 a173:=Tryz.isAgg273
 z173:=Tryz.sizeOf273
 v173:=Tryz.zeroValue273
 t212:=Tryz.underlying320
 a212:=Tryz.isAgg320
 z212:=Tryz.sizeOf320
 v212:=Tryz.zeroValue320
 t213:=Tryz.underlying321
 a213:=Tryz.isAgg321
 z213:=Tryz.sizeOf321
 t232:=Tryz.underlying366
 a232:=Tryz.isAgg366
 z232:=Tryz.sizeOf366
 v232:=Tryz.zeroValue366
 t233:=Tryz.underlying367
 a233:=Tryz.isAgg367
 z233:=Tryz.sizeOf367
 v233:=Tryz.zeroValue367
 g17:=by kernel_rfl
 g18:=by kernel_rfl
 g19:=by kernel_rfl
 i0:=by kernel_rfl
 i2:=by kernel_rfl
 i3:=by kernel_rfl
 i4:=by kernel_rfl
 i5:=by kernel_rfl
 i9:=by kernel_rfl
 i20:=by kernel_rfl
 i37:=by kernel_rfl
 i46:=by kernel_rfl
 i51:=by kernel_rfl
 i53:=by kernel_rfl
 i171:=by kernel_rfl
 i173:=by kernel_rfl
 i212:=by kernel_rfl
 i232:=by kernel_rfl
 i233:=by kernel_rfl
 m17:=by kernel_rfl
 m18:=by kernel_rfl
 m19:=by kernel_rfl }
def Tryz.lays172_ren:Go.Shelf.Ren:=⟨fun|172=>168|244=>223|245=>224|247=>274|279=>275|280=>276|281=>277|282=>278|287=>320|316=>321|171=>60|205=>322|321=>340|322=>341|243=>122|246=>169|283=>225|284=>226|285=>227|286=>228|129=>251|317=>279|318=>280|319=>281|320=>282|337=>323|338=>324|n=>n,fun|9=>9|3=>3|75=>96|76=>97|4=>4|5=>5|167=>313|37=>92|0=>0|85=>314|2=>2|168=>316|53=>270|175=>340|46=>233|210=>343|127=>177|145=>365|143=>363|21=>21|171=>269|173=>273|212=>320|51=>277|20=>20|213=>321|232=>366|233=>367|80=>109|n=>n,fun|15=>3|16=>4|17=>1|18=>8|19=>9|n=>n⟩
theorem Tryz.lays172 : Go.Proofs.LaysC.n172 Tryz.prog Tryz.lays172_ren := {
 mixed:=by kernel_rfl
 f129:=Tryz.func251.trans (congrArg some (by kernel_rfl))
 f171:=Tryz.func60.trans (congrArg some (by kernel_rfl))
 f172:=Tryz.func168.trans (congrArg some (by kernel_rfl))
 f205:=Tryz.func322.trans (congrArg some (by kernel_rfl))
 f243:=Tryz.func122.trans (congrArg some (by kernel_rfl))
 f244:=Tryz.func223.trans (congrArg some (by kernel_rfl))
 f245:=Tryz.func224.trans (congrArg some (by kernel_rfl))
 f246:=Tryz.func169.trans (congrArg some (by kernel_rfl))
 f247:=Tryz.func274.trans (congrArg some (by kernel_rfl))
 f279:=Tryz.func275.trans (congrArg some (by kernel_rfl))
 f280:=Tryz.func276.trans (congrArg some (by kernel_rfl))
 f281:=Tryz.func277.trans (congrArg some (by kernel_rfl))
 f282:=Tryz.func278.trans (congrArg some (by kernel_rfl))
 f283:=Tryz.func225.trans (congrArg some (by kernel_rfl))
 f284:=Tryz.func226.trans (congrArg some (by kernel_rfl))
 f285:=Tryz.func227.trans (congrArg some (by kernel_rfl))
 f286:=Tryz.func228.trans (congrArg some (by kernel_rfl))
 f287:=Tryz.func320.trans (congrArg some (by kernel_rfl))
 f316:=Tryz.func321.trans (congrArg some (by kernel_rfl))
 f317:=Tryz.func279.trans (congrArg some (by kernel_rfl))
 f318:=Tryz.func280.trans (congrArg some (by kernel_rfl))
 f319:=Tryz.func281.trans (congrArg some (by kernel_rfl))
 f320:=Tryz.func282.trans (congrArg some (by kernel_rfl))
 f321:=Tryz.func340.trans (congrArg some (by kernel_rfl))
 f322:=Tryz.func341.trans (congrArg some (by kernel_rfl))
 f337:=Tryz.func323.trans (congrArg some (by kernel_rfl))
 f338:=Tryz.func324.trans (congrArg some (by kernel_rfl))
 t0:=Tryz.underlying0
 a0:=Tryz.isAgg0
 z0:=Tryz.sizeOf0
 v0:=Tryz.zeroValue0
 t2:=Tryz.underlying2
 a2:=Tryz.isAgg2
 z2:=Tryz.sizeOf2
 v2:=Tryz.zeroValue2
 t3:=Tryz.underlying3
 a3:=Tryz.isAgg3
 z3:=Tryz.sizeOf3
 v3:=Tryz.zeroValue3
 t4:=Tryz.underlying4
 a4:=Tryz.isAgg4
 z4:=Tryz.sizeOf4
 v4:=Tryz.zeroValue4
 t5:=Tryz.underlying5
 a5:=Tryz.isAgg5
 z5:=Tryz.sizeOf5
 v5:=Tryz.zeroValue5
 t9:=Tryz.underlying9
 a9:=Tryz.isAgg9
 z9:=Tryz.sizeOf9
 v9:=Tryz.zeroValue9
 t20:=Tryz.underlying20
 a20:=Tryz.isAgg20
 z20:=Tryz.sizeOf20
 v20:=Tryz.zeroValue20
 t21:=Tryz.underlying21
 a21:=Tryz.isAgg21
 z21:=Tryz.sizeOf21
 v21:=Tryz.zeroValue21
 t37:=Tryz.underlying92
 a37:=Tryz.isAgg92
 z37:=Tryz.sizeOf92
 v37:=Tryz.zeroValue92
 t46:=Tryz.underlying233
 a46:=Tryz.isAgg233
 z46:=Tryz.sizeOf233
 v46:=Tryz.zeroValue233
 t51:=Tryz.underlying277
 a51:=Tryz.isAgg277
 z51:=Tryz.sizeOf277
 v51:=Tryz.zeroValue277
 t53:=Tryz.underlying270
 a53:=Tryz.isAgg270
 z53:=Tryz.sizeOf270
 v53:=Tryz.zeroValue270
 t75:=Tryz.underlying96
 a75:=Tryz.isAgg96
 z75:=Tryz.sizeOf96
 v75:=Tryz.zeroValue96
 t76:=Tryz.underlying97
 a76:=Tryz.isAgg97
 z76:=Tryz.sizeOf97
 v76:=Tryz.zeroValue97
 t85:=Tryz.underlying314
 a85:=Tryz.isAgg314
 z85:=Tryz.sizeOf314
 v85:=Tryz.zeroValue314
 t127:=Tryz.underlying177
 a127:=Tryz.isAgg177
 z127:=Tryz.sizeOf177
 v127:=Tryz.zeroValue177
 t143:=Tryz.underlying363
 a143:=Tryz.isAgg363
 z143:=Tryz.sizeOf363
 v143:=Tryz.zeroValue363
 t145:=Tryz.underlying365
 a145:=Tryz.isAgg365
 z145:=Tryz.sizeOf365
 v145:=Tryz.zeroValue365
 t167:=Tryz.underlying313
 a167:=Tryz.isAgg313
 z167:=Tryz.sizeOf313
 v167:=Tryz.zeroValue313
 t168:=Tryz.underlying316
 a168:=Tryz.isAgg316
 z168:=Tryz.sizeOf316
 v168:=Tryz.zeroValue316
 t171:=Tryz.underlying269
 a171:=Tryz.isAgg269
 z171:=Tryz.sizeOf269
 v171:=Tryz.zeroValue269
 t173:=Tryz.underlying273
 a173:=Tryz.isAgg273
 z173:=Tryz.sizeOf273
 v173:=Tryz.zeroValue273
 t175:=Tryz.underlying340
 a175:=Tryz.isAgg340
 z175:=Tryz.sizeOf340
 v175:=Tryz.zeroValue340
 t210:=Tryz.underlying343
 a210:=Tryz.isAgg343
 z210:=Tryz.sizeOf343
 v210:=Tryz.zeroValue343
 t212:=Tryz.underlying320
 a212:=Tryz.isAgg320
 z212:=Tryz.sizeOf320
 v212:=Tryz.zeroValue320
 t213:=Tryz.underlying321
 a213:=Tryz.isAgg321
 z213:=Tryz.sizeOf321
 t232:=Tryz.underlying366
 a232:=Tryz.isAgg366
 z232:=Tryz.sizeOf366
 v232:=Tryz.zeroValue366
 t233:=Tryz.underlying367
 a233:=Tryz.isAgg367
 z233:=Tryz.sizeOf367
 v233:=Tryz.zeroValue367
 g15:=by kernel_rfl
 g16:=by kernel_rfl
 g17:=by kernel_rfl
 g18:=by kernel_rfl
 g19:=by kernel_rfl
 t80:=Tryz.underlying109
 a80:=Tryz.isAgg109
 z80:=Tryz.sizeOf109
 v80:=Tryz.zeroValue109
 i0:=by kernel_rfl
 i2:=by kernel_rfl
 i3:=by kernel_rfl
 i4:=by kernel_rfl
 i5:=by kernel_rfl
 i9:=by kernel_rfl
 i20:=by kernel_rfl
 i21:=by kernel_rfl
 i37:=by kernel_rfl
 i46:=by kernel_rfl
 i51:=by kernel_rfl
 i53:=by kernel_rfl
 i75:=by kernel_rfl
 i76:=by kernel_rfl
 i80:=by kernel_rfl
 i85:=by kernel_rfl
 i127:=by kernel_rfl
 i143:=by kernel_rfl
 i145:=by kernel_rfl
 i167:=by kernel_rfl
 i168:=by kernel_rfl
 i171:=by kernel_rfl
 i173:=by kernel_rfl
 i175:=by kernel_rfl
 i210:=by kernel_rfl
 i212:=by kernel_rfl
 i232:=by kernel_rfl
 i233:=by kernel_rfl
 m15:=by kernel_rfl
 m16:=by kernel_rfl
 m17:=by kernel_rfl
 m18:=by kernel_rfl
 m19:=by kernel_rfl
 c0:=by kernel_rfl
 c2:=by kernel_rfl
 c3:=by kernel_rfl
 c4:=by kernel_rfl
 c5:=by kernel_rfl
 c9:=by kernel_rfl
 c20:=by kernel_rfl
 c21:=by kernel_rfl
 c37:=by kernel_rfl
 c46:=by kernel_rfl
 c51:=by kernel_rfl
 c53:=by kernel_rfl
 c75:=by kernel_rfl
 c76:=by kernel_rfl
 c80:=by kernel_rfl
 c85:=by kernel_rfl
 c127:=by kernel_rfl
 c143:=by kernel_rfl
 c145:=by kernel_rfl
 c167:=by kernel_rfl
 c168:=by kernel_rfl
 c171:=by kernel_rfl
 c173:=by kernel_rfl
 c175:=by kernel_rfl
 c210:=by kernel_rfl
 c212:=by kernel_rfl
 c213:=by kernel_rfl
 c232:=by kernel_rfl
 c233:=by kernel_rfl }
end Go.Proofs
namespace Go.Proofs.YtllefinciimffaaGreatDoor
open Go.RowKit Go.Shelf
theorem TC {P:Program} {n:String} {cs:Array Value} {w w':World} (h:w.var? P n=some cs) (hb:Bl w w'):w'.var? P n=some cs:=by
 unfold World.var? at h ⊢;cases hg:P.globalNamed n with
 |none=>rw[hg] at h;cases h
 |some g=>
  rw[hg] at h;have hlt:g<w.heap.size:=by
   rcases Nat.lt_or_ge g w.heap.size with hl|hl
   ·exact hl
   ·have h':(match w.heap[g]? with|some (.cells cs _ _)=>some cs|_=>none)=some cs:=h;rw[Array.getElem?_eq_none hl] at h';cases h'
  have he:w'.heap[g]? = w.heap[g]?:=hb.block g hlt;show (match w'.heap[g]? with|some (.cells cs _ _)=>some cs|_=>none)=some cs;rw[he];exact h
structure NumOk (w:World):Prop where
 syn:∃t p,w.var? Tryz.prog "strconv.ErrSyntax" = some #[.iface t p]
 ran:∃t p,w.var? Tryz.prog "strconv.ErrRange" = some #[.iface t p]
 tab:Lib.TabIs Tryz.prog w "internal/strconv.uint64pow10" .u64 Lib.pow10Tab
theorem NumOk.bl {w w':World} (h:NumOk w) (hb:Bl w w'):NumOk w':=
 ⟨let ⟨t,p,e⟩:=h.syn;⟨t,p,TC e hb⟩,let ⟨t,p,e⟩:=h.ran;⟨t,p,TC e hb⟩,TC h.tab hb⟩
theorem W4 (v:Int) (h0:-9223372036854775808≤v) (h1:v≤9223372036854775807) (w:World) (hN:NumOk w) :
 Calls Tryz.prog 60 #[v] w fun e w'=>e=.returned (.string ⟨(Lib.itoa v).toArray⟩)∧Bl w w':=by
 refine Calls.mono (R:=fun e w'=>e=.returned (.string ⟨(Lib.itoa v).toArray⟩)∧∃k os,w'=_) (Any.strconv_Itoa Tryz.lays171 v h0 h1 w hN.tab) ?_;rintro e w' ⟨rfl,k,os,rfl⟩;exact ⟨rfl,Lib.below_grow _ w (Nat.le_refl _) k os⟩
theorem J6 (s:ByteArray) (hs:s.size≤281474976710656) (v:Int) (h:Lib.atoiAll s.data.toList=.ok v) (w:World) :
 Calls Tryz.prog 168 #[.string s] w fun e w'=>e=.returned (.tuple #[v,.nilIface])∧Bl w w':=by
 refine Calls.mono (R:=fun e w'=>e=.returned (.tuple #[v,.nilIface])∧(w'=w∨∃t,w'=Lib.bytesWorld w _ t)) (Any.strconv_Atoi_ok Tryz.lays172 s (by omega) v h w) ?_;rintro e w' ⟨rfl,rfl|⟨t,rfl⟩⟩
 ·exact ⟨rfl,Bl.refl _⟩
 ·exact ⟨rfl,Lib.bytesWorld_below _ _ _⟩
theorem W5 (s:ByteArray) (hs:s.size≤281474976710656) (h:∀v,Lib.atoiAll s.data.toList≠.ok v) (w:World) (hN:NumOk w) :
 Calls Tryz.prog 168 #[.string s] w fun e w'=>∃(v:Int) (T:TypeId) (N:Nat),e=.returned (.tuple #[.int .i64 v,.iface T (.pointer (some ⟨N,0,none⟩))])∧Bl w w':=by
 rcases ha:Lib.atoiAll s.data.toList with v|_|_
 ·exact absurd ha (h v)
 ·obtain ⟨t,p,hv⟩:=hN.syn;refine Calls.mono (Any.strconv_Atoi_syntax_var Tryz.lays172 s hs ha t p w hv) ?_;rintro e w' ⟨N,he,-,-,hb⟩;exact ⟨_,_,N,he,hb⟩
 ·obtain ⟨t,p,hv⟩:=hN.ran;refine Calls.mono (Any.strconv_Atoi_range_var Tryz.lays172 s hs ha t p w hv) ?_;rintro e w' ⟨N,he,-,-,hb⟩;exact ⟨_,_,N,he,hb⟩
def PI:List UInt8:=[48,49,50,51,52,53,54,55,56,57]
theorem GD (b:UInt8):PI.contains b=aBa b:=by
 have hb:b=UInt8.ofNat b.toNat:=(by simp);rw[hb];have hlt:b.toNat<256:=b.toNat_lt;generalize b.toNat=n at hlt;have:n∈List.range 256:=List.mem_range.2 hlt
 revert n
 decide +kernel
theorem DL (s r:ByteArray) (hr:r=⟨(Lib.trimS s.data.toList PI).toArray⟩):r.toList.isEmpty=s.data.toList.all aBa:=by
 rw[Lib.toList_data,hr,Bool.eq_iff_iff,List.isEmpty_iff];show Lib.trimS s.data.toList PI=[]↔_;rw[nM,aIl];constructor
 ·intro h b hb;rw[←GD];exact h b hb
 ·intro h b hb;rw[GD];exact h b hb
end Go.Proofs.YtllefinciimffaaGreatDoor
namespace Go.Proofs.YtllefinciimffaaGreatDoor
open Go.ChangeShapes Go.WideShapes Go.ChangeAt Go.RowKit Go.Joins
theorem tJ {α : Type} {Q : Nat → α → Prop} : ∀ (n : Nat), (∀ i, i < n → ∃ y, Q i y) → ∃ ys : List α, ys.length = n ∧ ∀ (i : Nat) y, ys[i]? = some y → Q i y
 |0,_=>⟨[],rfl,fun i y h=>by simp at h⟩
 |n+1,h=>by
  obtain ⟨ys,hl,hy⟩:=tJ n fun i hi=>h i (by omega);obtain ⟨z,hz⟩:=h n (by omega);refine ⟨ys++[z],by simp[hl],fun i y hi => ?_⟩;rcases Nat.lt_or_ge i ys.length with h1|h1
  ·rw[aIb h1] at hi;exact hy i y hi
  ·have hlt:=(aH3.1 hi).1;have e:i=ys.length:=(by simp at hlt;omega);subst e;rw[aIa (Nat.le_refl _),Nat.sub_self] at hi;injection hi with hi;subst hi;rw[hl];exact hz
section
variable {H:Type} {enc:TypeId × Value→H} {P:Program} {w:World} {base:Nat} {spare:Nat→Bool} {iX:Bool}
theorem xV {a:Addr} {n:Nat} {cs:List Value} (h:w.cells? base a n=some cs):cs.length=n∧∀(j:Nat) u,cs[j]? = some u→w.cell? (a.add j)=some u:=by
 unfold World.cells? at h;split at h
 ·have key:∀(m:Nat) (l:List Nat) (cs:List Value),l=(List.range' m (n-m))→m≤n→l.mapM (fun i=>w.cell? (a.add i))=some cs→cs.length=n-m∧∀(j:Nat) u,cs[j]? = some u→w.cell? (a.add (m+j))=some u:=by
   intro m l;induction l generalizing m with
   |nil=>
    intro cs hl hm hc;simp at hc;subst hc;have:n-m=0:=by
     have:=congrArg List.length hl;simpa using this.symm
    exact ⟨by simp[this],fun j u hj=>by simp at hj⟩
   |cons x l ih=>
    intro cs hl hm hc;have hlt:m<n:=by
     have:=congrArg List.length hl;simp at this;omega
    have e:n-m=(n-(m+1))+1:=(by omega);rw[e,List.range'_succ] at hl;injection hl with h1 h2;subst h1;simp only[List.mapM_cons,Option.bind_eq_bind,Option.bind_eq_some_iff,Option.pure_def,Option.some.injEq] at hc;obtain ⟨v,hv,vs,hvs,rfl⟩:=hc;obtain ⟨k1,k2⟩:=ih (x+1) vs h2 (by omega) hvs;refine ⟨by simp[k1];omega,fun j u hj => ?_⟩;rcases j with _|j
    ·simp at hj;subst hj;exact hv
    ·have:=k2 j u (by simpa using hj);rw[show x+(j+1)=x+1+j by omega];exact this
  have:=key 0 (List.range n) cs (by rw[List.range_eq_range'];rfl) (Nat.zero_le _) h;simpa using this
 ·cases h
theorem MY {t e:TypeId} {fuel:Nat} {a0:Option Addr} {len cap:Nat} {x:DataW H × List MemPlace} (ht:P.underlying t=some (.slice e)) (h:DataW.trod enc P w base spare iX fuel t [.slice a0 len cap]=some x) :
 (a0=none∧len=0∧cap=0)∨∃a n',a0=some a∧len≤cap∧cap≤maxLen∧∀i,i<len→∃cs x',cs.length=P.cellsOf e∧(∀(j:Nat) u,cs[j]? = some u→w.cell? (a.add (i*P.cellsOf e+j))=some u)∧DataW.trod enc P w base spare iX n' e cs=some x':=by
 rcases DataW.trod_slice ht h with ⟨hcs,_⟩|⟨a,len',cap',elems,rest,n,_,hcs,_,_,hl,hm,cT,hel,_⟩
 ·simp at hcs;exact .inl hcs
 ·simp at hcs;obtain ⟨rfl,rfl,rfl⟩:=hcs;refine .inr ⟨a,n,rfl,hl,hm,fun i hi => ?_⟩;have h1:=hel i hi;rw[aH2 (by omega)] at h1;obtain ⟨cs,hcs,htr⟩:=Option.bind_eq_some_iff.1 h1;obtain ⟨k1,k2⟩:=xV hcs;refine ⟨cs,_,k1,fun j u hj => ?_,htr⟩;have:=k2 j u hj
  rwa [dZ] at this
end
section
variable {H:Type} {enc:TypeId × Value→H} {w:World} {base b0:Nat} {spare:Nat→Bool} {iX:Bool} {r:Reach}
theorem mV:Tryz.prog.cellsOf 9=1:=by kernel_rfl
theorem kV:Tryz.prog.cellsOf 3=1:=by kernel_rfl
theorem J7:Tryz.prog.cellsOf 41=1:=by kernel_rfl
theorem tK:Tryz.prog.cellsOf 43=3:=by kernel_rfl
theorem GE:Tryz.prog.cellsOf 148=4:=by kernel_rfl
theorem PJ:Tryz.prog.cellsOf 46=5:=by kernel_rfl
theorem TD {fuel:Nat} {cs:List Value} {x:DataW H × List MemPlace} (h:DataW.trod enc Tryz.prog w base spare iX fuel 43 cs=some x):∃p:Pg,cs=p.cells∧p.bs.length=p.m∧Reads w 1 p.A p.m (p.bs.map .bool):=by
 obtain ⟨y0,y1,y2,n,_,hl,h0,h1,h2⟩:=Go.Deep.trod_struct3 Tryz.underlying43 h;rw[tK] at hl
 match cs,hl with
 |[c0,c1,c2],_=>simp only[kV,J7,List.drop_zero,List.drop_succ_cons,List.take_succ_cons,List.take_zero] at h0 h1 h2;obtain ⟨W,e0,_,w0⟩:=DataW.trod_int Tryz.underlying3 h0;obtain ⟨Ht,e1,_,w1⟩:=DataW.trod_int Tryz.underlying3 h1;obtain ⟨A,m,c,rfl⟩:=fE Tryz.underlying41 h2;simp at e0 e1;subst e0 e1;obtain ⟨bs,hz,hr,hm⟩:=MP Tryz.underlying41 Tryz.underlying4 (by kernel_rfl) h2;exact ⟨⟨W,Ht,A,m,c,bs⟩,rfl,hz,hr⟩
theorem TF {fuel:Nat} {cs:List Value} {x:DataW H × List MemPlace} (h:DataW.trod enc Tryz.prog w base spare iX fuel 148 cs=some x):∃l:Ltr,cs=l.cells∧l.bs.length=l.m∧Reads w 1 l.A l.m (l.bs.map .bool)∧l.text.length≤9223372036854775807:=by
 obtain ⟨y0,y1,n,_,hl,h0,h1⟩:=trod_struct2 Tryz.underlying148 h;rw[GE] at hl
 match cs,hl with
 |[c0,c1,c2,c3],_=>simp only[mV,tK,List.drop_zero,List.drop_succ_cons,List.take_succ_cons,List.take_zero] at h0 h1;obtain ⟨s,e0,_,w0⟩:=DataW.trod_string Tryz.underlying9 h0;obtain ⟨p,e1,hb,hr⟩:=TD h1;obtain ⟨t,rfl⟩:=jG s;simp at e0;subst e0;unfold Pg.cells at e1;simp at e1;obtain ⟨rfl,rfl,rfl⟩:=e1;exact ⟨⟨t,p.W,p.H,p.A,p.m,p.c,p.bs⟩,rfl,hb,hr,by rw[Lib.size_mk] at w0;exact w0⟩
theorem aGh (j:Nat):j=j / 4*4+j % 4:=by omega
theorem PK {fuel:Nat} {a0:Option Addr} {len cap:Nat} {x:DataW H × List MemPlace} (h:DataW.trod enc Tryz.prog w base spare iX fuel 44 [.slice a0 len cap]=some x):∃ls:List Ltr,ls.length=len∧LtrsAt w a0 ls∧len≤9223372036854775807∧len≤cap:=by
 rcases MY Tryz.underlying44 h with ⟨rfl,rfl,rfl⟩|⟨a,n',rfl,hlc,hcm,hel⟩
 ·exact ⟨[],rfl,LtrsAt.none _,by omega,by omega⟩
 ·obtain ⟨ls,hl,hls⟩:=tJ (Q:=fun i (l:Ltr)=>(∀(j:Nat) u,l.cells[j]? = some u→w.cell? (a.add (i*4+j))=some u)∧Reads w 1 l.A l.m (l.bs.map .bool)∧l.text.length≤9223372036854775807) len (fun i hi=>by
   obtain ⟨cs,x',_,hc,ht⟩:=hel i hi;obtain ⟨l,rfl,_,hr,hx⟩:=TF ht;rw[GE] at hc;exact ⟨l,hc,hr,hx⟩)
  refine ⟨ls,hl,⟨⟨oI ls,fun _=>⟨a,rfl,fun j u hj => ?_⟩⟩,fun l hp => ?_⟩,by unfold maxLen at hcm;omega,hlc⟩
  ·have hlt:j<ls.length*4:=(by rw[←oI];exact (aH3.1 hj).1);have hi:j / 4<ls.length:=(by omega);have hg:ls[j / 4]? = some ls[j / 4]:=aH2 hi;rw[aGh j] at hj ⊢;rw[wL hg (j % 4) (Nat.mod_lt _ (by decide))] at hj;exact (hls _ _ hg).1 _ _ hj
  ·obtain ⟨i,hi⟩:=List.getElem?_of_mem hp;exact (hls i l hi).2
theorem aBy {α:Type} {cs:Array α} (h:cs.size=5):∃c0 c1 c2 c3 c4,cs=#[c0,c1,c2,c3,c4]:=by
 obtain ⟨l⟩:=cs
 match l,h with
 |[c0,c1,c2,c3,c4],_=>exact ⟨c0,c1,c2,c3,c4,rfl⟩
theorem TG {v:Value} {d:DataW H} {p:List MemPlace} (hv:Value.okWide Tryz.prog w r b0 46 v) (h:DataW.Trod enc Tryz.prog w base spare iX 46 v d p) :
 ∃(nm:List UInt8) (ht gap sp:Int) (L:Option Addr) (c:Nat) (ls:List Ltr),v=.agg #[nm,ht,gap,sp,.slice L ls.length c]∧LtrsAt w L ls∧nm.length≤9223372036854775807∧ls.length≤9223372036854775807∧ls.length≤c:=by
 obtain ⟨cs,rfl,hsz⟩:=okWide_struct Tryz.underlying46 hv;obtain ⟨c0,c1,c2,c3,c4,rfl⟩:=aBy (hsz.trans PJ);obtain ⟨fuel,hf⟩:=h;obtain ⟨xs,n,_,_,_,cT,hfs⟩:=DataW.trod_struct Tryz.underlying46 hf
 match xs,cT with
 |[y0,y1,y2,y3,y4],_=>have h0:=hfs 0 _ rfl;have h1:=hfs 1 _ rfl;have h2:=hfs 2 _ rfl;have h3:=hfs 3 _ rfl;have h4:=hfs 4 _ rfl;simp only[Value.cells,aIq,List.getElem?_cons_succ] at h0 h1 h2 h3 h4;obtain ⟨s,e0,_,w0⟩:=DataW.trod_string Tryz.underlying9 h0;obtain ⟨a,e1,_,_⟩:=DataW.trod_int Tryz.underlying3 h1;obtain ⟨b,e2,_,_⟩:=DataW.trod_int Tryz.underlying3 h2;obtain ⟨c,e3,_,_⟩:=DataW.trod_int Tryz.underlying3 h3;obtain ⟨A,m,cc,rfl⟩:=fE Tryz.underlying44 h4;obtain ⟨t,rfl⟩:=jG s;simp[mV,kV] at e0 e1 e2 e3;subst e0 e1 e2 e3;obtain ⟨ls,rfl,hL,hn,hc⟩:=PK h4;exact ⟨t,a,b,c,A,cc,ls,rfl,hL,by rw[Lib.size_mk] at w0;exact w0,hn,hc⟩
end
end Go.Proofs.YtllefinciimffaaGreatDoor
