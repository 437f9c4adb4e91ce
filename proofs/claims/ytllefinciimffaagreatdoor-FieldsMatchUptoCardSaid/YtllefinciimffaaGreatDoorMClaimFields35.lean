import Derived.Test.YtllefinciimffaaGreatDoorMClaimFields21
import Derived.Test.YtllefinciimffaaGreatDoorMClaimFields29
import Derived.Test.YtllefinciimffaaGreatDoorMClaimFields34
set_option maxHeartbeats 20000000
set_option maxRecDepth 100000
namespace Go.Proofs.YtllefinciimffaaGreatDoor
open Go.RowKit
def uM (zs:List Int) (kind:Int):List UInt8:=if cA zs kind=0 then dC zs kind (dV zs zs.length) zs.length else []
def rdK (kind:Int) (m:List UInt8):List UInt8 × Int:=if kind=1 then aL fZ m else aL m7 m
def EY (zs:List Int) (kind:Int):Option (List UInt8):=if cA zs kind=0 then (if (rdK kind (uM zs kind)).2=0 then some (rdK kind (uM zs kind)).1 else none) else none
def m9 (zs:List Int) (m:Nat):Option (List UInt8):=EY (zs.take (10*m-1)) 2
def l9 (zs : List Int) : Nat → Nat → Option (Nat × List UInt8)
 |0,_=>none
 |k+1,m=>if 10*m-1≤zs.length then (match m9 zs m with|some t=>some (m,t)|none=>l9 zs k (m+1)) else none
def IM (zs:List Int):Option (List UInt8):=if 59≤zs.length then EY (zs.take 59) 1 else none
def gM (zs:List Int):Option (Int × List UInt8 × Nat):=match IM zs with
 |some t=>some (1,t,59)
 |none=>(l9 zs 41 3).map fun x=>(2,x.2,10*x.1-1)
def yR (zs:List Int) (i:Nat):Int:=(zs.take i).sum
def lA (zs : List Int) (y : Int) : Nat → Nat → List Cd
 |0,_=>[]
 |k+1,i=>if i<zs.length then (match gM (zs.drop i) with
  |some (kd,t,many)=>⟨kd,t,yR zs i,y,yR zs (i+many)-yR zs i,1⟩ :: lA zs y k (i+many+1)
  |none=>lA zs y k (i+2)) else []
def IN (zs:List Int) (y:Int):List Cd:=lA zs y zs.length 1
theorem yS {zs:List Int} {k m:Nat} (h:10*m-1≤zs.length):l9 zs (k+1) m=match m9 zs m with|some t=>some (m,t)|none=>l9 zs k (m+1):=by
 show (if _ then _ else _)=_;rw[if_pos h]
theorem pJ {zs:List Int} {k m:Nat} {t:List UInt8} (h:10*m-1≤zs.length) (ht:m9 zs m=some t):l9 zs (k+1) m=some (m,t):=by rw[yS h,ht]
theorem lB {zs:List Int} {k m:Nat} (h:10*m-1≤zs.length) (ht:m9 zs m=none):l9 zs (k+1) m=l9 zs k (m+1):=by rw[yS h,ht]
theorem nA {zs:List Int} {k m:Nat} (h:¬10*m-1≤zs.length):l9 zs k m=none:=by
 cases k with
 |zero=>rfl
 |succ k=>show (if _ then _ else _)=_;rw[if_neg h]
theorem jN (zs : List Int) (y : Int) : ∀ k k' i, zs.length - i ≤ k → zs.length - i ≤ k' → lA zs y k i = lA zs y k' i
 |0,0,_,_,_=>rfl
 |0,k'+1,i,h,_=>by
  show []=(if _ then _ else _);rw[if_neg (by omega)]
 |k+1,0,i,_,h=>by
  show (if _ then _ else _)=[];rw[if_neg (by omega)]
 |k+1,k'+1,i,h,h'=>by
  show (if i<zs.length then _ else _)=(if i<zs.length then _ else _);by_cases hi:i<zs.length
  ·rw[if_pos hi,if_pos hi];cases hc:gM (zs.drop i) with
   |none=>exact jN zs y k k' (i+2) (by omega) (by omega)
   |some x=>obtain ⟨kd,t,many⟩:=x;simp only;rw[jN zs y k k' (i+many+1) (by omega) (by omega)]
  ·rw[if_neg hi,if_neg hi]
def pT (zs:List Int) (y:Int) (i:Nat):List Cd:=lA zs y (zs.length-i) i
theorem aIP (zs:List Int) (y:Int):pT zs y 1=IN zs y:=jN zs y _ _ 1 (Nat.le_refl _) (by omega)
theorem IP {zs:List Int} {y:Int} {i:Nat} (h:zs.length≤i):pT zs y i=[]:=by
 unfold pT;rw[show zs.length-i=0 by omega];rfl
theorem BZ {zs:List Int} {y:Int} {i:Nat} (h:i<zs.length):pT zs y i=match gM (zs.drop i) with
 |some (kd,t,many)=>⟨kd,t,yR zs i,y,yR zs (i+many)-yR zs i,1⟩ :: pT zs y (i+many+1)
 |none=>pT zs y (i+2):=by
 unfold pT;obtain ⟨k,hk⟩:∃k,zs.length-i=k+1:=⟨zs.length-i-1,by omega⟩;rw[hk];show (if i<zs.length then _ else _)=_;rw[if_pos h];cases hc:gM (zs.drop i) with
 |none=>exact jN zs y _ _ _ (by omega) (Nat.le_refl _)
 |some x=>obtain ⟨kd,t,many⟩:=x;simp only;rw[jN zs y k (zs.length-(i+many+1)) _ (by omega) (Nat.le_refl _)]
theorem B0 {zs:List Int} {y:Int} {i many:Nat} {kd:Int} {t:List UInt8} (h:i<zs.length) (hc:gM (zs.drop i)=some (kd,t,many)):pT zs y i=⟨kd,t,yR zs i,y,yR zs (i+many)-yR zs i,1⟩ :: pT zs y (i+many+1):=by rw[BZ h,hc]
theorem CA {zs:List Int} {y:Int} {i:Nat} (h:i<zs.length) (hc:gM (zs.drop i)=none):pT zs y i=pT zs y (i+2):=by rw[BZ h,hc]
theorem uY (zs : List Int) (kind : Int) (sum : Nat) : ∀ i, dC zs kind sum i = bM 0 ((List.range i).map (dP zs kind sum))
 |0=>rfl
 |i+1=>by
  show dC zs kind sum i++List.replicate (dP zs kind sum i) (aN i)=_;rw[List.range_succ,aIp,iM,uY zs kind sum i,aH6,List.length_range];show _=_++(List.replicate (dP zs kind sum i) (d9 (0+i))++[]);rw[aIN,Nat.zero_add];rfl
theorem tS {i j : Nat} (h : i % 2 = j % 2) : ∀ rs, bM i rs = bM j rs
 |[]=>rfl
 |n :: rs=>by
  show List.replicate n (d9 i)++bM (i+1) rs=List.replicate n (d9 j)++bM (j+1) rs;rw[tS (show (i+1) % 2=(j+1) % 2 by omega) rs];unfold d9;rw[h]
theorem CB : ∀ (rs : List Nat) (i : Nat), (bM i rs).reverse = bM (i + rs.length + 1) rs.reverse
 |[],_=>rfl
 |n :: rs,i=>by
  show (List.replicate n (d9 i)++bM (i+1) rs).reverse=_;rw[List.reverse_append,List.reverse_replicate,CB rs (i+1),List.reverse_cons,iM,aIA];rw[tS (show (i+1+rs.length+1) % 2=(i+(n :: rs).length+1) % 2 by simp only[aH8];omega)]
  congr 1
  show _=List.replicate n (d9 _)++[];rw[aIN];unfold d9;rw[show (i+(n :: rs).length+1+rs.length) % 2=i % 2 by simp only[aH8];omega]
theorem K9 {rs:List Nat} (h:rs.length % 2=1):(bM 0 rs).reverse=bM 0 rs.reverse:=by
 rw[CB];exact tS (by omega) _
theorem UX {rs:List Nat} (h1:∀n∈rs,1≤n) (h:(m7 (bM 0 rs)).2≠2):∃ks,EX rs=some ks∧ED (txt ks)=true:=by
 rcases sG (bM 0 rs) with ⟨T,hT1,hT2⟩|⟨-,h'⟩
 ·unfold yN at hT1;by_cases hl:kZ (bM 0 rs)=true
  ·rw[if_pos hl] at hT1;obtain ⟨ks,hks,rfl⟩:=Option.map_eq_some_iff.1 hT1;obtain ⟨e1,e2⟩:=tQ hl;rw[sY e2 h1 e1] at hks;exact ⟨ks,hks,hT2⟩
  ·rw[if_neg hl] at hT1;cases hT1
 ·rw[h'] at h;exact absurd rfl h
theorem IQ {rs:List Nat} (h1:∀n∈rs,1≤n) (hl:430≤rs.length):(m7 (bM 0 rs)).2=2:=by
 rcases Classical.em ((m7 (bM 0 rs)).2=2) with h|h
 ·exact h
 ·exfalso;obtain ⟨ks,h2,h3⟩:=UX h1 h;have h4:=((kC _ _).1 h2).1;have h5:=(K7 h3).2;rw[K2] at h5;omega
theorem aBJ (zs:List Int) (kind:Int) (sum n:Nat):∀k∈(List.range n).map (dP zs kind sum),1≤k:=by
 intro k hk;obtain ⟨i,-,rfl⟩:=aIK.1 hk;exact (pD zs kind sum i).1
theorem CC {zs:List Int} {m:Nat} (hm:44≤m) (hl:10*m-1≤zs.length):m9 zs m=none:=by
 unfold m9 EY;by_cases hu:cA (zs.take (10*m-1)) 2=0
 ·have hyl:(zs.take (10*m-1)).length=10*m-1:=(by rw[aH7];omega);obtain ⟨ys,hys⟩:=aH0 (zs.take (10*m-1));rw[←hys] at hu hyl ⊢;rw[if_pos hu];unfold uM rdK;rw[if_pos hu,if_neg (by decide:¬(2:Int)=1),uY];obtain ⟨rs,hrs⟩:=aH0 ((List.range ys.length).map (dP ys 2 (dV ys ys.length)));have hrl:rs.length=10*m-1:=(by rw[hrs,aH6,List.length_range,hyl]);have hrp:∀n∈rs,1≤n:=(by rw[hrs];exact aBJ _ _ _ _);rw[←hrs];have h1:=IQ hrp (by omega);have h2:=IQ (rs:=rs.reverse) (fun n hn=>hrp n (List.mem_reverse.1 hn)) (by rw[aIA];omega);have h3:(aL m7 (bM 0 rs)).2=2:=by
   unfold aL;rw[if_pos h1,K9 (by omega)];exact h2
  rw[h3,if_neg (by decide)]
 ·rw[if_neg hu]
theorem nX (zs : List Int) : ∀ k m, 44 ≤ m → l9 zs k m = none
 |0,_,_=>rfl
 |k+1,m,h=>by
  by_cases hl:10*m-1≤zs.length
  ·rw[lB hl (CC h hl)];exact nX zs k (m+1) (by omega)
  ·exact nA hl
theorem yT (zs : List Int) : ∀ k k' m, 44 ≤ m + k → 44 ≤ m + k' → l9 zs k m = l9 zs k' m
 |0,k',m,h,_=>(nX zs k' m (by omega)).symm
 |k+1,0,m,_,h=>nX zs (k+1) m (by omega)
 |k+1,k'+1,m,h,h'=>by
  by_cases hl:10*m-1≤zs.length
  ·cases hc:m9 zs m with
   |none=>rw[lB hl hc,lB hl hc];exact yT zs k k' (m+1) (by omega) (by omega)
   |some t=>rw[pJ hl hc,pJ hl hc]
  ·rw[nA hl,nA hl]
def dY (zs:List Int) (m:Nat):Option (Nat × List UInt8):=l9 zs (44-m) m
theorem uZ (zs:List Int):dY zs 3=l9 zs 41 3:=rfl
theorem pK {zs:List Int} {m:Nat} {t:List UInt8} (h:10*m-1≤zs.length) (ht:m9 zs m=some t):dY zs m=some (m,t):=by
 have hm:m<44:=by
  rcases Nat.lt_or_ge m 44 with h1|h1
  ·exact h1
  ·rw[CC h1 h] at ht;cases ht
 unfold dY;rw[show 44-m=44-(m+1)+1 by omega];exact pJ h ht
theorem gW {zs:List Int} {m:Nat} (h:10*m-1≤zs.length) (ht:m9 zs m=none):dY zs m=dY zs (m+1):=by
 unfold dY;rw[yT zs (44-m) (44-(m+1)+1) m (by omega) (by omega)];exact lB h ht
theorem pL {zs:List Int} {m:Nat} (h:¬10*m-1≤zs.length):dY zs m=none:=nA h
theorem yU {zs:List Int} {m:Nat} (h:44≤m):dY zs m=none:=nX zs _ m h
theorem sH {zs:List Int} {t:List UInt8} (h:IM zs=some t):gM zs=some (1,t,59):=by unfold gM;rw[h]
theorem pM {zs:List Int} {t:List UInt8} {m:Nat} (h:IM zs=none) (h2:dY zs 3=some (m,t)):gM zs=some (2,t,10*m-1):=by
 unfold gM;rw[h,←uZ,h2];rfl
theorem iE {zs:List Int} (h:IM zs=none) (h2:dY zs 3=none):gM zs=none:=by
 unfold gM;rw[h,←uZ,h2];rfl
theorem yV {zs : List Int} : ∀ {k m m' : Nat} {t : List UInt8}, l9 zs k m = some (m', t) → m ≤ m' ∧ 10 * m' - 1 ≤ zs.length ∧ m9 zs m' = some t
 |0,_,_,_,h=>by cases h
 |k+1,m,m',t,h=>by
  by_cases hl:10*m-1≤zs.length
  ·cases hc:m9 zs m with
   |none=>rw[lB hl hc] at h;have:=yV h;exact ⟨by omega,this.2⟩
   |some t'=>rw[pJ hl hc] at h;obtain ⟨rfl,rfl⟩:=Prod.mk.inj (aIw h);exact ⟨Nat.le_refl _,hl,hc⟩
  ·rw[nA hl] at h;cases h
theorem pN {zs:List Int} {kd:Int} {t:List UInt8} {many:Nat} (h:gM zs=some (kd,t,many)):(kd=1∨kd=2)∧29≤many∧many≤zs.length:=by
 cases he:IM zs with
 |some t'=>
  rw[sH he] at h;obtain ⟨rfl,h2⟩:=Prod.mk.inj (aIw h);obtain ⟨rfl,rfl⟩:=Prod.mk.inj h2;unfold IM at he;by_cases hl:59≤zs.length
  ·exact ⟨.inl rfl,by decide,hl⟩
  ·rw[if_neg hl] at he;cases he
 |none=>
  cases hf:dY zs 3 with
  |none=>rw[iE he hf] at h;cases h
  |some x=>obtain ⟨m,t'⟩:=x;rw[pM he hf] at h;obtain ⟨rfl,h2⟩:=Prod.mk.inj (aIw h);obtain ⟨rfl,rfl⟩:=Prod.mk.inj h2;obtain ⟨h3,h4,-⟩:=yV hf;exact ⟨.inr rfl,by omega,h4⟩
theorem pO {zs:List Int} {kind:Int} (h:cA zs kind=0) (h2:(rdK kind (uM zs kind)).2=0):EY zs kind=some (rdK kind (uM zs kind)).1:=by unfold EY;rw[if_pos h,if_pos h2]
theorem tT {zs:List Int} {kind:Int} (h:cA zs kind≠0):EY zs kind=none:=by unfold EY;rw[if_neg h]
theorem pP {zs:List Int} {kind:Int} (h2:(rdK kind (uM zs kind)).2≠0):EY zs kind=none:=by
 unfold EY;by_cases h:cA zs kind=0
 ·rw[if_pos h,if_neg h2]
 ·rw[if_neg h]
theorem CD (zs:List Int) (kind:Int):(uM zs kind).length≤zs.length*4:=by
 unfold uM;split
 ·exact jD _ _ _ _
 ·simp
end Go.Proofs.YtllefinciimffaaGreatDoor
namespace Go.Proofs.YtllefinciimffaaGreatDoor
open Go.RowKit Go.Shelf
def CodeAtRes (zs:List Int) (w:World) (e:Ending) (w':World):Prop:=
 (∃kd t many,gM zs=some (kd,t,many)∧e=.returned (.tuple #[.agg #[.int .i64 kd,.string ⟨t.toArray⟩,.int .i64 0,.int .i64 0,.int .i64 0,.int .i64 0],.int .i64 ((many:Nat):Int)])∧Bl w w') ∨
 (gM zs=none∧e=.returned (.tuple #[.agg #[.int .i64 0,.string ⟨#[]⟩,.int .i64 0,.int .i64 0,.int .i64 0,.int .i64 0],.int .i64 0])∧Bl w w')
theorem pQ {w:World} {L:Option Addr} {zs:List Int} {n:Nat} (h:Reads w 1 L zs.length (bD zs)) (hn:n≤zs.length):Reads w 1 L n (bD (zs.take n)):=by
 refine ⟨by unfold bD;rw[aH6,aH7];omega,fun h0 => ?_⟩;obtain ⟨ad,e,hc⟩:=h.2 (by omega);refine ⟨ad,e,fun j u hu=>hc j u ?_⟩;unfold bD at hu ⊢;rw[List.map_take] at hu;have hj:j<n:=by
  have:=(aH3.1 hu).1;rw[aH7] at this;omega
 rwa [aIe hj] at hu
theorem QR (zs:List Int) (L:Option Addr) (c:Nat) (w:World) (hx:Reads w 1 L zs.length (bD zs)) (hn:zs.length≤4001) (hc:zs.length≤c) (hT:SpOk w) :
 Calls Tryz.prog 237 #[.slice L zs.length c] w (CodeAtRes zs w):=by
 have HT:=aHH hT;obtain ⟨n,hnn⟩:=aH0 zs.length;have HX:=aHH hx;have HN:=aHH hnn;rw[←hnn] at hn hc ⊢;clear hnn hx hT
 go_in
 go_upto_region 1 with fail;obtain ⟨w2,hw2⟩:=aH0 (w.alloc (.cells #[.int .i64 0,.string ⟨#[]⟩,.int .i64 0,.int .i64 0,.int .i64 0,.int .i64 0] 161));obtain ⟨o,ho⟩:=aH0 w.heap.size;have bO:=aHW hw2 ho;have hb2:=aHU hw2;have hoW:w.heap.size≤o:=(by omega);rw[←hw2,←ho];have HBO:=aHH bO;clear hw2 ho bO;by_cases h59:59≤n
 ·obtain ⟨ad,rfl,-⟩:=HX.out.2 (by rw[←HN.out];omega);have htl:(zs.take 59).length=59:=(by rw[aH7,←HN.out];omega);have hu:=r9 (zs.take 59) (some ad) c 1 w2 (by rw[htl];exact pQ (HX.out.bl hb2) (by rw[←HN.out];omega)) (by omega) (by omega);rw[htl] at hu;have hul:(uM (zs.take 59) 1).length≤1048576:=(by have:=CD (zs.take 59) 1;omega);have hq:EY (zs.take 59) 1=IM zs:=(by unfold IM;rw[←HN.out,if_pos h59]);obtain ⟨U,hU⟩:=aH0 (uM (zs.take 59) 1);obtain ⟨E,hE⟩:=aH0 (cA (zs.take 59) 1);have Hu:=aHH (show Calls Tryz.prog 284 #[.slice (some ad) 59 c,.int .i64 1] w2 (fun e w'=>e=.returned (.tuple #[.string ⟨U.toArray⟩,.int .i64 E])∧Bl w2 w') from by rw[hU,hE];exact hu);rw[←hU] at hul;obtain ⟨T,hTT⟩:=aH0 ((aL fZ U).1);obtain ⟨F,hFF⟩:=aH0 ((aL fZ U).2);obtain ⟨Hr,zI,zJ,sV⟩:=aHJ (fun wx=>show Calls Tryz.prog 285 #[.string ⟨U.toArray⟩] wx (fun e w'=>e=.returned (.tuple #[.string ⟨T.toArray⟩,.int .i64 F])∧Bl wx w') from by rw[hTT,hFF];exact IC U wx (by omega)) (fun (h1:E=0) (h2:F=0)=>show gM zs=some (1,T,59) from sH (by rw[←hq,pO (by rw[←hE];exact h1) (by rw[←hU];exact hFF.symm.trans h2),←hU];exact congrArg some hTT.symm)) (fun (h1:E≠0)=>show IM zs=none from by rw[←hq];exact tT (by rw[←hE];exact h1)) (fun (h2:F≠0)=>show IM zs=none from by rw[←hq];exact pP (by rw[←hU];exact fun h=>h2 (hFF.trans h)));clear hq hU hE hTT hFF hu htl hul;go_wp2_with fail;refine Hu.out.mono ?_;rintro e w3 ⟨rfl,hb3⟩;clear Hu;by_cases hE0:E=0
  ·subst hE0;have HY1:=aHH (zI.out rfl);clear zI zJ;go_wp2_with fail;refine (Hr.out _).mono ?_;rintro e w4 ⟨rfl,hb4⟩;clear Hr;by_cases hF0:F=0
   ·subst hF0;have HC:=aHH (HY1.out rfl);clear HY1 sV;have mJ:=hb3.trans hb4;have bO4:=HBO.out.bl mJ;have k0:=bO4.all6';go_wp2_with fail;refine aIx (v:=.tuple #[.agg #[.int .i64 1,.string ⟨T.toArray⟩,.int .i64 0,.int .i64 0,.int .i64 0,.int .i64 0],.int .i64 59]) (by simp[results,Tryz.results237,go_sem,k0]) rfl (Or.inl ⟨_,_,_,HC.out,rfl,?_⟩);exact ((((((hb2.trans mJ).setCell hoW _).setCell hoW _).setCell hoW _).setCell hoW _).setCell hoW _).setCell hoW _
   ·have WA:=aHH (sV.out hF0);have hbF:(F==0)=false:=(by simp[hF0]);clear HY1 sV hF0;have hbq:=hb3.trans hb4;rename World=>wq;go_wp2_with fail;go_loopw [8] (fun s8 wr=>∃m:Nat,3≤m∧m≤44∧s8=.int .i64 ((10*m-1:Nat):Int)∧Bl w2 wr∧Hid (dY zs 3=dY zs m)) (fun s8 _=>500-(RowKit.intOf s8).toNat);case atStart=>exact ⟨3,by decide,by decide,rfl,hbq,aHH rfl⟩
    case round=>
     rename World=>wr;obtain ⟨m,hm3,aFV,rfl,hbr,HF⟩:=hrel;obtain ⟨k,hk⟩:=aH0 (10*m-1);have HK:=aHH hk;have aFW:29≤k:=(by omega);have aCu:k≤439:=(by omega);have RG:=hb2.trans hbr;rw[←hk];by_cases hkn:k≤n
     ·have aCv:(k:Int)≤(n:Int):=(by omega);by_cases hkm:k≤429
      ·have aBm:(k:Int)≤429:=(by omega);obtain ⟨ad2,hL2,-⟩:=HX.out.2 (by rw[←HN.out];omega);first|subst hL2|(injection hL2 with hL2;subst hL2)
       have htl:(zs.take k).length=k:=(by rw[aH7,←HN.out];omega);have hu:=r9 (zs.take k) _ c 2 wr (by rw[htl];exact pQ (HX.out.bl RG) (by rw[←HN.out];omega)) (by omega) (by omega);rw[htl] at hu;have hul:(uM (zs.take k) 2).length≤1048576:=(by have:=CD (zs.take k) 2;omega);have hq:EY (zs.take k) 2=m9 zs m:=(by unfold m9;rw[←HK.out]);obtain ⟨U,hU⟩:=aH0 (uM (zs.take k) 2);obtain ⟨E,hE⟩:=aH0 (cA (zs.take k) 2);have Hu:=aHH (show Calls Tryz.prog 284 #[.slice _ k c,.int .i64 2] wr (fun e w'=>e=.returned (.tuple #[.string ⟨U.toArray⟩,.int .i64 E])∧Bl wr w') from by rw[hU,hE];exact hu);rw[←hU] at hul;obtain ⟨T,hTT⟩:=aH0 ((aL m7 U).1);obtain ⟨F,hFF⟩:=aH0 ((aL m7 U).2);have Hr:=aHH (fun wx (hx:Bl wr wx)=>show Calls Tryz.prog 286 #[.string ⟨U.toArray⟩] wx (fun e w'=>e=.returned (.tuple #[.string ⟨T.toArray⟩,.int .i64 F])∧Bl wx w') from by rw[hTT,hFF];exact qT U wx (by omega) (HT.out.bl (RG.trans hx)));have hle:10*m-1≤zs.length:=(by rw[←HN.out];omega);have zI:=aHH (fun (h1:E=0) (h2:F=0)=>show gM zs=some (2,T,k) from by
        rw[hk];exact pM WA.out (HF.out.trans (pK hle (by rw[←hq,pO (by rw[←hE];exact h1) (by rw[←hU];exact hFF.symm.trans h2),←hU];exact congrArg some hTT.symm))))
       have zJ:=aHH (fun (h1:E≠0)=>show dY zs 3=dY zs (m+1) from HF.out.trans (gW hle (by rw[←hq];exact tT (by rw[←hE];exact h1))));have sV:=aHH (fun (h2:F≠0)=>show dY zs 3=dY zs (m+1) from HF.out.trans (gW hle (by rw[←hq];exact pP (by rw[←hU];exact fun h=>h2 (hFF.trans h)))));clear hq hU hE hTT hFF hu htl hul hle hk;go_wp2_with fail;refine Hu.out.mono ?_;rintro e w5 ⟨rfl,hb5⟩;clear Hu;by_cases hE0:E=0
       ·subst hE0;have HY1:=aHH (zI.out rfl);clear zI zJ;go_wp2_with fail;refine (Hr.out _ hb5).mono ?_;rintro e w6 ⟨rfl,hb6⟩;clear Hr;by_cases hF0:F=0
        ·subst hF0;have HC:=aHH (HY1.out rfl);clear HY1 sV;have ZX:=hbr.trans (hb5.trans hb6);have bO4:=HBO.out.bl ZX;have k0:=bO4.all6';go_wp2_with fail;refine aIx (v:=.tuple #[.agg #[.int .i64 2,.string ⟨T.toArray⟩,.int .i64 0,.int .i64 0,.int .i64 0,.int .i64 0],.int .i64 k]) (by simp[results,Tryz.results237,go_sem,k0]) rfl (Or.inl ⟨_,_,_,HC.out,rfl,?_⟩);exact ((((((hb2.trans ZX).setCell hoW _).setCell hoW _).setCell hoW _).setCell hoW _).setCell hoW _).setCell hoW _
        ·have HNx:=aHH (sV.out hF0);have aCw:(F==0)=false:=(by simp[hF0]);clear HY1 sV hF0;go_wp2_with fail;have hk:=HK.out;exact ⟨⟨m+1,by omega,by omega,by rw[show 10*(m+1)-1=k+10 by omega];go_num,hbr.trans (hb5.trans hb6),HNx⟩,by simp[RowKit.intOf]<;>omega⟩
       ·have HNx:=aHH (zJ.out hE0);have aCw:(E==0)=false:=(by simp[hE0]);clear zI zJ sV hE0 Hr;go_wp2_with fail;have hk:=HK.out;exact ⟨⟨m+1,by omega,by omega,by rw[show 10*(m+1)-1=k+10 by omega];go_num,hbr.trans hb5,HNx⟩,by simp[RowKit.intOf]<;>omega⟩
      ·have HC:=aHH (show gM zs=none from iE WA.out (HF.out.trans (yU (by omega))));have aBm:¬(k:Int)≤429:=(by omega);have bO4:=HBO.out.bl hbr;have k0:=bO4.all6';clear hk;go_wp2_with fail;refine aIx (v:=.tuple #[.agg #[.int .i64 0,.string ⟨#[]⟩,.int .i64 0,.int .i64 0,.int .i64 0,.int .i64 0],.int .i64 0]) (by simp[results,Tryz.results237,go_sem,k0]) rfl (Or.inr ⟨HC.out,rfl,?_⟩);exact (((((RG.setCell hoW _).setCell hoW _).setCell hoW _).setCell hoW _).setCell hoW _).setCell hoW _
     ·have HC:=aHH (show gM zs=none from iE WA.out (HF.out.trans (pL (by rw[←HN.out,←hk];exact hkn))));have aCv:¬(k:Int)≤(n:Int):=(by omega);have bO4:=HBO.out.bl hbr;have k0:=bO4.all6';clear hk;go_wp2_with fail;refine aIx (v:=.tuple #[.agg #[.int .i64 0,.string ⟨#[]⟩,.int .i64 0,.int .i64 0,.int .i64 0,.int .i64 0],.int .i64 0]) (by simp[results,Tryz.results237,go_sem,k0]) rfl (Or.inr ⟨HC.out,rfl,?_⟩);exact (((((RG.setCell hoW _).setCell hoW _).setCell hoW _).setCell hoW _).setCell hoW _).setCell hoW _
  ·have WA:=aHH (zJ.out hE0);have hbF:(E==0)=false:=(by simp[hE0]);clear zI zJ sV hE0 Hr;have hbq:=hb3;rename World=>wq;go_wp2_with fail;go_loopw [8] (fun s8 wr=>∃m:Nat,3≤m∧m≤44∧s8=.int .i64 ((10*m-1:Nat):Int)∧Bl w2 wr∧Hid (dY zs 3=dY zs m)) (fun s8 _=>500-(RowKit.intOf s8).toNat);case atStart=>exact ⟨3,by decide,by decide,rfl,hbq,aHH rfl⟩
   case round=>
    rename World=>wr;obtain ⟨m,hm3,aFV,rfl,hbr,HF⟩:=hrel;obtain ⟨k,hk⟩:=aH0 (10*m-1);have HK:=aHH hk;have aFW:29≤k:=(by omega);have aCu:k≤439:=(by omega);have RG:=hb2.trans hbr;rw[←hk];by_cases hkn:k≤n
    ·have aCv:(k:Int)≤(n:Int):=(by omega);by_cases hkm:k≤429
     ·have aBm:(k:Int)≤429:=(by omega);obtain ⟨ad2,hL2,-⟩:=HX.out.2 (by rw[←HN.out];omega);first|subst hL2|(injection hL2 with hL2;subst hL2)
      have htl:(zs.take k).length=k:=(by rw[aH7,←HN.out];omega);have hu:=r9 (zs.take k) _ c 2 wr (by rw[htl];exact pQ (HX.out.bl RG) (by rw[←HN.out];omega)) (by omega) (by omega);rw[htl] at hu;have hul:(uM (zs.take k) 2).length≤1048576:=(by have:=CD (zs.take k) 2;omega);have hq:EY (zs.take k) 2=m9 zs m:=(by unfold m9;rw[←HK.out]);obtain ⟨U,hU⟩:=aH0 (uM (zs.take k) 2);obtain ⟨E,hE⟩:=aH0 (cA (zs.take k) 2);have Hu:=aHH (show Calls Tryz.prog 284 #[.slice _ k c,.int .i64 2] wr (fun e w'=>e=.returned (.tuple #[.string ⟨U.toArray⟩,.int .i64 E])∧Bl wr w') from by rw[hU,hE];exact hu);rw[←hU] at hul;obtain ⟨T,hTT⟩:=aH0 ((aL m7 U).1);obtain ⟨F,hFF⟩:=aH0 ((aL m7 U).2);have Hr:=aHH (fun wx (hx:Bl wr wx)=>show Calls Tryz.prog 286 #[.string ⟨U.toArray⟩] wx (fun e w'=>e=.returned (.tuple #[.string ⟨T.toArray⟩,.int .i64 F])∧Bl wx w') from by rw[hTT,hFF];exact qT U wx (by omega) (HT.out.bl (RG.trans hx)));have hle:10*m-1≤zs.length:=(by rw[←HN.out];omega);have zI:=aHH (fun (h1:E=0) (h2:F=0)=>show gM zs=some (2,T,k) from by
       rw[hk];exact pM WA.out (HF.out.trans (pK hle (by rw[←hq,pO (by rw[←hE];exact h1) (by rw[←hU];exact hFF.symm.trans h2),←hU];exact congrArg some hTT.symm))))
      have zJ:=aHH (fun (h1:E≠0)=>show dY zs 3=dY zs (m+1) from HF.out.trans (gW hle (by rw[←hq];exact tT (by rw[←hE];exact h1))));have sV:=aHH (fun (h2:F≠0)=>show dY zs 3=dY zs (m+1) from HF.out.trans (gW hle (by rw[←hq];exact pP (by rw[←hU];exact fun h=>h2 (hFF.trans h)))));clear hq hU hE hTT hFF hu htl hul hle hk;go_wp2_with fail;refine Hu.out.mono ?_;rintro e w5 ⟨rfl,hb5⟩;clear Hu;by_cases hE0:E=0
      ·subst hE0;have HY1:=aHH (zI.out rfl);clear zI zJ;go_wp2_with fail;refine (Hr.out _ hb5).mono ?_;rintro e w6 ⟨rfl,hb6⟩;clear Hr;by_cases hF0:F=0
       ·subst hF0;have HC:=aHH (HY1.out rfl);clear HY1 sV;have ZX:=hbr.trans (hb5.trans hb6);have bO4:=HBO.out.bl ZX;have k0:=bO4.all6';go_wp2_with fail;refine aIx (v:=.tuple #[.agg #[.int .i64 2,.string ⟨T.toArray⟩,.int .i64 0,.int .i64 0,.int .i64 0,.int .i64 0],.int .i64 k]) (by simp[results,Tryz.results237,go_sem,k0]) rfl (Or.inl ⟨_,_,_,HC.out,rfl,?_⟩);exact ((((((hb2.trans ZX).setCell hoW _).setCell hoW _).setCell hoW _).setCell hoW _).setCell hoW _).setCell hoW _
       ·have HNx:=aHH (sV.out hF0);have aCw:(F==0)=false:=(by simp[hF0]);clear HY1 sV hF0;go_wp2_with fail;have hk:=HK.out;exact ⟨⟨m+1,by omega,by omega,by rw[show 10*(m+1)-1=k+10 by omega];go_num,hbr.trans (hb5.trans hb6),HNx⟩,by simp[RowKit.intOf]<;>omega⟩
      ·have HNx:=aHH (zJ.out hE0);have aCw:(E==0)=false:=(by simp[hE0]);clear zI zJ sV hE0 Hr;go_wp2_with fail;have hk:=HK.out;exact ⟨⟨m+1,by omega,by omega,by rw[show 10*(m+1)-1=k+10 by omega];go_num,hbr.trans hb5,HNx⟩,by simp[RowKit.intOf]<;>omega⟩
     ·have HC:=aHH (show gM zs=none from iE WA.out (HF.out.trans (yU (by omega))));have aBm:¬(k:Int)≤429:=(by omega);have bO4:=HBO.out.bl hbr;have k0:=bO4.all6';clear hk;go_wp2_with fail;refine aIx (v:=.tuple #[.agg #[.int .i64 0,.string ⟨#[]⟩,.int .i64 0,.int .i64 0,.int .i64 0,.int .i64 0],.int .i64 0]) (by simp[results,Tryz.results237,go_sem,k0]) rfl (Or.inr ⟨HC.out,rfl,?_⟩);exact (((((RG.setCell hoW _).setCell hoW _).setCell hoW _).setCell hoW _).setCell hoW _).setCell hoW _
    ·have HC:=aHH (show gM zs=none from iE WA.out (HF.out.trans (pL (by rw[←HN.out,←hk];exact hkn))));have aCv:¬(k:Int)≤(n:Int):=(by omega);have bO4:=HBO.out.bl hbr;have k0:=bO4.all6';clear hk;go_wp2_with fail;refine aIx (v:=.tuple #[.agg #[.int .i64 0,.string ⟨#[]⟩,.int .i64 0,.int .i64 0,.int .i64 0,.int .i64 0],.int .i64 0]) (by simp[results,Tryz.results237,go_sem,k0]) rfl (Or.inr ⟨HC.out,rfl,?_⟩);exact (((((RG.setCell hoW _).setCell hoW _).setCell hoW _).setCell hoW _).setCell hoW _).setCell hoW _
 ·have WA:=aHH (show IM zs=none by unfold IM;rw[←HN.out,if_neg h59]);have hbq:=Bl.refl w2;have aBi:¬(59:Int)≤(n:Int):=(by omega);go_wp2_with fail;go_loopw [8] (fun s8 wr=>∃m:Nat,3≤m∧m≤44∧s8=.int .i64 ((10*m-1:Nat):Int)∧Bl w2 wr∧Hid (dY zs 3=dY zs m)) (fun s8 _=>500-(RowKit.intOf s8).toNat);case atStart=>exact ⟨3,by decide,by decide,rfl,hbq,aHH rfl⟩
  case round=>
   rename World=>wr;obtain ⟨m,hm3,aFV,rfl,hbr,HF⟩:=hrel;obtain ⟨k,hk⟩:=aH0 (10*m-1);have HK:=aHH hk;have aFW:29≤k:=(by omega);have aCu:k≤439:=(by omega);have RG:=hb2.trans hbr;rw[←hk];by_cases hkn:k≤n
   ·have aCv:(k:Int)≤(n:Int):=(by omega);by_cases hkm:k≤429
    ·have aBm:(k:Int)≤429:=(by omega);obtain ⟨ad2,hL2,-⟩:=HX.out.2 (by rw[←HN.out];omega);first|subst hL2|(injection hL2 with hL2;subst hL2)
     have htl:(zs.take k).length=k:=(by rw[aH7,←HN.out];omega);have hu:=r9 (zs.take k) _ c 2 wr (by rw[htl];exact pQ (HX.out.bl RG) (by rw[←HN.out];omega)) (by omega) (by omega);rw[htl] at hu;have hul:(uM (zs.take k) 2).length≤1048576:=(by have:=CD (zs.take k) 2;omega);have hq:EY (zs.take k) 2=m9 zs m:=(by unfold m9;rw[←HK.out]);obtain ⟨U,hU⟩:=aH0 (uM (zs.take k) 2);obtain ⟨E,hE⟩:=aH0 (cA (zs.take k) 2);have Hu:=aHH (show Calls Tryz.prog 284 #[.slice _ k c,.int .i64 2] wr (fun e w'=>e=.returned (.tuple #[.string ⟨U.toArray⟩,.int .i64 E])∧Bl wr w') from by rw[hU,hE];exact hu);rw[←hU] at hul;obtain ⟨T,hTT⟩:=aH0 ((aL m7 U).1);obtain ⟨F,hFF⟩:=aH0 ((aL m7 U).2);have Hr:=aHH (fun wx (hx:Bl wr wx)=>show Calls Tryz.prog 286 #[.string ⟨U.toArray⟩] wx (fun e w'=>e=.returned (.tuple #[.string ⟨T.toArray⟩,.int .i64 F])∧Bl wx w') from by rw[hTT,hFF];exact qT U wx (by omega) (HT.out.bl (RG.trans hx)));have hle:10*m-1≤zs.length:=(by rw[←HN.out];omega);have zI:=aHH (fun (h1:E=0) (h2:F=0)=>show gM zs=some (2,T,k) from by
      rw[hk];exact pM WA.out (HF.out.trans (pK hle (by rw[←hq,pO (by rw[←hE];exact h1) (by rw[←hU];exact hFF.symm.trans h2),←hU];exact congrArg some hTT.symm))))
     have zJ:=aHH (fun (h1:E≠0)=>show dY zs 3=dY zs (m+1) from HF.out.trans (gW hle (by rw[←hq];exact tT (by rw[←hE];exact h1))));have sV:=aHH (fun (h2:F≠0)=>show dY zs 3=dY zs (m+1) from HF.out.trans (gW hle (by rw[←hq];exact pP (by rw[←hU];exact fun h=>h2 (hFF.trans h)))));clear hq hU hE hTT hFF hu htl hul hle hk;go_wp2_with fail;refine Hu.out.mono ?_;rintro e w5 ⟨rfl,hb5⟩;clear Hu;by_cases hE0:E=0
     ·subst hE0;have HY1:=aHH (zI.out rfl);clear zI zJ;go_wp2_with fail;refine (Hr.out _ hb5).mono ?_;rintro e w6 ⟨rfl,hb6⟩;clear Hr;by_cases hF0:F=0
      ·subst hF0;have HC:=aHH (HY1.out rfl);clear HY1 sV;have ZX:=hbr.trans (hb5.trans hb6);have bO4:=HBO.out.bl ZX;have k0:=bO4.all6';go_wp2_with fail;refine aIx (v:=.tuple #[.agg #[.int .i64 2,.string ⟨T.toArray⟩,.int .i64 0,.int .i64 0,.int .i64 0,.int .i64 0],.int .i64 k]) (by simp[results,Tryz.results237,go_sem,k0]) rfl (Or.inl ⟨_,_,_,HC.out,rfl,?_⟩);exact ((((((hb2.trans ZX).setCell hoW _).setCell hoW _).setCell hoW _).setCell hoW _).setCell hoW _).setCell hoW _
      ·have HNx:=aHH (sV.out hF0);have aCw:(F==0)=false:=(by simp[hF0]);clear HY1 sV hF0;go_wp2_with fail;have hk:=HK.out;exact ⟨⟨m+1,by omega,by omega,by rw[show 10*(m+1)-1=k+10 by omega];go_num,hbr.trans (hb5.trans hb6),HNx⟩,by simp[RowKit.intOf]<;>omega⟩
     ·have HNx:=aHH (zJ.out hE0);have aCw:(E==0)=false:=(by simp[hE0]);clear zI zJ sV hE0 Hr;go_wp2_with fail;have hk:=HK.out;exact ⟨⟨m+1,by omega,by omega,by rw[show 10*(m+1)-1=k+10 by omega];go_num,hbr.trans hb5,HNx⟩,by simp[RowKit.intOf]<;>omega⟩
    ·omega
   ·have HC:=aHH (show gM zs=none from iE WA.out (HF.out.trans (pL (by rw[←HN.out,←hk];exact hkn))));have aCv:¬(k:Int)≤(n:Int):=(by omega);have bO4:=HBO.out.bl hbr;have k0:=bO4.all6';clear hk;go_wp2_with fail;refine aIx (v:=.tuple #[.agg #[.int .i64 0,.string ⟨#[]⟩,.int .i64 0,.int .i64 0,.int .i64 0,.int .i64 0],.int .i64 0]) (by simp[results,Tryz.results237,go_sem,k0]) rfl (Or.inr ⟨HC.out,rfl,?_⟩);exact (((((RG.setCell hoW _).setCell hoW _).setCell hoW _).setCell hoW _).setCell hoW _).setCell hoW _
def lC (zs:List Int) (i many:Nat) (kind:Int):Option (List UInt8):=if i+many≤zs.length then EY ((zs.drop i).take many) kind else none
def TryRes (ys:Option (List UInt8)) (w:World) (e:Ending) (w':World):Prop:=∃s b,e=.returned (.tuple #[.string ⟨s.toArray⟩,.bool b])∧(b=true→ys=some s)∧(b=false→ys=none)∧Bl w w'
theorem yW {w:World} {ad:Addr} {zs:List Int} {i m:Nat} (h:Reads w 1 (some ad) zs.length (bD zs)) (hi:i+m≤zs.length):Reads w 1 (some (ad.add i)) m (bD ((zs.drop i).take m)):=by
 refine ⟨by unfold bD;rw[aH6,aH7,aIg];omega,fun h0 => ?_⟩;obtain ⟨ad',e,hc⟩:=h.2 (by omega);injection e with e;subst e;refine ⟨_,rfl,fun j u hu => ?_⟩;rw[dZ];apply hc;unfold bD at hu ⊢;rw[List.map_take,List.map_drop] at hu;have hj:j<m:=by
  have:=(aH3.1 hu).1;rw[aH7] at this;omega
 rw[aIe hj,aIf] at hu;exact hu
theorem XV (g:Nat) (zs:List Int) (L:Option Addr) (c i many:Nat) (w:World) (hb:Blk w g 47 #[.slice L zs.length c]) (hx:Reads w 1 L zs.length (bD zs)) (hn:zs.length≤4001) (hc:zs.length≤c) (hm:1≤many) (hm2:many≤1000000) (hi:i≤1000000) (hT:SpOk w) :
 Calls Tryz.prog 192 #[i,many,.int .i64 1,.pointer (some ⟨g,0,none⟩)] w (TryRes (lC zs i many 1) w):=by
 have HT:=aHH hT;obtain ⟨n,hnn⟩:=aH0 zs.length;have HX:=aHH hx;have HN:=aHH hnn;rw[←hnn] at hn hc hb;clear hnn hx hT;have k0:=hb.all1;by_cases h59:i+many≤n
 ·obtain ⟨ad,rfl,-⟩:=HX.out.2 (by rw[←HN.out];omega);have htl:((zs.drop i).take many).length=many:=(by rw[aH7,aIg,←HN.out];omega);have hu2:=fun wx L2 c2 (hr:Reads wx 1 L2 ((zs.drop i).take many).length (bD ((zs.drop i).take many))) hc2=>yC ((zs.drop i).take many) L2 c2 1 wx hr (by omega) hc2;rw[htl] at hu2;have hul:(uM ((zs.drop i).take many) 1).length≤1048576:=(by have:=CD ((zs.drop i).take many) 1;omega);have hq:EY ((zs.drop i).take many) 1=lC zs i many 1:=(by unfold lC;rw[←HN.out,if_pos h59]);obtain ⟨U,hU⟩:=aH0 (uM ((zs.drop i).take many) 1);obtain ⟨E,hE⟩:=aH0 (cA ((zs.drop i).take many) 1);have Hu:=aHH (show Calls Tryz.prog 193 #[.slice (some (ad.add i)) many (c-i),.int .i64 1] w (fun e w'=>e=.returned (.tuple #[.string ⟨U.toArray⟩,.int .i64 E])∧Bl w w') from by rw[hU,hE];exact hu2 w _ _ (yW HX.out (by rw[←HN.out];omega)) (by omega));rw[←hU] at hul;obtain ⟨T,hTT⟩:=aH0 ((aL fZ U).1);obtain ⟨F,hFF⟩:=aH0 ((aL fZ U).2);obtain ⟨Hr,zI,zJ,sV⟩:=aHJ (fun wx (hx:Bl w wx)=>show Calls Tryz.prog 194 #[.string ⟨U.toArray⟩] wx (fun e w'=>e=.returned (.tuple #[.string ⟨T.toArray⟩,.int .i64 F])∧Bl wx w') from by rw[hTT,hFF];exact D9 U wx (by omega) (HT.out.bl hx)) (fun (h1:E=0) (h2:F=0)=>show lC zs i many 1=some T from by rw[←hq,pO (by rw[←hE];exact h1) (by rw[←hU];exact hFF.symm.trans h2),←hU];exact congrArg some hTT.symm) (fun (h1:E≠0)=>show lC zs i many 1=none from by rw[←hq];exact tT (by rw[←hE];exact h1)) (fun (h2:F≠0)=>show lC zs i many 1=none from by rw[←hq];exact pP (by rw[←hU];exact fun h=>h2 (hFF.trans h)));clear hq hU hE hTT hFF hu2 hul htl;have aBi:¬(n:Int)<(i:Int)+(many:Int):=by omega
  go_in
  go_wp2_with fail;refine Hu.out.mono ?_;rintro e w3 ⟨rfl,hb3⟩;clear Hu;by_cases hE0:E=0
  ·subst hE0;have HY1:=aHH (zI.out rfl);clear zI zJ;go_wp2_with fail;refine (Hr.out _ hb3).mono ?_;rintro e w4 ⟨rfl,hb4⟩;clear Hr;have mJ:=hb3.trans hb4;by_cases hF0:F=0
   ·subst hF0;have HC:=aHH (HY1.out rfl);clear HY1 sV;go_wp2_with fail;refine aIx (v:=.tuple #[.string ⟨T.toArray⟩,.bool true]) (by simp[results,Tryz.results192,go_sem]) rfl ⟨T,true,rfl,fun _=>HC.out,fun h=>(by cases h),mJ⟩
   ·have HC:=aHH (sV.out hF0);have hbF:(F==0)=false:=(by simp[hF0]);clear HY1 sV hF0;go_wp2_with fail;refine aIx (v:=.tuple #[.string ⟨T.toArray⟩,.bool false]) (by simp[results,Tryz.results192,go_sem]) rfl ⟨T,false,rfl,fun h=>(by cases h),fun _=>HC.out,mJ⟩
  ·have HC:=aHH (zJ.out hE0);have hbF:(E==0)=false:=(by simp[hE0]);clear zI zJ sV hE0 Hr;go_wp2_with fail;refine aIx (v:=.tuple #[.string ⟨#[]⟩,.bool false]) (by simp[results,Tryz.results192,go_sem]) rfl ⟨[],false,rfl,fun h=>(by cases h),fun _=>HC.out,hb3⟩
 ·have HC:=aHH (show lC zs i many 1=none by unfold lC;rw[←HN.out,if_neg h59]);have aBi:(n:Int)<(i:Int)+(many:Int):=by omega
  go_in
  go_wp2_with fail;refine aIx (v:=.tuple #[.string ⟨#[]⟩,.bool false]) (by simp[results,Tryz.results192,go_sem]) rfl ⟨[],false,rfl,fun h=>(by cases h),fun _=>HC.out,Bl.refl _⟩
theorem XW (g:Nat) (zs:List Int) (L:Option Addr) (c i many:Nat) (w:World) (hb:Blk w g 47 #[.slice L zs.length c]) (hx:Reads w 1 L zs.length (bD zs)) (hn:zs.length≤4001) (hc:zs.length≤c) (hm:1≤many) (hm2:many≤1000000) (hi:i≤1000000) (hT:SpOk w) :
 Calls Tryz.prog 192 #[i,many,.int .i64 2,.pointer (some ⟨g,0,none⟩)] w (TryRes (lC zs i many 2) w):=by
 have HT:=aHH hT;obtain ⟨n,hnn⟩:=aH0 zs.length;have HX:=aHH hx;have HN:=aHH hnn;rw[←hnn] at hn hc hb;clear hnn hx hT;have k0:=hb.all1;by_cases h59:i+many≤n
 ·obtain ⟨ad,rfl,-⟩:=HX.out.2 (by rw[←HN.out];omega);have htl:((zs.drop i).take many).length=many:=(by rw[aH7,aIg,←HN.out];omega);have hu2:=fun wx L2 c2 (hr:Reads wx 1 L2 ((zs.drop i).take many).length (bD ((zs.drop i).take many))) hc2=>yC ((zs.drop i).take many) L2 c2 2 wx hr (by omega) hc2;rw[htl] at hu2;have hul:(uM ((zs.drop i).take many) 2).length≤1048576:=(by have:=CD ((zs.drop i).take many) 2;omega);have hq:EY ((zs.drop i).take many) 2=lC zs i many 2:=(by unfold lC;rw[←HN.out,if_pos h59]);obtain ⟨U,hU⟩:=aH0 (uM ((zs.drop i).take many) 2);obtain ⟨E,hE⟩:=aH0 (cA ((zs.drop i).take many) 2);have Hu:=aHH (show Calls Tryz.prog 193 #[.slice (some (ad.add i)) many (c-i),.int .i64 2] w (fun e w'=>e=.returned (.tuple #[.string ⟨U.toArray⟩,.int .i64 E])∧Bl w w') from by rw[hU,hE];exact hu2 w _ _ (yW HX.out (by rw[←HN.out];omega)) (by omega));rw[←hU] at hul;obtain ⟨T,hTT⟩:=aH0 ((aL m7 U).1);obtain ⟨F,hFF⟩:=aH0 ((aL m7 U).2);obtain ⟨Hr,zI,zJ,sV⟩:=aHJ (fun wx (hx:Bl w wx)=>show Calls Tryz.prog 195 #[.string ⟨U.toArray⟩] wx (fun e w'=>e=.returned (.tuple #[.string ⟨T.toArray⟩,.int .i64 F])∧Bl wx w') from by rw[hTT,hFF];exact IL U wx (by omega) (HT.out.bl hx)) (fun (h1:E=0) (h2:F=0)=>show lC zs i many 2=some T from by rw[←hq,pO (by rw[←hE];exact h1) (by rw[←hU];exact hFF.symm.trans h2),←hU];exact congrArg some hTT.symm) (fun (h1:E≠0)=>show lC zs i many 2=none from by rw[←hq];exact tT (by rw[←hE];exact h1)) (fun (h2:F≠0)=>show lC zs i many 2=none from by rw[←hq];exact pP (by rw[←hU];exact fun h=>h2 (hFF.trans h)));clear hq hU hE hTT hFF hu2 hul htl;have aBi:¬(n:Int)<(i:Int)+(many:Int):=by omega
  go_in
  go_wp2_with fail;refine Hu.out.mono ?_;rintro e w3 ⟨rfl,hb3⟩;clear Hu;by_cases hE0:E=0
  ·subst hE0;have HY1:=aHH (zI.out rfl);clear zI zJ;go_wp2_with fail;refine (Hr.out _ hb3).mono ?_;rintro e w4 ⟨rfl,hb4⟩;clear Hr;have mJ:=hb3.trans hb4;by_cases hF0:F=0
   ·subst hF0;have HC:=aHH (HY1.out rfl);clear HY1 sV;go_wp2_with fail;refine aIx (v:=.tuple #[.string ⟨T.toArray⟩,.bool true]) (by simp[results,Tryz.results192,go_sem]) rfl ⟨T,true,rfl,fun _=>HC.out,fun h=>(by cases h),mJ⟩
   ·have HC:=aHH (sV.out hF0);have hbF:(F==0)=false:=(by simp[hF0]);clear HY1 sV hF0;go_wp2_with fail;refine aIx (v:=.tuple #[.string ⟨T.toArray⟩,.bool false]) (by simp[results,Tryz.results192,go_sem]) rfl ⟨T,false,rfl,fun h=>(by cases h),fun _=>HC.out,mJ⟩
  ·have HC:=aHH (zJ.out hE0);have hbF:(E==0)=false:=(by simp[hE0]);clear zI zJ sV hE0 Hr;go_wp2_with fail;refine aIx (v:=.tuple #[.string ⟨#[]⟩,.bool false]) (by simp[results,Tryz.results192,go_sem]) rfl ⟨[],false,rfl,fun h=>(by cases h),fun _=>HC.out,hb3⟩
 ·have HC:=aHH (show lC zs i many 2=none by unfold lC;rw[←HN.out,if_neg h59]);have aBi:(n:Int)<(i:Int)+(many:Int):=by omega
  go_in
  go_wp2_with fail;refine aIx (v:=.tuple #[.string ⟨#[]⟩,.bool false]) (by simp[results,Tryz.results192,go_sem]) rfl ⟨[],false,rfl,fun h=>(by cases h),fun _=>HC.out,Bl.refl _⟩
end Go.Proofs.YtllefinciimffaaGreatDoor
