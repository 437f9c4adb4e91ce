import Derived.Test.YtllefinciimffaaGreatDoorMClaimTopForms28
import Derived.Test.YtllefinciimffaaGreatDoorMClaimTopForms21
import Derived.Test.YtllefinciimffaaGreatDoorMClaimTopForms26
set_option maxHeartbeats 20000000
set_option maxRecDepth 100000
namespace Go.Proofs.YtllefinciimffaaGreatDoor
open Go.RowKit
def uM (zs:List Int) (kind:Int):List UInt8:=if bT zs kind=0 then gI zs kind (dE zs zs.length) zs.length else []
def rdK (kind:Int) (m:List UInt8):List UInt8 × Int:=if kind=1 then aN jL m else aN nP m
def A4 (zs:List Int) (kind:Int):Option (List UInt8):=if bT zs kind=0 then (if (rdK kind (uM zs kind)).2=0 then some (rdK kind (uM zs kind)).1 else none) else none
def mX (zs:List Int) (m:Nat):Option (List UInt8):=A4 (zs.take (10*m-1)) 2
def mP (zs : List Int) : Nat → Nat → Option (Nat × List UInt8)
 |0,_=>none
 |k+1,m=>if 10*m-1≤zs.length then (match mX zs m with|some t=>some (m,t)|none=>mP zs k (m+1)) else none
def A9 (zs:List Int):Option (List UInt8):=if 59≤zs.length then A4 (zs.take 59) 1 else none
def gJ (zs:List Int):Option (Int × List UInt8 × Nat):=match A9 zs with
 |some t=>some (1,t,59)
 |none=>(mP zs 41 3).map fun x=>(2,x.2,10*x.1-1)
def wZ (zs:List Int) (i:Nat):Int:=(zs.take i).sum
def lN (zs : List Int) (y : Int) : Nat → Nat → List Cd
 |0,_=>[]
 |k+1,i=>if i<zs.length then (match gJ (zs.drop i) with
  |some (kd,t,many)=>⟨kd,t,wZ zs i,y,wZ zs (i+many)-wZ zs i,1⟩ :: lN zs y k (i+many+1)
  |none=>lN zs y k (i+2)) else []
def LA (zs:List Int) (y:Int):List Cd:=lN zs y zs.length 1
theorem zZ {zs:List Int} {k m:Nat} (h:10*m-1≤zs.length):mP zs (k+1) m=match mX zs m with|some t=>some (m,t)|none=>mP zs k (m+1):=by
 show (if _ then _ else _)=_;rw[if_pos h]
theorem qU {zs:List Int} {k m:Nat} {t:List UInt8} (h:10*m-1≤zs.length) (ht:mX zs m=some t):mP zs (k+1) m=some (m,t):=by rw[zZ h,ht]
theorem lO {zs:List Int} {k m:Nat} (h:10*m-1≤zs.length) (ht:mX zs m=none):mP zs (k+1) m=mP zs k (m+1):=by rw[zZ h,ht]
theorem nQ {zs:List Int} {k m:Nat} (h:¬10*m-1≤zs.length):mP zs k m=none:=by
 cases k with
 |zero=>rfl
 |succ k=>show (if _ then _ else _)=_;rw[if_neg h]
theorem kP (zs : List Int) (y : Int) : ∀ k k' i, zs.length - i ≤ k → zs.length - i ≤ k' → lN zs y k i = lN zs y k' i
 |0,0,_,_,_=>rfl
 |0,k'+1,i,h,_=>by
  show []=(if _ then _ else _);rw[if_neg (by omega)]
 |k+1,0,i,_,h=>by
  show (if _ then _ else _)=[];rw[if_neg (by omega)]
 |k+1,k'+1,i,h,h'=>by
  show (if i<zs.length then _ else _)=(if i<zs.length then _ else _);by_cases hi:i<zs.length
  ·rw[if_pos hi,if_pos hi];cases hc:gJ (zs.drop i) with
   |none=>exact kP zs y k k' (i+2) (by omega) (by omega)
   |some x=>obtain ⟨kd,t,many⟩:=x;simp only;rw[kP zs y k k' (i+many+1) (by omega) (by omega)]
  ·rw[if_neg hi,if_neg hi]
def tT (zs:List Int) (y:Int) (i:Nat):List Cd:=lN zs y (zs.length-i) i
theorem z6 (zs:List Int) (y:Int):tT zs y 1=LA zs y:=kP zs y _ _ 1 (Nat.le_refl _) (by omega)
theorem z7 {zs:List Int} {y:Int} {i:Nat} (h:zs.length≤i):tT zs y i=[]:=by
 unfold tT;rw[show zs.length-i=0 by omega];rfl
theorem DO {zs:List Int} {y:Int} {i:Nat} (h:i<zs.length):tT zs y i=match gJ (zs.drop i) with
 |some (kd,t,many)=>⟨kd,t,wZ zs i,y,wZ zs (i+many)-wZ zs i,1⟩ :: tT zs y (i+many+1)
 |none=>tT zs y (i+2):=by
 unfold tT;obtain ⟨k,hk⟩:∃k,zs.length-i=k+1:=⟨zs.length-i-1,by omega⟩;rw[hk];show (if i<zs.length then _ else _)=_;rw[if_pos h];cases hc:gJ (zs.drop i) with
 |none=>exact kP zs y _ _ _ (by omega) (Nat.le_refl _)
 |some x=>obtain ⟨kd,t,many⟩:=x;simp only;rw[kP zs y k (zs.length-(i+many+1)) _ (by omega) (Nat.le_refl _)]
theorem DP {zs:List Int} {y:Int} {i many:Nat} {kd:Int} {t:List UInt8} (h:i<zs.length) (hc:gJ (zs.drop i)=some (kd,t,many)):tT zs y i=⟨kd,t,wZ zs i,y,wZ zs (i+many)-wZ zs i,1⟩ :: tT zs y (i+many+1):=by rw[DO h,hc]
theorem TC {zs:List Int} {y:Int} {i:Nat} (h:i<zs.length) (hc:gJ (zs.drop i)=none):tT zs y i=tT zs y (i+2):=by rw[DO h,hc]
theorem pY (zs : List Int) (kind : Int) (sum : Nat) : ∀ i, gI zs kind sum i = aI 0 ((List.range i).map (gH zs kind sum))
 |0=>rfl
 |i+1=>by
  show gI zs kind sum i++List.replicate (gH zs kind sum i) (bI i)=_;rw[List.range_succ,aLS,bF,pY zs kind sum i,aLz,aMe];show _=_++(List.replicate (gH zs kind sum i) (bZ (0+i))++[]);rw[aMj,Nat.zero_add];rfl
theorem iO {i j : Nat} (h : i % 2 = j % 2) : ∀ rs, aI i rs = aI j rs
 |[]=>rfl
 |n :: rs=>by
  show List.replicate n (bZ i)++aI (i+1) rs=List.replicate n (bZ j)++aI (j+1) rs;rw[iO (show (i+1) % 2=(j+1) % 2 by omega) rs];unfold bZ;rw[h]
theorem DQ : ∀ (rs : List Nat) (i : Nat), (aI i rs).reverse = aI (i + rs.length + 1) rs.reverse
 |[],_=>rfl
 |n :: rs,i=>by
  show (List.replicate n (bZ i)++aI (i+1) rs).reverse=_;rw[List.reverse_append,List.reverse_replicate,DQ rs (i+1),List.reverse_cons,bF,aL3];rw[iO (show (i+1+rs.length+1) % 2=(i+(n :: rs).length+1) % 2 by simp only[aLB];omega)]
  congr 1
  show _=List.replicate n (bZ _)++[];rw[aMj];unfold bZ;rw[show (i+(n :: rs).length+1+rs.length) % 2=i % 2 by simp only[aLB];omega]
theorem sG {rs:List Nat} (h:rs.length % 2=1):(aI 0 rs).reverse=aI 0 rs.reverse:=by
 rw[DQ];exact iO (by omega) _
theorem XX {rs:List Nat} (h1:∀n∈rs,1≤n) (h:(nP (aI 0 rs)).2≠2):∃ks,GS rs=some ks∧DN (txt ks)=true:=by
 rcases zW (aI 0 rs) with ⟨T,hT1,hT2⟩|⟨-,h'⟩
 ·unfold BN at hT1;by_cases hl:lU (aI 0 rs)=true
  ·rw[if_pos hl] at hT1;obtain ⟨ks,hks,rfl⟩:=Option.map_eq_some_iff.1 hT1;obtain ⟨e1,e2⟩:=cAa hl;rw[qG e2 h1 e1] at hks;exact ⟨ks,hks,hT2⟩
  ·rw[if_neg hl] at hT1;cases hT1
 ·rw[h'] at h;exact absurd rfl h
theorem J3 {rs:List Nat} (h1:∀n∈rs,1≤n) (hl:430≤rs.length):(nP (aI 0 rs)).2=2:=by
 rcases Classical.em ((nP (aI 0 rs)).2=2) with h|h
 ·exact h
 ·exfalso;obtain ⟨ks,h2,h3⟩:=XX h1 h;have h4:=((kT _ _).1 h2).1;have h5:=(XQ h3).2;rw[M6] at h5;omega
theorem aEJ (zs:List Int) (kind:Int) (sum n:Nat):∀k∈(List.range n).map (gH zs kind sum),1≤k:=by
 intro k hk;obtain ⟨i,-,rfl⟩:=aMf.1 hk;exact (tM zs kind sum i).1
theorem DR {zs:List Int} {m:Nat} (hm:44≤m) (hl:10*m-1≤zs.length):mX zs m=none:=by
 unfold mX A4;by_cases hu:bT (zs.take (10*m-1)) 2=0
 ·have hyl:(zs.take (10*m-1)).length=10*m-1:=(by rw[aLA];omega);obtain ⟨ys,hys⟩:=aLt (zs.take (10*m-1));rw[←hys] at hu hyl ⊢;rw[if_pos hu];unfold uM rdK;rw[if_pos hu,if_neg (by decide:¬(2:Int)=1),pY];obtain ⟨rs,hrs⟩:=aLt ((List.range ys.length).map (gH ys 2 (dE ys ys.length)));have hrl:rs.length=10*m-1:=(by rw[hrs,aLz,aMe,hyl]);have hrp:∀n∈rs,1≤n:=(by rw[hrs];exact aEJ _ _ _ _);rw[←hrs];have h1:=J3 hrp (by omega);have h2:=J3 (rs:=rs.reverse) (fun n hn=>hrp n (List.mem_reverse.1 hn)) (by rw[aL3];omega);have h3:(aN nP (aI 0 rs)).2=2:=by
   unfold aN;rw[if_pos h1,sG (by omega)];exact h2
  rw[h3,if_neg (by decide)]
 ·rw[if_neg hu]
theorem oJ (zs : List Int) : ∀ k m, 44 ≤ m → mP zs k m = none
 |0,_,_=>rfl
 |k+1,m,h=>by
  by_cases hl:10*m-1≤zs.length
  ·rw[lO hl (DR h hl)];exact oJ zs k (m+1) (by omega)
  ·exact nQ hl
theorem z8 (zs : List Int) : ∀ k k' m, 44 ≤ m + k → 44 ≤ m + k' → mP zs k m = mP zs k' m
 |0,k',m,h,_=>(oJ zs k' m (by omega)).symm
 |k+1,0,m,_,h=>oJ zs (k+1) m (by omega)
 |k+1,k'+1,m,h,h'=>by
  by_cases hl:10*m-1≤zs.length
  ·cases hc:mX zs m with
   |none=>rw[lO hl hc,lO hl hc];exact z8 zs k k' (m+1) (by omega) (by omega)
   |some t=>rw[qU hl hc,qU hl hc]
  ·rw[nQ hl,nQ hl]
def dO (zs:List Int) (m:Nat):Option (Nat × List UInt8):=mP zs (44-m) m
theorem wO (zs:List Int):dO zs 3=mP zs 41 3:=rfl
theorem qV {zs:List Int} {m:Nat} {t:List UInt8} (h:10*m-1≤zs.length) (ht:mX zs m=some t):dO zs m=some (m,t):=by
 have hm:m<44:=by
  rcases Nat.lt_or_ge m 44 with h1|h1
  ·exact h1
  ·rw[DR h1 h] at ht;cases ht
 unfold dO;rw[show 44-m=44-(m+1)+1 by omega];exact qU h ht
theorem iJ {zs:List Int} {m:Nat} (h:10*m-1≤zs.length) (ht:mX zs m=none):dO zs m=dO zs (m+1):=by
 unfold dO;rw[z8 zs (44-m) (44-(m+1)+1) m (by omega) (by omega)];exact lO h ht
theorem vB {zs:List Int} {m:Nat} (h:¬10*m-1≤zs.length):dO zs m=none:=nQ h
theorem AA {zs:List Int} {m:Nat} (h:44≤m):dO zs m=none:=oJ zs _ m h
theorem tU {zs:List Int} {t:List UInt8} (h:A9 zs=some t):gJ zs=some (1,t,59):=by unfold gJ;rw[h]
theorem qW {zs:List Int} {t:List UInt8} {m:Nat} (h:A9 zs=none) (h2:dO zs 3=some (m,t)):gJ zs=some (2,t,10*m-1):=by
 unfold gJ;rw[h,←wO,h2];rfl
theorem jX {zs:List Int} (h:A9 zs=none) (h2:dO zs 3=none):gJ zs=none:=by
 unfold gJ;rw[h,←wO,h2];rfl
theorem aBg {zs:List Int} {kind:Int} {t:List UInt8} (h:A4 zs kind=some t):bT zs kind=0:=by
 unfold A4 at h;by_cases hu:bT zs kind=0
 ·exact hu
 ·rw[if_neg hu] at h;cases h
theorem AB {zs : List Int} : ∀ {k m m' : Nat} {t : List UInt8}, mP zs k m = some (m', t) → m ≤ m' ∧ 10 * m' - 1 ≤ zs.length ∧ mX zs m' = some t
 |0,_,_,_,h=>by cases h
 |k+1,m,m',t,h=>by
  by_cases hl:10*m-1≤zs.length
  ·cases hc:mX zs m with
   |none=>rw[lO hl hc] at h;have:=AB h;exact ⟨by omega,this.2⟩
   |some t'=>rw[qU hl hc] at h;obtain ⟨rfl,rfl⟩:=Prod.mk.inj (aLZ h);exact ⟨Nat.le_refl _,hl,hc⟩
  ·rw[nQ hl] at h;cases h
theorem vC {zs:List Int} {kd:Int} {t:List UInt8} {many:Nat} (h:gJ zs=some (kd,t,many)):(kd=1∨kd=2)∧29≤many∧many≤zs.length:=by
 cases he:A9 zs with
 |some t'=>
  rw[tU he] at h;obtain ⟨rfl,h2⟩:=Prod.mk.inj (aLZ h);obtain ⟨rfl,rfl⟩:=Prod.mk.inj h2;unfold A9 at he;by_cases hl:59≤zs.length
  ·exact ⟨.inl rfl,by decide,hl⟩
  ·rw[if_neg hl] at he;cases he
 |none=>
  cases hf:dO zs 3 with
  |none=>rw[jX he hf] at h;cases h
  |some x=>obtain ⟨m,t'⟩:=x;rw[qW he hf] at h;obtain ⟨rfl,h2⟩:=Prod.mk.inj (aLZ h);obtain ⟨rfl,rfl⟩:=Prod.mk.inj h2;obtain ⟨h3,h4,-⟩:=AB hf;exact ⟨.inr rfl,by omega,h4⟩
theorem tV {zs:List Int} {kind:Int} (h:bT zs kind=0) (h2:(rdK kind (uM zs kind)).2=0):A4 zs kind=some (rdK kind (uM zs kind)).1:=by unfold A4;rw[if_pos h,if_pos h2]
theorem F3 {zs:List Int} {kind:Int} (h:bT zs kind≠0):A4 zs kind=none:=by unfold A4;rw[if_neg h]
theorem xP {zs:List Int} {kind:Int} (h2:(rdK kind (uM zs kind)).2≠0):A4 zs kind=none:=by
 unfold A4;by_cases h:bT zs kind=0
 ·rw[if_pos h,if_neg h2]
 ·rw[if_neg h]
theorem PK (zs:List Int) (kind:Int):(uM zs kind).length≤zs.length*4:=by
 unfold uM;split
 ·exact oH _ _ _ _
 ·simp
end Go.Proofs.YtllefinciimffaaGreatDoor
namespace Go.Proofs.YtllefinciimffaaGreatDoor
open Go.RowKit Go.Shelf
def CodeAtRes (zs:List Int) (w:World) (e:Ending) (w':World):Prop:=
 (∃kd t many,gJ zs=some (kd,t,many)∧e=.returned (.tuple #[.agg #[.int .i64 kd,.string ⟨t.toArray⟩,.int .i64 0,.int .i64 0,.int .i64 0,.int .i64 0],.int .i64 ((many:Nat):Int)])∧Bl w w') ∨
 (gJ zs=none∧e=.returned (.tuple #[.agg #[.int .i64 0,.string ⟨#[]⟩,.int .i64 0,.int .i64 0,.int .i64 0,.int .i64 0],.int .i64 0])∧Bl w w')
theorem qX {w:World} {L:Option Addr} {zs:List Int} {n:Nat} (h:Reads w 1 L zs.length (cB zs)) (hn:n≤zs.length):Reads w 1 L n (cB (zs.take n)):=by
 refine ⟨by unfold cB;rw[aLz,aLA];omega,fun h0 => ?_⟩;obtain ⟨ad,e,hc⟩:=h.2 (by omega);refine ⟨ad,e,fun j u hu=>hc j u ?_⟩;unfold cB at hu ⊢;rw[List.map_take] at hu;have hj:j<n:=by
  have:=(aLw.1 hu).1;rw[aLA] at this;omega
 rwa [aLH hj] at hu
theorem TD (zs:List Int) (L:Option Addr) (c:Nat) (w:World) (hx:Reads w 1 L zs.length (cB zs)) (hn:zs.length≤4001) (hc:zs.length≤c) (hT:SpOk w) :
 Calls Tryz.prog 237 #[.slice L zs.length c] w (CodeAtRes zs w):=by
 have HT:=aLa hT;obtain ⟨n,hnn⟩:=aLt zs.length;have HX:=aLa hx;have HN:=aLa hnn;rw[←hnn] at hn hc ⊢;clear hnn hx hT
 go_in
 go_upto_region 1 with fail;obtain ⟨w2,hw2⟩:=aLt (w.alloc (.cells #[.int .i64 0,.string ⟨#[]⟩,.int .i64 0,.int .i64 0,.int .i64 0,.int .i64 0] 161));obtain ⟨o,ho⟩:=aLt w.heap.size;have bO:=aLp hw2 ho;have hb2:=aLn hw2;have hoW:w.heap.size≤o:=(by omega);rw[←hw2,←ho];have HBO:=aLa bO;clear hw2 ho bO;by_cases h59:59≤n
 ·obtain ⟨ad,rfl,-⟩:=HX.out.2 (by rw[←HN.out];omega);have htl:(zs.take 59).length=59:=(by rw[aLA,←HN.out];omega);have hu:=tN (zs.take 59) (some ad) c 1 w2 (by rw[htl];exact qX (HX.out.bl hb2) (by rw[←HN.out];omega)) (by omega) (by omega);rw[htl] at hu;have hul:(uM (zs.take 59) 1).length≤1048576:=(by have:=PK (zs.take 59) 1;omega);have hq:A4 (zs.take 59) 1=A9 zs:=(by unfold A9;rw[←HN.out,if_pos h59]);obtain ⟨U,hU⟩:=aLt (uM (zs.take 59) 1);obtain ⟨E,hE⟩:=aLt (bT (zs.take 59) 1);have Hu:=aLa (show Calls Tryz.prog 284 #[.slice (some ad) 59 c,.int .i64 1] w2 (fun e w'=>e=.returned (.tuple #[.string ⟨U.toArray⟩,.int .i64 E])∧Bl w2 w') from by rw[hU,hE];exact hu);rw[←hU] at hul;obtain ⟨T,hTT⟩:=aLt ((aN jL U).1);obtain ⟨F,hFF⟩:=aLt ((aN jL U).2);obtain ⟨Hr,N6,N7,GR⟩:=aLc (fun wx=>show Calls Tryz.prog 285 #[.string ⟨U.toArray⟩] wx (fun e w'=>e=.returned (.tuple #[.string ⟨T.toArray⟩,.int .i64 F])∧Bl wx w') from by rw[hTT,hFF];exact JX U wx (by omega)) (fun (h1:E=0) (h2:F=0)=>show gJ zs=some (1,T,59) from tU (by rw[←hq,tV (by rw[←hE];exact h1) (by rw[←hU];exact hFF.symm.trans h2),←hU];exact congrArg some hTT.symm)) (fun (h1:E≠0)=>show A9 zs=none from by rw[←hq];exact F3 (by rw[←hE];exact h1)) (fun (h2:F≠0)=>show A9 zs=none from by rw[←hq];exact xP (by rw[←hU];exact fun h=>h2 (hFF.trans h)));clear hq hU hE hTT hFF hu htl hul;go_wp2_with fail;refine Hu.out.mono ?_;rintro e w3 ⟨rfl,hb3⟩;clear Hu;by_cases hE0:E=0
  ·subst hE0;have HY1:=aLa (N6.out rfl);clear N6 N7;go_wp2_with fail;refine (Hr.out _).mono ?_;rintro e w4 ⟨rfl,hb4⟩;clear Hr;by_cases hF0:F=0
   ·subst hF0;have HC:=aLa (HY1.out rfl);clear HY1 GR;have B0:=hb3.trans hb4;have bO4:=HBO.out.bl B0;have k0:=bO4.all6';go_wp2_with fail;refine aL0 (v:=.tuple #[.agg #[.int .i64 1,.string ⟨T.toArray⟩,.int .i64 0,.int .i64 0,.int .i64 0,.int .i64 0],.int .i64 59]) (by simp[results,Tryz.results237,go_sem,k0]) rfl (Or.inl ⟨_,_,_,HC.out,rfl,?_⟩);exact ((((((hb2.trans B0).setCell hoW _).setCell hoW _).setCell hoW _).setCell hoW _).setCell hoW _).setCell hoW _
   ·have Z4:=aLa (GR.out hF0);have hbF:(F==0)=false:=(by simp[hF0]);clear HY1 GR hF0;have hbq:=hb3.trans hb4;rename World=>wq;go_wp2_with fail;go_loopw [8] (fun s8 wr=>∃m:Nat,3≤m∧m≤44∧s8=.int .i64 ((10*m-1:Nat):Int)∧Bl w2 wr∧Hid (dO zs 3=dO zs m)) (fun s8 _=>500-(RowKit.intOf s8).toNat);case atStart=>exact ⟨3,by decide,by decide,rfl,hbq,aLa rfl⟩
    case round=>
     rename World=>wr;obtain ⟨m,hm3,aIS,rfl,hbr,HF⟩:=hrel;obtain ⟨k,hk⟩:=aLt (10*m-1);have HK:=aLa hk;have aIT:29≤k:=(by omega);have aFr:k≤439:=(by omega);have UJ:=hb2.trans hbr;rw[←hk];by_cases hkn:k≤n
     ·have aFs:(k:Int)≤(n:Int):=(by omega);by_cases hkm:k≤429
      ·have aEi:(k:Int)≤429:=(by omega);obtain ⟨ad2,hL2,-⟩:=HX.out.2 (by rw[←HN.out];omega);first|subst hL2|(injection hL2 with hL2;subst hL2)
       have htl:(zs.take k).length=k:=(by rw[aLA,←HN.out];omega);have hu:=tN (zs.take k) _ c 2 wr (by rw[htl];exact qX (HX.out.bl UJ) (by rw[←HN.out];omega)) (by omega) (by omega);rw[htl] at hu;have hul:(uM (zs.take k) 2).length≤1048576:=(by have:=PK (zs.take k) 2;omega);have hq:A4 (zs.take k) 2=mX zs m:=(by unfold mX;rw[←HK.out]);obtain ⟨U,hU⟩:=aLt (uM (zs.take k) 2);obtain ⟨E,hE⟩:=aLt (bT (zs.take k) 2);have Hu:=aLa (show Calls Tryz.prog 284 #[.slice _ k c,.int .i64 2] wr (fun e w'=>e=.returned (.tuple #[.string ⟨U.toArray⟩,.int .i64 E])∧Bl wr w') from by rw[hU,hE];exact hu);rw[←hU] at hul;obtain ⟨T,hTT⟩:=aLt ((aN nP U).1);obtain ⟨F,hFF⟩:=aLt ((aN nP U).2);have Hr:=aLa (fun wx (hx:Bl wr wx)=>show Calls Tryz.prog 286 #[.string ⟨U.toArray⟩] wx (fun e w'=>e=.returned (.tuple #[.string ⟨T.toArray⟩,.int .i64 F])∧Bl wx w') from by rw[hTT,hFF];exact sF U wx (by omega) (HT.out.bl (UJ.trans hx)));have hle:10*m-1≤zs.length:=(by rw[←HN.out];omega);have N6:=aLa (fun (h1:E=0) (h2:F=0)=>show gJ zs=some (2,T,k) from by
        rw[hk];exact qW Z4.out (HF.out.trans (qV hle (by rw[←hq,tV (by rw[←hE];exact h1) (by rw[←hU];exact hFF.symm.trans h2),←hU];exact congrArg some hTT.symm))))
       have N7:=aLa (fun (h1:E≠0)=>show dO zs 3=dO zs (m+1) from HF.out.trans (iJ hle (by rw[←hq];exact F3 (by rw[←hE];exact h1))));have GR:=aLa (fun (h2:F≠0)=>show dO zs 3=dO zs (m+1) from HF.out.trans (iJ hle (by rw[←hq];exact xP (by rw[←hU];exact fun h=>h2 (hFF.trans h)))));clear hq hU hE hTT hFF hu htl hul hle hk;go_wp2_with fail;refine Hu.out.mono ?_;rintro e w5 ⟨rfl,hb5⟩;clear Hu;by_cases hE0:E=0
       ·subst hE0;have HY1:=aLa (N6.out rfl);clear N6 N7;go_wp2_with fail;refine (Hr.out _ hb5).mono ?_;rintro e w6 ⟨rfl,hb6⟩;clear Hr;by_cases hF0:F=0
        ·subst hF0;have HC:=aLa (HY1.out rfl);clear HY1 GR;have aCw:=hbr.trans (hb5.trans hb6);have bO4:=HBO.out.bl aCw;have k0:=bO4.all6';go_wp2_with fail;refine aL0 (v:=.tuple #[.agg #[.int .i64 2,.string ⟨T.toArray⟩,.int .i64 0,.int .i64 0,.int .i64 0,.int .i64 0],.int .i64 k]) (by simp[results,Tryz.results237,go_sem,k0]) rfl (Or.inl ⟨_,_,_,HC.out,rfl,?_⟩);exact ((((((hb2.trans aCw).setCell hoW _).setCell hoW _).setCell hoW _).setCell hoW _).setCell hoW _).setCell hoW _
        ·have HNx:=aLa (GR.out hF0);have aFt:(F==0)=false:=(by simp[hF0]);clear HY1 GR hF0;go_wp2_with fail;have hk:=HK.out;exact ⟨⟨m+1,by omega,by omega,by rw[show 10*(m+1)-1=k+10 by omega];go_num,hbr.trans (hb5.trans hb6),HNx⟩,by simp[RowKit.intOf]<;>omega⟩
       ·have HNx:=aLa (N7.out hE0);have aFt:(E==0)=false:=(by simp[hE0]);clear N6 N7 GR hE0 Hr;go_wp2_with fail;have hk:=HK.out;exact ⟨⟨m+1,by omega,by omega,by rw[show 10*(m+1)-1=k+10 by omega];go_num,hbr.trans hb5,HNx⟩,by simp[RowKit.intOf]<;>omega⟩
      ·have HC:=aLa (show gJ zs=none from jX Z4.out (HF.out.trans (AA (by omega))));have aEi:¬(k:Int)≤429:=(by omega);have bO4:=HBO.out.bl hbr;have k0:=bO4.all6';clear hk;go_wp2_with fail;refine aL0 (v:=.tuple #[.agg #[.int .i64 0,.string ⟨#[]⟩,.int .i64 0,.int .i64 0,.int .i64 0,.int .i64 0],.int .i64 0]) (by simp[results,Tryz.results237,go_sem,k0]) rfl (Or.inr ⟨HC.out,rfl,?_⟩);exact (((((UJ.setCell hoW _).setCell hoW _).setCell hoW _).setCell hoW _).setCell hoW _).setCell hoW _
     ·have HC:=aLa (show gJ zs=none from jX Z4.out (HF.out.trans (vB (by rw[←HN.out,←hk];exact hkn))));have aFs:¬(k:Int)≤(n:Int):=(by omega);have bO4:=HBO.out.bl hbr;have k0:=bO4.all6';clear hk;go_wp2_with fail;refine aL0 (v:=.tuple #[.agg #[.int .i64 0,.string ⟨#[]⟩,.int .i64 0,.int .i64 0,.int .i64 0,.int .i64 0],.int .i64 0]) (by simp[results,Tryz.results237,go_sem,k0]) rfl (Or.inr ⟨HC.out,rfl,?_⟩);exact (((((UJ.setCell hoW _).setCell hoW _).setCell hoW _).setCell hoW _).setCell hoW _).setCell hoW _
  ·have Z4:=aLa (N7.out hE0);have hbF:(E==0)=false:=(by simp[hE0]);clear N6 N7 GR hE0 Hr;have hbq:=hb3;rename World=>wq;go_wp2_with fail;go_loopw [8] (fun s8 wr=>∃m:Nat,3≤m∧m≤44∧s8=.int .i64 ((10*m-1:Nat):Int)∧Bl w2 wr∧Hid (dO zs 3=dO zs m)) (fun s8 _=>500-(RowKit.intOf s8).toNat);case atStart=>exact ⟨3,by decide,by decide,rfl,hbq,aLa rfl⟩
   case round=>
    rename World=>wr;obtain ⟨m,hm3,aIS,rfl,hbr,HF⟩:=hrel;obtain ⟨k,hk⟩:=aLt (10*m-1);have HK:=aLa hk;have aIT:29≤k:=(by omega);have aFr:k≤439:=(by omega);have UJ:=hb2.trans hbr;rw[←hk];by_cases hkn:k≤n
    ·have aFs:(k:Int)≤(n:Int):=(by omega);by_cases hkm:k≤429
     ·have aEi:(k:Int)≤429:=(by omega);obtain ⟨ad2,hL2,-⟩:=HX.out.2 (by rw[←HN.out];omega);first|subst hL2|(injection hL2 with hL2;subst hL2)
      have htl:(zs.take k).length=k:=(by rw[aLA,←HN.out];omega);have hu:=tN (zs.take k) _ c 2 wr (by rw[htl];exact qX (HX.out.bl UJ) (by rw[←HN.out];omega)) (by omega) (by omega);rw[htl] at hu;have hul:(uM (zs.take k) 2).length≤1048576:=(by have:=PK (zs.take k) 2;omega);have hq:A4 (zs.take k) 2=mX zs m:=(by unfold mX;rw[←HK.out]);obtain ⟨U,hU⟩:=aLt (uM (zs.take k) 2);obtain ⟨E,hE⟩:=aLt (bT (zs.take k) 2);have Hu:=aLa (show Calls Tryz.prog 284 #[.slice _ k c,.int .i64 2] wr (fun e w'=>e=.returned (.tuple #[.string ⟨U.toArray⟩,.int .i64 E])∧Bl wr w') from by rw[hU,hE];exact hu);rw[←hU] at hul;obtain ⟨T,hTT⟩:=aLt ((aN nP U).1);obtain ⟨F,hFF⟩:=aLt ((aN nP U).2);have Hr:=aLa (fun wx (hx:Bl wr wx)=>show Calls Tryz.prog 286 #[.string ⟨U.toArray⟩] wx (fun e w'=>e=.returned (.tuple #[.string ⟨T.toArray⟩,.int .i64 F])∧Bl wx w') from by rw[hTT,hFF];exact sF U wx (by omega) (HT.out.bl (UJ.trans hx)));have hle:10*m-1≤zs.length:=(by rw[←HN.out];omega);have N6:=aLa (fun (h1:E=0) (h2:F=0)=>show gJ zs=some (2,T,k) from by
       rw[hk];exact qW Z4.out (HF.out.trans (qV hle (by rw[←hq,tV (by rw[←hE];exact h1) (by rw[←hU];exact hFF.symm.trans h2),←hU];exact congrArg some hTT.symm))))
      have N7:=aLa (fun (h1:E≠0)=>show dO zs 3=dO zs (m+1) from HF.out.trans (iJ hle (by rw[←hq];exact F3 (by rw[←hE];exact h1))));have GR:=aLa (fun (h2:F≠0)=>show dO zs 3=dO zs (m+1) from HF.out.trans (iJ hle (by rw[←hq];exact xP (by rw[←hU];exact fun h=>h2 (hFF.trans h)))));clear hq hU hE hTT hFF hu htl hul hle hk;go_wp2_with fail;refine Hu.out.mono ?_;rintro e w5 ⟨rfl,hb5⟩;clear Hu;by_cases hE0:E=0
      ·subst hE0;have HY1:=aLa (N6.out rfl);clear N6 N7;go_wp2_with fail;refine (Hr.out _ hb5).mono ?_;rintro e w6 ⟨rfl,hb6⟩;clear Hr;by_cases hF0:F=0
       ·subst hF0;have HC:=aLa (HY1.out rfl);clear HY1 GR;have aCw:=hbr.trans (hb5.trans hb6);have bO4:=HBO.out.bl aCw;have k0:=bO4.all6';go_wp2_with fail;refine aL0 (v:=.tuple #[.agg #[.int .i64 2,.string ⟨T.toArray⟩,.int .i64 0,.int .i64 0,.int .i64 0,.int .i64 0],.int .i64 k]) (by simp[results,Tryz.results237,go_sem,k0]) rfl (Or.inl ⟨_,_,_,HC.out,rfl,?_⟩);exact ((((((hb2.trans aCw).setCell hoW _).setCell hoW _).setCell hoW _).setCell hoW _).setCell hoW _).setCell hoW _
       ·have HNx:=aLa (GR.out hF0);have aFt:(F==0)=false:=(by simp[hF0]);clear HY1 GR hF0;go_wp2_with fail;have hk:=HK.out;exact ⟨⟨m+1,by omega,by omega,by rw[show 10*(m+1)-1=k+10 by omega];go_num,hbr.trans (hb5.trans hb6),HNx⟩,by simp[RowKit.intOf]<;>omega⟩
      ·have HNx:=aLa (N7.out hE0);have aFt:(E==0)=false:=(by simp[hE0]);clear N6 N7 GR hE0 Hr;go_wp2_with fail;have hk:=HK.out;exact ⟨⟨m+1,by omega,by omega,by rw[show 10*(m+1)-1=k+10 by omega];go_num,hbr.trans hb5,HNx⟩,by simp[RowKit.intOf]<;>omega⟩
     ·have HC:=aLa (show gJ zs=none from jX Z4.out (HF.out.trans (AA (by omega))));have aEi:¬(k:Int)≤429:=(by omega);have bO4:=HBO.out.bl hbr;have k0:=bO4.all6';clear hk;go_wp2_with fail;refine aL0 (v:=.tuple #[.agg #[.int .i64 0,.string ⟨#[]⟩,.int .i64 0,.int .i64 0,.int .i64 0,.int .i64 0],.int .i64 0]) (by simp[results,Tryz.results237,go_sem,k0]) rfl (Or.inr ⟨HC.out,rfl,?_⟩);exact (((((UJ.setCell hoW _).setCell hoW _).setCell hoW _).setCell hoW _).setCell hoW _).setCell hoW _
    ·have HC:=aLa (show gJ zs=none from jX Z4.out (HF.out.trans (vB (by rw[←HN.out,←hk];exact hkn))));have aFs:¬(k:Int)≤(n:Int):=(by omega);have bO4:=HBO.out.bl hbr;have k0:=bO4.all6';clear hk;go_wp2_with fail;refine aL0 (v:=.tuple #[.agg #[.int .i64 0,.string ⟨#[]⟩,.int .i64 0,.int .i64 0,.int .i64 0,.int .i64 0],.int .i64 0]) (by simp[results,Tryz.results237,go_sem,k0]) rfl (Or.inr ⟨HC.out,rfl,?_⟩);exact (((((UJ.setCell hoW _).setCell hoW _).setCell hoW _).setCell hoW _).setCell hoW _).setCell hoW _
 ·have Z4:=aLa (show A9 zs=none by unfold A9;rw[←HN.out,if_neg h59]);have hbq:=Bl.refl w2;have h59i:¬(59:Int)≤(n:Int):=(by omega);go_wp2_with fail;go_loopw [8] (fun s8 wr=>∃m:Nat,3≤m∧m≤44∧s8=.int .i64 ((10*m-1:Nat):Int)∧Bl w2 wr∧Hid (dO zs 3=dO zs m)) (fun s8 _=>500-(RowKit.intOf s8).toNat);case atStart=>exact ⟨3,by decide,by decide,rfl,hbq,aLa rfl⟩
  case round=>
   rename World=>wr;obtain ⟨m,hm3,aIS,rfl,hbr,HF⟩:=hrel;obtain ⟨k,hk⟩:=aLt (10*m-1);have HK:=aLa hk;have aIT:29≤k:=(by omega);have aFr:k≤439:=(by omega);have UJ:=hb2.trans hbr;rw[←hk];by_cases hkn:k≤n
   ·have aFs:(k:Int)≤(n:Int):=(by omega);by_cases hkm:k≤429
    ·have aEi:(k:Int)≤429:=(by omega);obtain ⟨ad2,hL2,-⟩:=HX.out.2 (by rw[←HN.out];omega);first|subst hL2|(injection hL2 with hL2;subst hL2)
     have htl:(zs.take k).length=k:=(by rw[aLA,←HN.out];omega);have hu:=tN (zs.take k) _ c 2 wr (by rw[htl];exact qX (HX.out.bl UJ) (by rw[←HN.out];omega)) (by omega) (by omega);rw[htl] at hu;have hul:(uM (zs.take k) 2).length≤1048576:=(by have:=PK (zs.take k) 2;omega);have hq:A4 (zs.take k) 2=mX zs m:=(by unfold mX;rw[←HK.out]);obtain ⟨U,hU⟩:=aLt (uM (zs.take k) 2);obtain ⟨E,hE⟩:=aLt (bT (zs.take k) 2);have Hu:=aLa (show Calls Tryz.prog 284 #[.slice _ k c,.int .i64 2] wr (fun e w'=>e=.returned (.tuple #[.string ⟨U.toArray⟩,.int .i64 E])∧Bl wr w') from by rw[hU,hE];exact hu);rw[←hU] at hul;obtain ⟨T,hTT⟩:=aLt ((aN nP U).1);obtain ⟨F,hFF⟩:=aLt ((aN nP U).2);have Hr:=aLa (fun wx (hx:Bl wr wx)=>show Calls Tryz.prog 286 #[.string ⟨U.toArray⟩] wx (fun e w'=>e=.returned (.tuple #[.string ⟨T.toArray⟩,.int .i64 F])∧Bl wx w') from by rw[hTT,hFF];exact sF U wx (by omega) (HT.out.bl (UJ.trans hx)));have hle:10*m-1≤zs.length:=(by rw[←HN.out];omega);have N6:=aLa (fun (h1:E=0) (h2:F=0)=>show gJ zs=some (2,T,k) from by
      rw[hk];exact qW Z4.out (HF.out.trans (qV hle (by rw[←hq,tV (by rw[←hE];exact h1) (by rw[←hU];exact hFF.symm.trans h2),←hU];exact congrArg some hTT.symm))))
     have N7:=aLa (fun (h1:E≠0)=>show dO zs 3=dO zs (m+1) from HF.out.trans (iJ hle (by rw[←hq];exact F3 (by rw[←hE];exact h1))));have GR:=aLa (fun (h2:F≠0)=>show dO zs 3=dO zs (m+1) from HF.out.trans (iJ hle (by rw[←hq];exact xP (by rw[←hU];exact fun h=>h2 (hFF.trans h)))));clear hq hU hE hTT hFF hu htl hul hle hk;go_wp2_with fail;refine Hu.out.mono ?_;rintro e w5 ⟨rfl,hb5⟩;clear Hu;by_cases hE0:E=0
     ·subst hE0;have HY1:=aLa (N6.out rfl);clear N6 N7;go_wp2_with fail;refine (Hr.out _ hb5).mono ?_;rintro e w6 ⟨rfl,hb6⟩;clear Hr;by_cases hF0:F=0
      ·subst hF0;have HC:=aLa (HY1.out rfl);clear HY1 GR;have aCw:=hbr.trans (hb5.trans hb6);have bO4:=HBO.out.bl aCw;have k0:=bO4.all6';go_wp2_with fail;refine aL0 (v:=.tuple #[.agg #[.int .i64 2,.string ⟨T.toArray⟩,.int .i64 0,.int .i64 0,.int .i64 0,.int .i64 0],.int .i64 k]) (by simp[results,Tryz.results237,go_sem,k0]) rfl (Or.inl ⟨_,_,_,HC.out,rfl,?_⟩);exact ((((((hb2.trans aCw).setCell hoW _).setCell hoW _).setCell hoW _).setCell hoW _).setCell hoW _).setCell hoW _
      ·have HNx:=aLa (GR.out hF0);have aFt:(F==0)=false:=(by simp[hF0]);clear HY1 GR hF0;go_wp2_with fail;have hk:=HK.out;exact ⟨⟨m+1,by omega,by omega,by rw[show 10*(m+1)-1=k+10 by omega];go_num,hbr.trans (hb5.trans hb6),HNx⟩,by simp[RowKit.intOf]<;>omega⟩
     ·have HNx:=aLa (N7.out hE0);have aFt:(E==0)=false:=(by simp[hE0]);clear N6 N7 GR hE0 Hr;go_wp2_with fail;have hk:=HK.out;exact ⟨⟨m+1,by omega,by omega,by rw[show 10*(m+1)-1=k+10 by omega];go_num,hbr.trans hb5,HNx⟩,by simp[RowKit.intOf]<;>omega⟩
    ·omega
   ·have HC:=aLa (show gJ zs=none from jX Z4.out (HF.out.trans (vB (by rw[←HN.out,←hk];exact hkn))));have aFs:¬(k:Int)≤(n:Int):=(by omega);have bO4:=HBO.out.bl hbr;have k0:=bO4.all6';clear hk;go_wp2_with fail;refine aL0 (v:=.tuple #[.agg #[.int .i64 0,.string ⟨#[]⟩,.int .i64 0,.int .i64 0,.int .i64 0,.int .i64 0],.int .i64 0]) (by simp[results,Tryz.results237,go_sem,k0]) rfl (Or.inr ⟨HC.out,rfl,?_⟩);exact (((((UJ.setCell hoW _).setCell hoW _).setCell hoW _).setCell hoW _).setCell hoW _).setCell hoW _
theorem XY {w:World} {ad:Addr} {zs:List Int} {i m:Nat} (h:Reads w 1 (some ad) zs.length (cB zs)) (hi:i+m≤zs.length):Reads w 1 (some (ad.add i)) m (cB ((zs.drop i).take m)):=by
 refine ⟨by unfold cB;rw[aLz,aLA,aLJ];omega,fun h0 => ?_⟩;obtain ⟨ad',e,hc⟩:=h.2 (by omega);injection e with e;subst e;refine ⟨_,rfl,fun j u hu => ?_⟩;rw[cY];apply hc;unfold cB at hu ⊢;rw[List.map_take,List.map_drop] at hu;have hj:j<m:=by
  have:=(aLw.1 hu).1;rw[aLA] at this;omega
 rw[aLH hj,aLI] at hu;exact hu
end Go.Proofs.YtllefinciimffaaGreatDoor
namespace Go.Proofs.YtllefinciimffaaGreatDoor
open Go.RowKit
def pA (b:Bool):UInt8:=if b=true then 49 else 48
theorem TE (i:Nat):bZ (i+1)=if bZ i=49 then 48 else 49:=by
 unfold bZ;rcases Nat.mod_two_eq_zero_or_one i with h|h
 ·rw[if_pos h,if_neg (by omega),if_pos rfl]
 ·rw[if_neg (by omega:¬i % 2=0),if_pos (by omega:(i+1) % 2=0),if_neg (by decide)]
theorem aDq {a b:Bool} (h:a≠b) {i:Nat} (hb:pA b=bZ i):pA a=bZ (i+1):=by
 rw[TE,←hb];cases a<;>cases b<;>first|rfl|exact absurd rfl h
theorem NA (i:Nat) (l:List Nat) (c:Nat):aI i (l++[c+1])=aI i (l++[c])++[bZ (i+l.length)]:=by
 rw[bF,bF,aLL];show _++(List.replicate (c+1) (bZ (i+l.length))++[])=_++(List.replicate c (bZ (i+l.length))++[]++[bZ (i+l.length)]);rw[aMj,aMj,List.replicate_succ']
theorem TF (i:Nat) (l:List Nat) (c:Nat):aI i (l++[c]++[1])=aI i (l++[c])++[bZ (i+l.length+1)]:=by
 rw[bF i (l++[c]) [1],aLy,aLR];rfl
theorem tW (f : Nat → Bool) : ∀ k, aI 1 (iW f k) = (List.range k).map (fun x => pA (f x)) ∧ pA (tD f k) = bZ (1 + (aV f k).1.length)
 |0=>⟨rfl,rfl⟩
 |k+1=>by
  obtain ⟨h1,h2⟩:=tW f k;rw[List.range_succ,aLS,←h1];unfold iW;by_cases hs:f k=tD f k
  ·rw[pN hs];refine ⟨?_,?_⟩
   ·show aI 1 ((aV f k).1++[(aV f k).2+1])=_;rw[NA,←h2,←hs];rfl
   ·show pA (f k)=bZ (1+(aV f k).1.length);rw[hs,h2]
  ·rw[tF hs];have h3:=aDq hs h2;refine ⟨?_,?_⟩
   ·show aI 1 ((aV f k).1++[(aV f k).2]++[1])=_;rw[TF,←h3];rfl
   ·show pA (f k)=bZ (1+((aV f k).1++[(aV f k).2]).length);rw[h3,aLy,aLR,Nat.add_assoc]
def xA (u:Nat) (rs:List Nat):List Nat:=rs.map (·*u)
end Go.Proofs.YtllefinciimffaaGreatDoor
namespace Go.Proofs.YtllefinciimffaaGreatDoor
open Go.RowKit Go.Shelf
def rE (W H bW bH:Int) (n:Nat):Int:=if aD bW bH n=0 then aF (!decide (bW=W)||!decide (bH=H)) 11 else aD bW bH n
def AC (f:Frm) (bW bH:Int) (n:Nat):Int:=if f.err=0 then rE f.W f.H bW bH n else f.err
theorem aBh {W H bW bH:Int} {n:Nat} (h:rE W H bW bH n=0):bW=W∧bH=H∧aD bW bH n=0:=by
 unfold rE at h;by_cases h0:aD bW bH n=0
 ·rw[if_pos h0] at h;have:=iB (by decide) h;simp at this;exact ⟨this.1,this.2,h0⟩
 ·rw[if_neg h0] at h;exact absurd h h0
theorem PL {f:Frm} {bW bH:Int} {n:Nat} (h:AC f bW bH n=0):f.err=0∧∃W H r,Fits f W H r∧bW=(W:Int)∧bH=(H:Int)∧n=W*H:=by
 unfold AC at h;by_cases h0:f.err=0
 ·rw[if_pos h0] at h;obtain ⟨e1,e2,e3⟩:=aBh h;obtain ⟨W,H,r,cM⟩:=W3 h0;rw[e1,e2,cM.fW,cM.fH] at e3;obtain ⟨-,hn⟩:=fC e3;refine ⟨h0,W,H,r,cM,e1.trans cM.fW,e2.trans cM.fH,?_⟩;have:=aL9 W H;omega
 ·rw[if_neg h0] at h;exact absurd h h0
theorem F4 (f:Frm) (bW bH:Int) (C:Option Addr) (n cc:Nat) (w:World) :
 Calls Tryz.prog 80 #[f.val,.agg #[bW,bH,.slice C n cc]] w fun e w'=>e=.returned (.int .i64 (rE f.W f.H bW bH n))∧Bl w w':=by
 obtain ⟨nm,fW,fH,reach,dark,AL,ac,la,FL,fc,lf,RL,rc,lr⟩:=f;show Calls _ _ _ w fun e w'=>e=.returned (.int .i64 (rE fW fH bW bH n))∧Bl w w';obtain ⟨E,hE⟩:=aLt (rE fW fH bW bH n);rw[←hE];let w1:=((w).alloc (.cells #[nm,fW,fH,reach,dark,.slice AL la.length ac,.slice FL lf.length fc,.slice RL lr.length rc] 26)).alloc (.cells #[bW,bH,.slice C n cc] 43);obtain ⟨w1b,w11,w12⟩:=aLi (x:=w1) w _ _ _ _ rfl;have k1:=w11.all8;have k2:=w12.all3;have dV:=aLa w1b;have Hck:=aLa (fun wx=>bM bW bH C n cc wx);obtain ⟨PE,hPE⟩:=aLt (aD bW bH n);rw[←hPE] at Hck;have HE:=aLa (show E=if PE=0 then aF (!decide (bW=fW)||!decide (bH=fH)) 11 else PE by rw[hE,hPE];rfl);unfold Frm.val;clear w1b hE hPE
 go_in
 go_upto_region 1 with fail;rw[show (w.alloc (.cells #[nm,fW,fH,reach,dark,.slice AL la.length ac,.slice FL lf.length fc,.slice RL lr.length rc] 26)).alloc (.cells #[bW,bH,.slice C n cc] 43)=w1 from rfl];clear_value w1;go_upto_region 2 with (go_at_call 101;refine (Hck.out _).mono ?_;rintro e w2 ⟨rfl,hb2⟩);have k1:=(w11.bl hb2).all8;have k2:=(w12.bl hb2).all3;have Hb2:=aLa (dV.out.trans hb2);clear hb2;by_cases hz:PE=0
 ·have q:(PE != 0)=false:=(by simp[hz]);have HE2:=aLa (show E=aF (!decide (bW=fW)||!decide (bH=fH)) 11 by rw[HE.out,if_pos hz]);clear hz;by_cases c1:bW=fW
  ·have q1:(bW != fW)=false:=(by simp[c1]);by_cases c2:bH=fH
   ·have q2:(bH != fH)=false:=(by simp[c2]);have HX:=aLa (show E=0 by rw[HE2.out,aLX c1,aLX c2];rfl);clear c1 c2;go_wp2_with fail;go_ret;exact ⟨by rw[HX.out]<;>rfl,Hb2.out⟩
   ·have q2:(bH != fH)=true:=(by simp[c2]);have HX:=aLa (show E=11 by rw[HE2.out,aLX c1,aLW c2];rfl);clear c1 c2;go_wp2_with fail;go_ret;exact ⟨by rw[HX.out]<;>rfl,Hb2.out⟩
  ·have q1:(bW != fW)=true:=(by simp[c1]);have HX:=aLa (show E=11 by rw[HE2.out,aLW c1];rfl);clear c1;go_wp2_with fail;go_ret;exact ⟨by rw[HX.out]<;>rfl,Hb2.out⟩
 ·have q:(PE != 0)=true:=(by simp[hz]);have HX:=aLa (show E=PE by rw[HE.out,if_neg hz]);clear hz;go_wp2_with fail;go_ret;exact ⟨by rw[HX.out]<;>rfl,Hb2.out⟩
theorem F5 (f:Frm) (bW bH:Int) (C:Option Addr) (n cc:Nat) (w:World) (hF:FrmAt w f) (hS:f.small 1048576) (hN:NumOk w) (hC:SplitOk w) :
 Calls Tryz.prog 74 #[f.val,.agg #[bW,bH,.slice C n cc]] w fun e w'=>e=.returned (.int .i64 (AC f bW bH n))∧Bl w w':=by
 have hck:=fun wx hF hN hC=>nK f wx hF hS hN hC;have hfi:=fun wx=>F4 f bW bH C n cc wx;obtain ⟨E,hE⟩:=aLt (AC f bW bH n);rw[←hE];obtain ⟨FE,hFE⟩:=aLt f.err;obtain ⟨PE,hPE⟩:=aLt (rE f.W f.H bW bH n);rw[←hFE] at hck;rw[←hPE] at hfi;have HE:=aLa (show E=if FE=0 then PE else FE by rw[hE,hFE,hPE];rfl);obtain ⟨nm,fW,fH,reach,dark,AL,ac,la,FL,fc,lf,RL,rc,lr⟩:=f;let w1:=((w).alloc (.cells #[nm,fW,fH,reach,dark,.slice AL la.length ac,.slice FL lf.length fc,.slice RL lr.length rc] 26)).alloc (.cells #[bW,bH,.slice C n cc] 43);obtain ⟨w1b,w11,w12⟩:=aLi (x:=w1) w _ _ _ _ rfl;unfold Frm.val at hck hfi;have k1:=w11.all8;have k2:=w12.all3;obtain ⟨dV,Hck,Hfi⟩:=aLb w1b (hck w1 (hF.bl w1b) (hN.bl w1b) (hC.bl w1b)) hfi;unfold Frm.val;clear w1b hE hPE hFE hck hfi hF hN hC hS
 go_in
 go_upto_region 1 with fail;rw[show (w.alloc (.cells #[nm,fW,fH,reach,dark,.slice AL la.length ac,.slice FL lf.length fc,.slice RL lr.length rc] 26)).alloc (.cells #[bW,bH,.slice C n cc] 43)=w1 from rfl];clear_value w1;go_upto_region 2 with (go_at_call 39;refine Hck.out.mono ?_;rintro e w2 ⟨rfl,hb2⟩);have k1:=(w11.bl hb2).all8;have k2:=(w12.bl hb2).all3;have Hb2:=aLa (dV.out.trans hb2);clear hb2;by_cases hz:FE=0
 ·have q:(FE != 0)=false:=(by simp[hz]);have HX:=aLa (show E=PE by rw[HE.out,if_pos hz]);clear hz;go_wp2_with (go_at_call 80;refine (Hfi.out _).mono ?_;rintro e w3 ⟨rfl,hb3⟩);go_ret;exact ⟨by rw[HX.out]<;>rfl,Hb2.out.trans hb3⟩
 ·have q:(FE != 0)=true:=(by simp[hz]);have HX:=aLa (show E=FE by rw[HE.out,if_neg hz]);clear hz;go_wp2_with fail;go_ret;exact ⟨by rw[HX.out]<;>rfl,Hb2.out⟩
def AncRes (f:Frm) (E:Int) (cs:List Bool) (e:Ending) (w':World):Prop:=∃A n c,e=.returned (.tuple #[.slice A n c,E])∧(E≠0→n=0)∧(E=0→n=f.la.length∧Reads w' 3 A n (f.la.flatMap (jF f cs)))
theorem BO (f:Frm) (bW bH:Int) (C:Option Addr) (n cc:Nat) (cs:List Bool) (w:World) (hF:FrmAt w f) (hS:f.small 1048576) (hN:NumOk w) (hC:SplitOk w) (hR:Reads w 1 C n (cs.map .bool)) :
 Calls Tryz.prog 36 #[f.val,.agg #[bW,bH,.slice C n cc]] w fun e w'=>AncRes f (AC f bW bH n) cs e w'∧Bl w w':=by
 have hck:=fun wx hF hN hC=>F5 f bW bH C n cc wx hF hS hN hC;have han:=fun (h:AC f bW bH n=0) wx (hF:FrmAt wx f) (hR:Reads wx 1 C n (cs.map .bool))=>show Calls Tryz.prog 105 #[f.val,.agg #[bW,bH,.slice C n cc]] wx fun e w'=>∃A c,e=.returned (.slice A f.la.length c)∧Reads w' 3 A f.la.length (f.la.flatMap (jF f cs))∧Bl wx w' by
  obtain ⟨-,W,H,r,cM,rfl,rfl,rfl⟩:=PL h;exact zM f C cc cs W H r wx cM hF hR
 obtain ⟨E,hE⟩:=aLt (AC f bW bH n);rw[←hE] at hck han ⊢;have lQ:=fun (A:Option Addr) c w' (hz:E=0) (h:Reads w' 3 A f.la.length (f.la.flatMap (jF f cs)))=>show AncRes f E cs (.returned (.tuple #[.slice A f.la.length c,E])) w' from ⟨A,_,c,rfl,fun h=>absurd hz h,fun _=>⟨rfl,h⟩⟩;have wW:=fun (hz:E≠0) w'=>show AncRes f E cs (.returned (.tuple #[.slice none 0 0,E])) w' from ⟨none,0,0,rfl,fun _=>rfl,fun h=>absurd h hz⟩;obtain ⟨FC,hFC⟩:=aLt (jF f cs);rw[←hFC] at han lQ;obtain ⟨RS,hRS⟩:=aLt (AncRes f E cs);rw[←hRS] at lQ wW ⊢;obtain ⟨nm,fW,fH,reach,dark,AL,ac,la,FL,fc,lf,RL,rc,lr⟩:=f;let w1:=((w).alloc (.cells #[nm,fW,fH,reach,dark,.slice AL la.length ac,.slice FL lf.length fc,.slice RL lr.length rc] 26)).alloc (.cells #[bW,bH,.slice C n cc] 43);obtain ⟨w1b,w11,w12⟩:=aLi (x:=w1) w _ _ _ _ rfl;unfold Frm.val at hck han;have k1:=w11.all8;have k2:=w12.all3;obtain ⟨dV,Hck,Han,HF,HR,QR,aHd⟩:=aLf w1b (hck w1 (hF.bl w1b) (hN.bl w1b) (hC.bl w1b)) han (hF.bl w1b) (hR.bl w1b) lQ wW;unfold Frm.val;clear w1b hE hck han hF hN hC hS hR lQ wW hFC hRS
 go_in
 go_upto_region 1 with fail;rw[show (w.alloc (.cells #[nm,fW,fH,reach,dark,.slice AL la.length ac,.slice FL lf.length fc,.slice RL lr.length rc] 26)).alloc (.cells #[bW,bH,.slice C n cc] 43)=w1 from rfl];clear_value w1;go_upto_region 2 with (go_at_call 74;refine Hck.out.mono ?_;rintro e w2 ⟨rfl,hb2⟩);have k1:=(w11.bl hb2).all8;have k2:=(w12.bl hb2).all3;have Hb2:=aLa hb2;clear hb2;by_cases hz:E=0
 ·have Hz:=aLa hz;obtain rfl:=hz;go_wp2_with fail;refine (Han.out Hz.out _ (HF.out.bl Hb2.out) (HR.out.bl Hb2.out)).mono ?_;rintro e w3 ⟨A,c,rfl,hr3,hb3⟩;have Hr3:=aLa hr3;clear hr3;go_wp2_with fail
  go_ret2
  exact ⟨QR.out A c _ Hz.out Hr3.out,dV.out.trans (Hb2.out.trans hb3)⟩
 ·have q:(E != 0)=true:=(by simp[hz]);have Hz:=aLa hz;clear hz;go_wp2_with fail
  go_ret2
  exact ⟨aHd.out Hz.out _,dV.out.trans Hb2.out⟩
end Go.Proofs.YtllefinciimffaaGreatDoor
namespace Go.Proofs.YtllefinciimffaaGreatDoor
open Go.ChangeShapes Go.WideShapes Go.ChangeAt Go.RowKit Go.Joins
theorem TG:(Rows.laid_strings_asciiSpace:DataW Unit)=.agg ((List.range 256).map fun c=>.lit (.int .u8 (if Lib.isSp (UInt8.ofNat c) then 1 else 0))):=by kernel_rfl
theorem J4 {l:List (String × DataW Unit)} {W:World} (hl:(l.filter fun e=>e.1 == "strings.asciiSpace")=[("strings.asciiSpace",Rows.laid_strings_asciiSpace)]) (h:laidMetH Tryz.prog l W):SpOk W:=by
 have h:=h.filter (fun e=>e.1 == "strings.asciiSpace");rw[hl,MakeChecks.laidMetH_plain _ _ _ (by kernel_rfl)] at h;obtain ⟨ps,⟨g,t,cs,fuel,p,q,hg,ht,hv,hd,_,_⟩,_,_⟩:=h;have hG:Tryz.prog.globalNamed "strings.asciiSpace" = some (Tryz.lays157_ren.g 0):=(by kernel_rfl);obtain rfl:=aLZ (hG.symm.trans hg);obtain rfl:=aLZ ((show (Tryz.prog.globals[Tryz.lays157_ren.g 0]?).map (·.type)=some 333 by kernel_rfl).symm.trans ht);obtain ⟨xs,m,_,ex,_,hlx,hel⟩:=DataW.trod_array Tryz.underlying333 hd;have c5:Tryz.prog.cellsOf 5=1:=(by kernel_rfl);intro r hr;have hE:=hel r hr;rw[c5,Nat.mul_one,aLv (by omega)] at hE;obtain ⟨z,e1,e2,_⟩:=DataW.trod_int Tryz.underlying5 hE;have e3:(xs.map (·.1))=(List.range 256).map fun c=>.lit (.int .u8 (if Lib.isSp (UInt8.ofNat c) then 1 else 0)):=(DataW.agg.inj ((TG.symm.trans (Prod.mk.inj ex).1))).symm;have e4:(xs.map (·.1))[r]? = ((List.range 256).map fun c=>(DataW.lit (.int .u8 (if Lib.isSp (UInt8.ofNat c) then 1 else 0)):DataW Unit))[r]?:=(by rw[e3]);rw[aLG,aLG,aLv (by omega:r<xs.length),aMd hr,e2] at e4;have hz:z=if Lib.isSp (UInt8.ofNat r) then 1 else 0:=by
  simp only[Option.map_some,Option.some.injEq,DataW.lit.injEq,Lit.int.injEq,true_and] at e4;exact e4
 rw[World.var?_cell hG hv r,←hz];have:cs.toList[r]? = some (.int .u8 z):=by
  have h0:((cs.toList.drop r).take 1)[0]? = some (.int .u8 z):=(by rw[e1];rfl);simpa using h0
 simpa using this
end Go.Proofs.YtllefinciimffaaGreatDoor
