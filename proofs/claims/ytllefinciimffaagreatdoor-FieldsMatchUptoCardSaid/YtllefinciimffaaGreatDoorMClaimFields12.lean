import Derived.Test.YtllefinciimffaaGreatDoorMClaimFields11
import Derived.Shelf.SlicesE.Reverse
import Derived.Ground.SlgnProg
import Derived.Laws.IdiomStrings
import Derived.Lib.ConvBytes
import Derived.Shelf.Bits.Mul64
set_option maxHeartbeats 20000000
set_option maxRecDepth 100000
namespace Go.Proofs.YtllefinciimffaaGreatDoor
open Go.RowKit Go.Shelf
theorem vT (l cs:List UInt8) (w:World) (hl:l.length≤9223372036854775807) (hcs:cs.length≤100) (ha:∀(j:Nat) b,cs[j]? = some b→b.toNat<128) :
 Calls Tryz.prog 153 #[l,cs] w fun e w'=>e=.returned (.string ⟨(Lib.trimS l cs).toArray⟩)∧Bl w w':=by
 have h:=Any.strings_Trim_laid Tryz.lays160 (by kernel_rfl) ⟨l.toArray⟩ ⟨cs.toArray⟩ w (by rw[Lib.size_mk];exact hl) (by rw[Lib.size_mk];omega) ha;refine Calls.mono (R:=fun e w'=>e=.returned (.string ⟨(Lib.trimS l cs).toArray⟩)∧Below w.heap.size w w') h ?_;rintro e w' ⟨rfl,hb⟩;exact ⟨rfl,hb⟩
def cZ (l cs:List UInt8):Bool:=l.all fun b=>cs.contains b
theorem kU (l cs:List UInt8):(Lib.trimS l cs).isEmpty=cZ l cs:=by
 rw[Bool.eq_iff_iff,List.isEmpty_iff,nM];unfold cZ;rw[aIl]
def eL:List UInt8:=[48,49,50,51,52,53,54,55,56,57]
theorem F9:∀(j:Nat) b,eL[j]? = some b→b.toNat<128:=by
 intro j b h;have hm:=List.mem_of_getElem? h;have:∀b∈eL,b.toNat<128:=(by decide);exact this b hm
def S6 (l:List UInt8) (n:Nat):Bool:=decide (l.length=n)&&cZ l eL
theorem DI (l:List UInt8) (n:Nat) (w:World) (hl:l.length≤9223372036854775807) (_hn:n≤100) :
 Calls Tryz.prog 215 #[l,n] w fun e w'=>e=.returned (.bool (S6 l n))∧Bl w w':=by
 have Ht:=aHH (vT l eL w hl (by decide) F9);have hsz:(⟨l.toArray⟩:ByteArray).size=l.length:=Lib.size_mk l
 go_in
 by_cases h:l.length=n
 ·have hq:((l.length:Int)==(n:Int))=true:=(by simp[h]);have HD:=aHH (show S6 l n=(Lib.trimS l eL).isEmpty by unfold S6;rw[aIu h,kU];rfl);clear h;go_wp2_with fail;refine Ht.out.mono ?_;rintro e w1 ⟨rfl,hb⟩;go_wp2_with fail;go_ret;exact ⟨aS HD.out.symm,hb⟩
 ·have hq:((l.length:Int)==(n:Int))=false:=(by rw[aIr];omega);have HD:=aHH (show S6 l n=false by unfold S6;rw[aIt h];rfl);clear h;go_wp2_with fail;go_ret;exact ⟨aS HD.out.symm,Bl.refl _⟩
def jS (l:List UInt8) (i:Nat):Nat:=(l.getD i 48).toNat-48
def dR (l : List UInt8) : Nat → Nat
 |0=>0
 |i+1=>dR l i+jS l i*(1+i % 2*2)
theorem nS (l : List UInt8) (h : ∀ i, jS l i ≤ 9) : ∀ n, dR l n ≤ n * 27
 |0=>Nat.le_refl _
 |n+1=>by
  have ih:=nS l h n;have h1:jS l n*(1+n % 2*2)≤9*3:=aIH (h n) (by omega);show dR l n+jS l n*(1+n % 2*2)≤_;omega
def iO (l:List UInt8):Nat:=(10-dR l 12 % 10) % 10
theorem DJ {l:List UInt8} (h:cZ l eL=true) {i:Nat} {b:UInt8} (hi:l[i]? = some b):48≤b.toNat∧b.toNat≤57:=by
 unfold cZ at h;have h1:=aIl.1 h b (List.mem_of_getElem? hi);have h2:∀b∈eL,48≤b.toNat∧b.toNat≤57:=(by decide);exact h2 b (by simpa using h1)
theorem rX {l:List UInt8} (h:cZ l eL=true) (i:Nat):jS l i≤9:=by
 unfold jS;rw[aH4];cases hg:l[i]? with
 |none=>show (48:UInt8).toNat-48≤9;decide
 |some b=>have:=DJ h hg;show b.toNat-48≤9;omega
theorem zQ (l:List UInt8) (w:World) (hl:l.length≤9223372036854775807) :
 Calls Tryz.prog 216 #[l] w fun e w'=>e=.returned (.tuple #[.int .i64 (if S6 l 12=true then (iO l:Int) else 0),.int .i64 (if S6 l 12=true then 0 else 2)])∧Bl w w':=by
 have Hd:=aHH (DI l 12 w hl (by decide));have hsz:(⟨l.toArray⟩:ByteArray).size=l.length:=Lib.size_mk l;obtain ⟨db,hdb⟩:=aH0 (S6 l 12);rw[←hdb] at Hd ⊢;have HDB:=aHH hdb;clear hdb
 go_in
 go_wp2_with fail;refine Hd.out.mono ?_;rintro e w1 ⟨rfl,hb1⟩;clear Hd;cases hdb:db with
 |false=>subst hdb;go_wp2_with fail;exact aIx (v:=.tuple #[.int .i64 0,.int .i64 2]) (by simp[results,Tryz.results216,go_sem]) rfl ⟨rfl,hb1⟩
 |true=>
  have hd:=HDB.out;rw[hdb] at hd;unfold S6 at hd;simp only[Bool.true_eq,aIs,decide_eq_true_eq] at hd;obtain ⟨cT,aBY⟩:=hd;have aAG:=aHH aBY;have AG:=aHH cT;have hlenI:(l.length:Int)=12:=(by omega);subst hdb;clear aBY cT;go_wp2_with fail;go_loopw [4,11] (fun u v wr=>∃i:Nat,i≤12∧v=.int .i64 i∧u=.int .i64 (dR l i:Int)∧Bl w wr) (fun _ v _=>12-(RowKit.intOf v).toNat);case atStart=>exact ⟨0,by omega,rfl,rfl,hb1⟩
  case round=>
   obtain ⟨i,hi,rfl,rfl,hbr⟩:=hrel;by_cases hlt:i<12
   ·have hg:l[i]? = some l[i]:=aH2 (by have:=AG.out;omega);obtain ⟨b,hb⟩:∃b,b=l[i]'(by have:=AG.out;omega):=⟨_,rfl⟩;rw[←hb] at hg;obtain ⟨h1,h2⟩:=e9 hg;have hma:=DJ aAG.out hg;have hdg:jS l i=b.toNat-48:=(by unfold jS;rw[aH4,hg];rfl);have hst:dR l (i+1)=dR l i+jS l i*(1+i % 2*2):=rfl;have hle:=nS l (rX aAG.out) i;have hd9:=rX aAG.out i;obtain ⟨s,hs⟩:=aH0 (dR l i);obtain ⟨d,hd⟩:=aH0 (jS l i);rw[←hs] at hst hle ⊢;rw[←hd] at hst hd9 hdg;have hr2:i % 2=0∨i % 2=1:=(by omega);have aBZ:(b.toNat:Int)-48=(d:Int):=(by omega);have hmr:(i:Int) % 2=((i % 2:Nat):Int):=(by omega);obtain ⟨r,hr⟩:=aH0 (i % 2);rw[←hr] at hst hr2 hmr;have HSt:=aHH hst;have HDb:=aHH aBZ;clear hg hb hs hd hr hst hdg aBZ;rcases hr2 with rfl|rfl
    ·have HF:=aHH (show (s:Int)+(d:Int)=((dR l (i+1):Nat):Int) by rw[HSt.out];omega);clear HSt;go_wp2_with fail;exact ⟨⟨i+1,by omega,by go_num,by rw[←HF.out,←HDb.out],hbr⟩,by simp[RowKit.intOf]<;>omega⟩
    ·have HF:=aHH (show (s:Int)+(d:Int)*3=((dR l (i+1):Nat):Int) by rw[HSt.out];omega);clear HSt;go_wp2_with fail;exact ⟨⟨i+1,by omega,by go_num,by rw[←HF.out,←HDb.out],hbr⟩,by simp[RowKit.intOf]<;>omega⟩
   ·obtain rfl:i=12:=(by omega);go_wp2_with fail;have he:-((dR l 12:Int) % 10) % 10=(iO l:Int):=(by unfold iO;omega);refine aIx (v:=.tuple #[.int .i64 (iO l),.int .i64 0]) (by simp[results,Tryz.results216,go_sem];exact he) rfl ⟨rfl,hbr⟩
end Go.Proofs.YtllefinciimffaaGreatDoor
namespace Go.Proofs.YtllefinciimffaaGreatDoor
def dS:List (List UInt8):=[[48,48,48,49,49,48,49],[48,48,49,49,48,48,49],[48,48,49,48,48,49,49],[48,49,49,49,49,48,49],[48,49,48,48,48,49,49],[48,49,49,48,48,48,49],[48,49,48,49,49,49,49],[48,49,49,49,48,49,49],[48,49,49,48,49,49,49],[48,48,48,49,48,49,49]]
def p6:List (List UInt8):=[[76,76,76,76,76,76],[76,76,71,76,71,71],[76,76,71,71,76,71],[76,76,71,71,71,76],[76,71,76,76,71,71],[76,71,71,76,76,71],[76,71,71,71,76,76],[76,71,76,71,76,71],[76,71,76,71,71,76],[76,71,71,76,71,76]]
def exB (l:List UInt8):List UInt8:=l.map fun b=>97-b
def cO (k:UInt8) (d:Nat):List UInt8:=if k=82 then exB (dS.getD d []) else if k=71 then (exB (dS.getD d [])).reverse else dS.getD d []
def aBb:List UInt8:=[48,49,48,49,48]
def V1:List UInt8:=[49,48,49]
def V2 : Nat → List (List UInt8 × List UInt8)
 |0=>[]
 |d+1=>(71 :: (exB (dS.getD d [])).reverse,[UInt8.ofNat (48+d)]) :: (82 :: exB (dS.getD d []),[UInt8.ofNat (48+d)]) :: (76 :: dS.getD d [],[UInt8.ofNat (48+d)]) :: V2 d
def tG (x:List UInt8):Option (List UInt8):=((V2 10).find? fun e=>e.1==x).map (·.2)
def mT (i:Nat) (s:List UInt8):Option (UInt8 × List UInt8):=
 if 6≤i then (tG (82 :: s)).map fun n=>(82,n) else match tG (76 :: s) with
  |some n=>some (76,n)
  |none=>(tG (71 :: s)).map fun n=>(71,n)
def qL (i:Nat):Nat:=3+7*i+(if 6≤i then 5 else 0)
def gAt (m:List UInt8) (i:Nat):List UInt8:=(m.drop (qL i)).take 7
def eE (m : List UInt8) : Nat → Option (List (UInt8 × List UInt8))
 |0=>some []
 |n+1=>match eE m n with
  |none=>none
  |some ps=>match mT n (gAt m n) with
   |none=>none
   |some p=>some (ps++[p])
def jW (m:List UInt8):Bool:=decide (m.length=95)&&(decide (m.take 3=V1)&&(decide ((m.drop 45).take 5=aBb)&&decide (m.drop 92=V1)))
def mE (ps:List (UInt8 × List UInt8)):List UInt8:=ps.map (·.1)
def fI (ps:List (UInt8 × List UInt8)):List UInt8:=ps.flatMap (·.2)
def oT (row:List UInt8):Option Nat:=p6.findIdx? (·==row)
def jT (m:List UInt8):Option (List UInt8):=if jW m=true then match eE m 12 with
 |none=>none
 |some ps=>(oT ((mE ps).take 6)).map fun f=>UInt8.ofNat (48+f) :: fI ps
 else none
def fZ (m:List UInt8):List UInt8 × Int:=match jT m with
 |none=>([],2)
 |some d=>if iO (d.take 12)=jS d 12 then (d,0) else ([],14)
theorem MS (i:Nat) (s:List UInt8) (h:i<6):mT i s=mT 0 s:=by
 unfold mT;rw[if_neg (by omega),if_neg (by decide)]
theorem S7 (i:Nat) (s:List UInt8) (h:6≤i):mT i s=mT 6 s:=by
 unfold mT;rw[if_pos h,if_pos (by decide)]
theorem S8:∀d<10,mT 0 (cO 76 d)=some (76,[UInt8.ofNat (48+d)])∧mT 0 (cO 71 d)=some (71,[UInt8.ofNat (48+d)]):=by decide +kernel
theorem WW:∀d<10,mT 6 (cO 82 d)=some (82,[UInt8.ofNat (48+d)]):=by decide +kernel
theorem aAh:∀e∈V2 10,∃d,d<10∧(e.1=76 :: cO 76 d∨e.1=71 :: cO 71 d∨e.1=82 :: cO 82 d)∧e.2=[UInt8.ofNat (48+d)]:=by decide +kernel
theorem lQ {x n:List UInt8} (h:tG x=some n):∃d,d<10∧(x=76 :: cO 76 d∨x=71 :: cO 71 d∨x=82 :: cO 82 d)∧n=[UInt8.ofNat (48+d)]:=by
 unfold tG at h;obtain ⟨e,he,rfl⟩:=Option.map_eq_some_iff.1 h;have hx:e.1=x:=(by simpa using List.find?_some he);obtain ⟨d,hd,h1,h2⟩:=aAh e (List.mem_of_find?_eq_some he);rw[hx] at h1;exact ⟨d,hd,h1,h2⟩
theorem xR {i:Nat} {s:List UInt8} {k:UInt8} {n:List UInt8} (h:mT i s=some (k,n)):∃d,d<10∧s=cO k d∧n=[UInt8.ofNat (48+d)]∧(6≤i→k=82)∧(i<6→k=76∨k=71):=by
 unfold mT at h;by_cases hi:6≤i
 ·rw[if_pos hi] at h;obtain ⟨n',hn,e⟩:=Option.map_eq_some_iff.1 h;obtain ⟨rfl,rfl⟩:=Prod.mk.inj e;obtain ⟨d,hd,h1,h2⟩:=lQ hn;rcases h1 with h1|h1|h1
  ·exact absurd (List.cons.inj h1).1 (by decide)
  ·exact absurd (List.cons.inj h1).1 (by decide)
  ·exact ⟨d,hd,(List.cons.inj h1).2,h2,fun _=>rfl,fun h=>by omega⟩
 ·rw[if_neg hi] at h;cases h76:tG (76 :: s) with
  |some n'=>
   rw[h76] at h;obtain ⟨rfl,rfl⟩:=Prod.mk.inj (aIw h);obtain ⟨d,hd,h1,h2⟩:=lQ h76;rcases h1 with h1|h1|h1
   ·exact ⟨d,hd,(List.cons.inj h1).2,h2,fun h=>absurd h hi,fun _=>Or.inl rfl⟩
   ·exact absurd (List.cons.inj h1).1 (by decide)
   ·exact absurd (List.cons.inj h1).1 (by decide)
  |none=>
   rw[h76] at h;obtain ⟨n',hn,e⟩:=Option.map_eq_some_iff.1 h;obtain ⟨rfl,rfl⟩:=Prod.mk.inj e;obtain ⟨d,hd,h1,h2⟩:=lQ hn;rcases h1 with h1|h1|h1
   ·exact absurd (List.cons.inj h1).1 (by decide)
   ·exact ⟨d,hd,(List.cons.inj h1).2,h2,fun h=>absurd h hi,fun _=>Or.inr rfl⟩
   ·exact absurd (List.cons.inj h1).1 (by decide)
theorem WX {s n:List UInt8} (h:tG (76 :: s)=some n):tG (71 :: s)=none:=by
 cases hg:tG (71 :: s) with
 |none=>rfl
 |some n'=>
  exfalso;obtain ⟨d,hd,h1,-⟩:=lQ h;obtain ⟨d',hd',h1',-⟩:=lQ hg;have e1:s=cO 76 d:=by
   rcases h1 with h1|h1|h1
   ·exact (List.cons.inj h1).2
   ·exact absurd (List.cons.inj h1).1 (by decide)
   ·exact absurd (List.cons.inj h1).1 (by decide)
  have e2:s=cO 71 d':=by
   rcases h1' with h1' | h1' | h1'
   ·exact absurd (List.cons.inj h1').1 (by decide)
   ·exact (List.cons.inj h1').2
   ·exact absurd (List.cons.inj h1').1 (by decide)
  have hne:∀a<10,∀b<10,cO 76 a≠cO 71 b:=(by decide +kernel);exact hne d hd d' hd' (e1.symm.trans e2)
def iV (i:Nat) (s:List UInt8) (k:Nat):Option UInt8:=
 if 6≤i then (if s=cO 82 k then some 82 else none) else if s=cO 76 k then some 76 else if s=cO 71 k then some 71 else none
def gA (i : Nat) (s : List UInt8) : Nat → List (UInt8 × List UInt8)
 |0=>[]
 |k+1=>gA i s k++(match iV i s k with|some c=>[(c,[UInt8.ofNat (48+k)])]|none=>[])
theorem MU (i : Nat) (s : List UInt8) (h : i < 6) : ∀ k, gA i s k = gA 0 s k
 |0=>rfl
 |k+1=>by
  have e:iV i s k=iV 0 s k:=by
   unfold iV;rw[if_neg (show ¬6≤i by omega),if_neg (show ¬6≤0 by decide)]
  show gA i s k++(match iV i s k with|some c=>[(c,[UInt8.ofNat (48+k)])]|none=>[])=gA 0 s k++(match iV 0 s k with|some c=>[(c,[UInt8.ofNat (48+k)])]|none=>[]);rw[MU i s h k,e]
theorem GA (i : Nat) (s : List UInt8) (h : 6 ≤ i) : ∀ k, gA i s k = gA 6 s k
 |0=>rfl
 |k+1=>by
  have e:iV i s k=iV 6 s k:=by
   unfold iV;rw[if_pos h,if_pos (show 6≤6 by decide)]
  show gA i s k++(match iV i s k with|some c=>[(c,[UInt8.ofNat (48+k)])]|none=>[])=gA 6 s k++(match iV 6 s k with|some c=>[(c,[UInt8.ofNat (48+k)])]|none=>[]);rw[GA i s h k,e]
theorem O6:∀d<10,gA 0 (cO 76 d) 10=[(76,[UInt8.ofNat (48+d)])]∧gA 0 (cO 71 d) 10=[(71,[UInt8.ofNat (48+d)])]∧gA 6 (cO 82 d) 10=[(82,[UInt8.ofNat (48+d)])]:=by decide +kernel
theorem S9 {i:Nat} {s:List UInt8} {k:Nat} {c:UInt8} (hk:k<10) (h:iV i s k=some c):mT i s=some (c,[UInt8.ofNat (48+k)]):=by
 unfold iV at h;by_cases hi:6≤i
 ·rw[if_pos hi] at h;by_cases h1:s=cO 82 k
  ·rw[if_pos h1] at h;obtain rfl:=aIw h;rw[S7 i s hi,h1];exact WW k hk
  ·rw[if_neg h1] at h;cases h
 ·rw[if_neg hi] at h;by_cases h1:s=cO 76 k
  ·rw[if_pos h1] at h;obtain rfl:=aIw h;rw[MS i s (by omega),h1];exact (S8 k hk).1
  ·rw[if_neg h1] at h;by_cases h2:s=cO 71 k
   ·rw[if_pos h2] at h;obtain rfl:=aIw h;rw[MS i s (by omega),h2];exact (S8 k hk).2
   ·rw[if_neg h2] at h;cases h
theorem GB {i : Nat} {s : List UInt8} (h : mT i s = none) : ∀ k, k ≤ 10 → gA i s k = []
 |0,_=>rfl
 |k+1,hk=>by
  show gA i s k++_=[];rw[GB h k (by omega)];cases hc:iV i s k with
  |none=>rfl
  |some c=>have:=S9 (by omega) hc;rw[h] at this;cases this
theorem WY (i:Nat) (s:List UInt8):gA i s 10=(mT i s).toList:=by
 cases h:mT i s with
 |none=>exact GB h 10 (Nat.le_refl _)
 |some p=>
  obtain ⟨k,n⟩:=p;obtain ⟨d,hd,rfl,rfl,h1,h2⟩:=xR h;have hc:=O6 d hd;by_cases hi:6≤i
  ·obtain rfl:=h1 hi;rw[GA i _ hi];exact hc.2.2
  ·rw[MU i _ (by omega)];rcases h2 (by omega) with rfl|rfl
   ·exact hc.1
   ·exact hc.2.1
theorem mU {m : List UInt8} : ∀ {n : Nat} {ps : List (UInt8 × List UInt8)}, eE m n = some ps → ps.length = n
 |0,ps,h=>by obtain rfl:=aIw h;rfl
 |n+1,ps,h=>by
  unfold eE at h;cases hp:eE m n with
  |none=>rw[hp] at h;cases h
  |some q=>
   rw[hp] at h;cases hd:mT n (gAt m n) with
   |none=>simp only[hd] at h;cases h
   |some p=>simp only[hd] at h;obtain rfl:=aIw h;rw[aH5,mU hp];rfl
theorem rY {m : List UInt8} : ∀ {n : Nat} {ps : List (UInt8 × List UInt8)}, eE m n = some ps → ∀ i p, ps[i]? = some p → mT i (gAt m i) = some p
 |0,ps,h,i,p,hi=>by obtain rfl:=aIw h;simp at hi
 |n+1,ps,h,i,p,hi=>by
  unfold eE at h;cases hp:eE m n with
  |none=>rw[hp] at h;cases h
  |some q=>
   rw[hp] at h;cases hd:mT n (gAt m n) with
   |none=>simp only[hd] at h;cases h
   |some r=>
    simp only[hd] at h;obtain rfl:=aIw h;have hl:=mU hp;by_cases hlt:i<n
    ·rw[aIb (by omega)] at hi;exact rY hp i p hi
    ·have hib:i<(q++[r]).length:=(aH3.1 hi).1;rw[aH5] at hib;have:([r]:List (UInt8 × List UInt8)).length=1:=rfl;obtain rfl:i=n:=(by omega);rw[aIa (by omega),hl,Nat.sub_self] at hi;simp only[aIq,Option.some.injEq] at hi;rw[←hi];exact hd
theorem BB {m : List UInt8} {n : Nat} (hd : mT n (gAt m n) = none) : ∀ k, eE m (n + 1 + k) = none
 |0=>by
  show (match eE m n with|none=>none|some ps=>match mT n (gAt m n) with|none=>none|some p=>some (ps++[p]))=_;cases eE m n with
  |none=>rfl
  |some ps=>simp only[hd]
 |k+1=>by
  show (match eE m (n+1+k) with|none=>none|some ps=>match mT (n+1+k) (gAt m (n+1+k)) with|none=>none|some p=>some (ps++[p]))=_;rw[BB hd k]
theorem lR {m:List UInt8} {n:Nat} (hn:n<12) (hd:mT n (gAt m n)=none):eE m 12=none:=by
 have:=BB hd (12-(n+1))
 rwa [show n+1+(12-(n+1))=12 by omega] at this
theorem BC:∀k:UInt8,∀d<10,(cO k d).length=7:=by
 intro k d hd;have h1:∀d<10,(dS.getD d []).length=7:=(by decide);unfold cO exB;split
 ·rw[aH6];exact h1 d hd
 ·split
  ·rw[aIA,aH6];exact h1 d hd
  ·exact h1 d hd
theorem TA {l:List UInt8} (h:∀i,i<l.length→∃b,l[i]? = some b∧(b=48∨b=49)):cZ l [48,49]=true:=by
 unfold cZ;rw[aIl];intro b hb;obtain ⟨i,hi,rfl⟩:=aIB hb;obtain ⟨b',h1,h2⟩:=h i hi;rw[aH2 hi] at h1;rw[aIw h1];rcases h2 with rfl|rfl<;>rfl
theorem J2:∀d<10,∀i<7,(∃b,(cO 76 d)[i]? = some b∧(b=48∨b=49))∧(∃b,(cO 71 d)[i]? = some b∧(b=48∨b=49))∧(∃b,(cO 82 d)[i]? = some b∧(b=48∨b=49)):=by
 have h:∀d<10,∀i<7,((cO 76 d)[i]? = some 48∨(cO 76 d)[i]? = some 49)∧((cO 71 d)[i]? = some 48∨(cO 71 d)[i]? = some 49)∧((cO 82 d)[i]? = some 48∨(cO 82 d)[i]? = some 49):=(by decide +kernel);intro d hd i hi;obtain ⟨h1,h2,h3⟩:=h d hd i hi;exact ⟨by rcases h1 with h|h;exact ⟨_,h,Or.inl rfl⟩;exact ⟨_,h,Or.inr rfl⟩,by rcases h2 with h|h;exact ⟨_,h,Or.inl rfl⟩;exact ⟨_,h,Or.inr rfl⟩,by rcases h3 with h|h;exact ⟨_,h,Or.inl rfl⟩;exact ⟨_,h,Or.inr rfl⟩⟩
theorem O7 {m:List UInt8} {ps:List (UInt8 × List UInt8)} (hh:jW m=true) (hp:eE m 12=some ps):cZ m [48,49]=true:=by
 unfold jW at hh;simp only[aIs,decide_eq_true_eq] at hh;obtain ⟨hl,h3,h5,h9⟩:=hh;apply TA;intro j hj;have grp:∀i,i<12→∀o,o<7→∃b,m[qL i+o]? = some b∧(b=48∨b=49):=fun i hi o ho=>by
  have cT:=mU hp;obtain ⟨⟨k,n⟩,hg⟩:∃p,ps[i]? = some p:=⟨_,aH2 (by omega)⟩;have hd:=rY hp i _ hg;obtain ⟨d,aB0,hc,-,hk1,hk2⟩:=xR hd;have hb:=J2 d aB0 o ho;have hgo:(gAt m i)[o]? = m[qL i+o]?:=by
   unfold gAt;rw[aIe ho,aIf]
  rw[←hgo,hc];by_cases h6:6≤i
  ·rw[hk1 h6];exact hb.2.2
  ·rcases hk2 (by omega) with rfl|rfl
   ·exact hb.1
   ·exact hb.2.1
 by_cases c1:j<3
 ·have:m[j]? = V1[j]?:=(by rw[←h3,aIe c1]);rw[this];have:j=0∨j=1∨j=2:=(by omega);rcases this with rfl|rfl|rfl
  ·exact ⟨49,rfl,Or.inr rfl⟩
  ·exact ⟨48,rfl,Or.inl rfl⟩
  ·exact ⟨49,rfl,Or.inr rfl⟩
 ·by_cases c2:j<45
  ·have h:=grp ((j-3) / 7) (by omega) ((j-3) % 7) (by omega);have e:qL ((j-3) / 7)+(j-3) % 7=j:=by unfold qL;rw[if_neg (by omega)];omega
   rwa [e] at h
  ·by_cases c3:j<50
   ·have:m[j]? = aBb[j-45]?:=(by rw[←h5,aIe (by omega),aIf,show 45+(j-45)=j by omega]);rw[this];have:j=45∨j=46∨j=47∨j=48∨j=49:=(by omega);rcases this with rfl|rfl|rfl|rfl|rfl
    ·exact ⟨48,rfl,Or.inl rfl⟩
    ·exact ⟨49,rfl,Or.inr rfl⟩
    ·exact ⟨48,rfl,Or.inl rfl⟩
    ·exact ⟨49,rfl,Or.inr rfl⟩
    ·exact ⟨48,rfl,Or.inl rfl⟩
   ·by_cases c4:j<92
    ·have h:=grp ((j-8) / 7) (by omega) ((j-8) % 7) (by omega);have e:qL ((j-8) / 7)+(j-8) % 7=j:=by unfold qL;rw[if_pos (by omega)];omega
     rwa [e] at h
    ·have:m[j]? = V1[j-92]?:=(by rw[←h9,aIf,show 92+(j-92)=j by omega]);rw[this];have:j=92∨j=93∨j=94:=(by omega);rcases this with rfl|rfl|rfl
     ·exact ⟨49,rfl,Or.inr rfl⟩
     ·exact ⟨48,rfl,Or.inl rfl⟩
     ·exact ⟨49,rfl,Or.inr rfl⟩
theorem TB {m:List UInt8} (h:cZ m [48,49]=false):jT m=none:=by
 unfold jT;by_cases hh:jW m=true
 ·rw[if_pos hh];cases hp:eE m 12 with
  |none=>rfl
  |some ps=>have:=O7 hh hp;rw[h] at this;cases this
 ·rw[if_neg hh]
theorem qM {m ds:List UInt8} (h:jT m=some ds):ds.length=13∧cZ ds eL=true:=by
 unfold jT at h;by_cases hh:jW m=true
 ·rw[if_pos hh] at h;cases hp:eE m 12 with
  |none=>rw[hp] at h;cases h
  |some ps=>
   rw[hp] at h;obtain ⟨f,hf,rfl⟩:=Option.map_eq_some_iff.1 h;have aB1:f<10:=by
    unfold oT at hf;exact (List.findIdx?_eq_some_iff_findIdx_eq.1 hf).1
   have hl:=mU hp;have all1:∀p∈ps,∃d,d<10∧p.2=[UInt8.ofNat (48+d)]:=fun p hpm=>by
    obtain ⟨i,hi,rfl⟩:=aIB hpm;have hd:=rY hp i _ (aH2 hi);obtain ⟨d,aB0,-,hn,-,-⟩:=xR (k:=ps[i].1) (n:=ps[i].2) hd;exact ⟨d,aB0,hn⟩
   have key:∀qs:List (UInt8 × List UInt8),(∀p∈qs,∃d,d<10∧p.2=[UInt8.ofNat (48+d)])→(fI qs).length=qs.length∧∀b∈fI qs,b∈eL:=by
    intro qs;induction qs with
    |nil=>intro _;exact ⟨rfl,fun b hb=>by simp[fI] at hb⟩
    |cons q qs ih=>
     intro hq;obtain ⟨d,aB0,hn⟩:=hq q (List.mem_cons_self ..);obtain ⟨i1,i2⟩:=ih fun p hp=>hq p (List.mem_cons_of_mem _ hp);have e:fI (q :: qs)=UInt8.ofNat (48+d) :: fI qs:=by
      unfold fI;rw[aIM,hn];rfl
     rw[e];refine ⟨by rw[aH8,aH8,i1],fun b hb => ?_⟩;rcases aIk.1 hb with rfl|hb
     ·have:∀d<10,UInt8.ofNat (48+d)∈eL:=(by decide);exact this d aB0
     ·exact i2 b hb
   obtain ⟨k1,k2⟩:=key ps all1;refine ⟨by rw[aH8,k1,hl],?_⟩;unfold cZ;rw[aIl];intro b hb;rcases aIk.1 hb with rfl|hb
   ·have:∀d<10,(eL.contains (UInt8.ofNat (48+d)))=true:=(by decide);exact this f aB1
   ·simpa using k2 b hb
 ·rw[if_neg hh] at h;cases h
end Go.Proofs.YtllefinciimffaaGreatDoor
namespace Go.Proofs
open Go.Shelf
def Tryz.laysRevB_ren:Go.Shelf.Ren:=⟨fun|35=>273|n=>n,fun|22=>92|23=>5|3=>3|4=>4|0=>0|n=>n,fun|n=>n⟩
theorem Tryz.laysRevB : Go.Proofs.SlLaysE.n35 Tryz.prog Tryz.laysRevB_ren := {
 mixed:=by kernel_rfl
 f35:=⟨Tryz.f273.name,by decide,Tryz.func273.trans (congrArg some (by kernel_rfl))⟩
 t0:=Tryz.underlying0
 a0:=Tryz.isAgg0
 z0:=Tryz.sizeOf0
 v0:=Tryz.zeroValue0
 t3:=Tryz.underlying3
 a3:=Tryz.isAgg3
 z3:=Tryz.sizeOf3
 v3:=Tryz.zeroValue3
 t4:=Tryz.underlying4
 a4:=Tryz.isAgg4
 z4:=Tryz.sizeOf4
 v4:=Tryz.zeroValue4
 t22:=Tryz.underlying92
 a22:=Tryz.isAgg92
 z22:=Tryz.sizeOf92
 v22:=Tryz.zeroValue92
 a23:=Tryz.isAgg5
 z23:=Tryz.sizeOf5 }
end Go.Proofs
namespace Go.Proofs.YtllefinciimffaaGreatDoor
open Go.RowKit Go.Shelf Go.Sort
def WZ (b:UInt8):Value:=.int .u8 (b.toNat:Int)
theorem MV (w:World) (e:TypeId) (s:ByteArray):Bl w (Lib.bytesWorld w e s):=⟨rfl,rfl,rfl,by rw[Lib.bytesWorld_size];omega,fun j hj=>Lib.bytesWorld_at_old w e s j hj⟩
theorem xS (w:World) (e:TypeId) (l:List UInt8):Holds WZ (Lib.bytesWorld w e ⟨l.toArray⟩) w.heap.size 0 l.toArray:=fun j hj=>by
 have hj':j<l.length:=(by simpa using hj);rw[Nat.zero_add];refine ⟨?_,?_⟩
 ·have h:=Lib.bytesWorld_cell w e ⟨l.toArray⟩ j (by rw[Lib.size_mk];exact hj');rw[h];unfold WZ;simp[List.getD,hj']
 ·unfold World.frozen?;rw[Lib.bytesWorld_at_new];have:l.length≤(Lib.bytesCells w e ⟨l.toArray⟩).size:=by
   unfold Lib.bytesCells;simp
  simp;omega
theorem xT (g cap:Nat) (l:List UInt8) (w:World) (hl:l.length≤9223372036854775807) (hH:Holds WZ w g 0 l.toArray) :
 Calls Tryz.prog 273 #[.slice (some ⟨g,0,none⟩) l.length cap] w fun e w'=>e=.returned (.tuple #[])∧Holds WZ w' g 0 l.reverse.toArray∧∀w0,Bl w0 w→w0.heap.size≤g→Bl w0 w':=by
 have h:=AnyE.slices_Reverse Tryz.laysRevB WZ (fun _=>rfl) g 0 cap l w hH hl;refine Calls.mono (R:=fun e w'=>e=.returned (.tuple #[])∧∃n,w'=putRow WZ (Sort.ahead w n) g 0 l.reverse.toArray) h ?_;rintro e w' ⟨rfl,n,rfl⟩;refine ⟨rfl,holds_putRow WZ _ _ _ l.toArray _ (fun j hj=>hH j hj) (by simp),fun w0 hb hg=>Lib.below_putRow (q:=n) hb hg⟩
def FlipRes (l:List UInt8) (w:World) (e:Ending) (w':World):Prop:=e=.returned (.string ⟨l.reverse.toArray⟩)∧Bl w w'
theorem vU (l:List UInt8) (w:World) (hl:l.length≤9223372036854775807) :
 Calls Tryz.prog 255 #[l] w (FlipRes l w):=by
 go_in
 go_wp2_with fail;rw[Lib.run_convert_string_bytes w 9 92 5 ⟨l.toArray⟩ Tryz.underlying9 Tryz.underlying92 Tryz.underlying5,Lib.size_mk];have hH:=xS w 5 l;have hb2:=MV w 5 ⟨l.toArray⟩;obtain ⟨w2,hw2⟩:=aH0 (Lib.bytesWorld w 5 ⟨l.toArray⟩);obtain ⟨cp,hcp⟩:=aH0 (grownCap w l.length 0 5);rw[←hw2] at hH hb2 ⊢;rw[←hcp];have Hrv:=aHH (xT w.heap.size cp l w2 hl hH);clear hw2 hcp hH;go_wp2_with fail;refine Hrv.out.mono ?_;rintro e w3 ⟨rfl,hH3,hb3⟩;have hbl:=hb3 w hb2 (Nat.le_refl _);have hcv:=run_convert_bytes_back (P:=Tryz.prog) w3 92 9 5 ⟨w.heap.size,0,none⟩ cp l.reverse Tryz.underlying92 Tryz.underlying5 Tryz.underlying9 (fun j hj=>by
  have h:=(hH3 j (by simpa using hj)).1;rw[Nat.zero_add] at h;show w3.cell? ((⟨w.heap.size,0,none⟩:Addr).add j)=_;rw[show (⟨w.heap.size,0,none⟩:Addr).add j=⟨w.heap.size,j,none⟩ by (unfold Addr.add;simp;omega),h];unfold WZ;simp only[aIA] at hj;simp[getElem!_pos,hj])
 rw[aIA] at hcv;clear hH3 hb3 Hrv;go_wp2_with fail;go_ret;exact ⟨rfl,hbl⟩
theorem nT (l:List UInt8) (w:World) (hl:l.length≤9223372036854775807) :
 Calls Tryz.prog 220 #[l] w (FlipRes l w):=by
 go_in
 go_wp2_with fail;rw[Lib.run_convert_string_bytes w 9 92 5 ⟨l.toArray⟩ Tryz.underlying9 Tryz.underlying92 Tryz.underlying5,Lib.size_mk];have hH:=xS w 5 l;have hb2:=MV w 5 ⟨l.toArray⟩;obtain ⟨w2,hw2⟩:=aH0 (Lib.bytesWorld w 5 ⟨l.toArray⟩);obtain ⟨cp,hcp⟩:=aH0 (grownCap w l.length 0 5);rw[←hw2] at hH hb2 ⊢;rw[←hcp];have Hrv:=aHH (xT w.heap.size cp l w2 hl hH);clear hw2 hcp hH;go_wp2_with fail;refine Hrv.out.mono ?_;rintro e w3 ⟨rfl,hH3,hb3⟩;have hbl:=hb3 w hb2 (Nat.le_refl _);have hcv:=run_convert_bytes_back (P:=Tryz.prog) w3 92 9 5 ⟨w.heap.size,0,none⟩ cp l.reverse Tryz.underlying92 Tryz.underlying5 Tryz.underlying9 (fun j hj=>by
  have h:=(hH3 j (by simpa using hj)).1;rw[Nat.zero_add] at h;show w3.cell? ((⟨w.heap.size,0,none⟩:Addr).add j)=_;rw[show (⟨w.heap.size,0,none⟩:Addr).add j=⟨w.heap.size,j,none⟩ by (unfold Addr.add;simp;omega),h];unfold WZ;simp only[aIA] at hj;simp[getElem!_pos,hj])
 rw[aIA] at hcv;clear hH3 hb3 Hrv;go_wp2_with fail;go_ret;exact ⟨rfl,hbl⟩
end Go.Proofs.YtllefinciimffaaGreatDoor
namespace Go.Proofs
open Go.Shelf
def Tryz.lays212_ren:Go.Shelf.Ren:=⟨fun|212=>268|263=>313|264=>314|n=>n,fun|46=>233|51=>277|146=>278|53=>270|148=>336|n=>n,fun|n=>n⟩
theorem Tryz.lays212 : Go.Proofs.Lays.n212 Tryz.prog Tryz.lays212_ren := {
 mixed:=by kernel_rfl
 f212:=Tryz.func268.trans (congrArg some (by kernel_rfl))
 f263:=Tryz.func313.trans (congrArg some (by kernel_rfl))
 f264:=Tryz.func314.trans (congrArg some (by kernel_rfl))
 t46:=Tryz.underlying233
 a46:=Tryz.isAgg233
 z46:=Tryz.sizeOf233
 v46:=Tryz.zeroValue233
 t51:=Tryz.underlying277
 a51:=Tryz.isAgg277
 z51:=Tryz.sizeOf277
 v51:=Tryz.zeroValue277
 t53:=Tryz.underlying270
 a53:=Tryz.isAgg270
 z53:=Tryz.sizeOf270
 v53:=Tryz.zeroValue270
 t146:=Tryz.underlying278
 a146:=Tryz.isAgg278
 z146:=Tryz.sizeOf278
 v146:=Tryz.zeroValue278
 t148:=Tryz.underlying336
 a148:=Tryz.isAgg336
 z148:=Tryz.sizeOf336
 v148:=Tryz.zeroValue336 }
def Tryz.lays170_ren:Go.Shelf.Ren:=⟨fun|170=>48|n=>n,fun|70=>91|3=>3|0=>0|72=>94|37=>92|5=>5|n=>n,fun|n=>n⟩
theorem Tryz.lays170 : Go.Proofs.Lays.n170 Tryz.prog Tryz.lays170_ren := {
 mixed:=by kernel_rfl
 f170:=Tryz.func48.trans (congrArg some (by kernel_rfl))
 t0:=Tryz.underlying0
 a0:=Tryz.isAgg0
 z0:=Tryz.sizeOf0
 v0:=Tryz.zeroValue0
 t3:=Tryz.underlying3
 a3:=Tryz.isAgg3
 z3:=Tryz.sizeOf3
 v3:=Tryz.zeroValue3
 t37:=Tryz.underlying92
 a37:=Tryz.isAgg92
 z37:=Tryz.sizeOf92
 v37:=Tryz.zeroValue92
 t70:=Tryz.underlying91
 a70:=Tryz.isAgg91
 z70:=Tryz.sizeOf91
 v70:=Tryz.zeroValue91
 t72:=Tryz.underlying94
 a72:=Tryz.isAgg94
 z72:=Tryz.sizeOf94
 v72:=Tryz.zeroValue94 }
end Go.Proofs
namespace Go.Proofs.YtllefinciimffaaGreatDoor
open Go.RowKit Go.Shelf
theorem tH (x y:Nat) (h:x*y<18446744073709551616) (hx:x<18446744073709551616) (hy:y<18446744073709551616) (w:World) :
 Calls Tryz.prog 268 #[.int .u64 x,.int .u64 y] w fun e w'=>e=.returned (.tuple #[.int .u64 0,.int .u64 ((x*y:Nat):Int)])∧w=w':=by
 refine (Any.bits_Mul Tryz.lays212 x y hx hy w).mono ?_;rintro e w' ⟨rfl,rfl⟩;refine ⟨?_,rfl⟩;rw[Nat.div_eq_of_lt h,Nat.mod_eq_of_lt h];rfl
theorem aU (B:Nat) (l:List UInt8) (w:World) (h:Bui B l w) :
 Calls Tryz.prog 48 #[.pointer (some ⟨B,0,none⟩)] w fun e w'=>e=.returned l.length∧w=w':=by
 refine (Any.Builder_Len_f Tryz.lays170 B B _ w h).mono ?_;rintro e w' ⟨rfl,rfl⟩;rw[Lib.byteCells_length];exact ⟨rfl,rfl⟩
theorem cJ (B:Nat) (l:List UInt8) (w:World) (h:Bui B l w) (hBw:B≤w.heap.size) :
 Calls Tryz.prog 49 #[.pointer (some ⟨B,0,none⟩)] w fun e w'=>e=.returned (.string ⟨l.toArray⟩)∧Bui B l w'∧Below B w w':=by
 refine (Any.Builder_String_any_k Tryz.lays169 Tryz.builderExtra B B l w h hBw).mono ?_;rintro e w' ⟨rfl,h1,h2,_⟩;exact ⟨rfl,h1,h2⟩
theorem rZ (a b c:Int) (ts:Array TypeId) (t:TypeId) (w:World):(Builtin.min_ ts t #[a,b,c]).run Tryz.prog w=.ok (.int .i64 (min (min a b) c)) w:=by
 simp[Builtin.min_,Builtin.min2];omega
theorem O8 (w:World):Calls Tryz.prog 213 #[.string ⟨#[49]⟩,.int .i64 2] w fun e w'=>e=.returned (.string ⟨(List.replicate 2 (49:UInt8)).toArray⟩)∧Bl w w':=by
 have N2:=aHH (tH 1 2 (by decide) (by decide) (by decide) w);have Hgr:=aHH (xP w.heap.size 2 w rfl (by decide))
 go_in
 go_wp2_with fail;refine N2.out.mono ?_;rintro e w' ⟨rfl,rfl⟩;go_wp2_with fail;refine Hgr.out.mono ?_;rintro e w1 ⟨rfl,hbu,hb1⟩;obtain ⟨B,hB⟩:=aH0 w.heap.size;rw[←hB] at hbu ⊢;have HB:=aHH hB;have JB:B≤w1.heap.size:=(by rw[hB];exact hb1.le);have Hw:=aHH (aO B [] [49] w1 hbu (by decide) JB);clear hB N2 Hgr hbu;go_wp2_with fail;refine Hw.out.mono ?_;rintro e w2 ⟨rfl,YH,VN⟩;have hb2:=Bl.trans' hb1 HB.out.symm VN;have ZL:B≤w2.heap.size:=aII JB VN.size;clear Hw VN hb1 JB;go_wp2_with fail;refine wp_loop_rounds 2 ?_;have HU1:=aHH (show Bui B ([49]:List UInt8) w2 from YH);have ES:∀(ts:Array TypeId) (t:TypeId) (W:World),(Builtin.min_ ts t #[.int .i64 1,.int .i64 1,.int .i64 2]).run Tryz.prog W=.ok (.int .i64 1) W:=fun ts t W=>(by rw[rZ];rfl);rw[rounds_succ];go_wp2_with fail;refine (aU B [49] _ HU1.out).mono ?_;rintro e w' ⟨rfl,rfl⟩;go_wp2_with fail;refine (aU B [49] _ HU1.out).mono ?_;rintro e w' ⟨rfl,rfl⟩;go_wp2_with fail;refine (aU B [49] _ HU1.out).mono ?_;rintro e w' ⟨rfl,rfl⟩;go_wp2_with fail;refine (cJ B [49] _ HU1.out ZL).mono ?_;rintro e w3 ⟨rfl,hu3,ZM⟩;have ZN:B≤w3.heap.size:=aII ZL ZM.size;have hb3:=Bl.trans' hb2 HB.out.symm ZM;go_wp2_with fail;refine (aO B [49] [49] w3 hu3 (by decide) ZN).mono ?_;rintro e w4 ⟨rfl,hu4,ZO⟩;have aAH:B≤w4.heap.size:=aII ZN ZO.size;have hb4:=Bl.trans' hb3 HB.out.symm ZO;clear ES;go_wp2_with fail;have HUE:=aHH (show Bui B ([49,49]:List UInt8) w4 from hu4);rw[rounds_succ];go_wp2_with fail;refine (aU B [49,49] _ HUE.out).mono ?_;rintro e w' ⟨rfl,rfl⟩;go_wp2_with fail;refine (cJ B [49,49] _ HUE.out aAH).mono ?_;rintro e we ⟨rfl,-,aB2⟩;have hbe:=Bl.trans' hb4 HB.out.symm aB2;go_wp2_with fail;go_ret;exact ⟨rfl,hbe⟩
theorem PA (w:World):Calls Tryz.prog 213 #[.string ⟨#[49]⟩,.int .i64 3] w fun e w'=>e=.returned (.string ⟨(List.replicate 3 (49:UInt8)).toArray⟩)∧Bl w w':=by
 have N2:=aHH (tH 1 3 (by decide) (by decide) (by decide) w);have Hgr:=aHH (xP w.heap.size 3 w rfl (by decide))
 go_in
 go_wp2_with fail;refine N2.out.mono ?_;rintro e w' ⟨rfl,rfl⟩;go_wp2_with fail;refine Hgr.out.mono ?_;rintro e w1 ⟨rfl,hbu,hb1⟩;obtain ⟨B,hB⟩:=aH0 w.heap.size;rw[←hB] at hbu ⊢;have HB:=aHH hB;have JB:B≤w1.heap.size:=(by rw[hB];exact hb1.le);have Hw:=aHH (aO B [] [49] w1 hbu (by decide) JB);clear hB N2 Hgr hbu;go_wp2_with fail;refine Hw.out.mono ?_;rintro e w2 ⟨rfl,YH,VN⟩;have hb2:=Bl.trans' hb1 HB.out.symm VN;have ZL:B≤w2.heap.size:=aII JB VN.size;clear Hw VN hb1 JB;go_wp2_with fail;refine wp_loop_rounds 3 ?_;have HU1:=aHH (show Bui B ([49]:List UInt8) w2 from YH);have ES:∀(ts:Array TypeId) (t:TypeId) (W:World),(Builtin.min_ ts t #[.int .i64 2,.int .i64 1,.int .i64 3]).run Tryz.prog W=.ok (.int .i64 1) W:=fun ts t W=>(by rw[rZ];rfl);rw[rounds_succ];go_wp2_with fail;refine (aU B [49] _ HU1.out).mono ?_;rintro e w' ⟨rfl,rfl⟩;go_wp2_with fail;refine (aU B [49] _ HU1.out).mono ?_;rintro e w' ⟨rfl,rfl⟩;go_wp2_with fail;refine (aU B [49] _ HU1.out).mono ?_;rintro e w' ⟨rfl,rfl⟩;go_wp2_with fail;refine (cJ B [49] _ HU1.out ZL).mono ?_;rintro e w3 ⟨rfl,hu3,ZM⟩;have ZN:B≤w3.heap.size:=aII ZL ZM.size;have hb3:=Bl.trans' hb2 HB.out.symm ZM;go_wp2_with fail;refine (aO B [49] [49] w3 hu3 (by decide) ZN).mono ?_;rintro e w4 ⟨rfl,hu4,ZO⟩;have aAH:B≤w4.heap.size:=aII ZN ZO.size;have hb4:=Bl.trans' hb3 HB.out.symm ZO;clear ES;go_wp2_with fail;have HU2:=aHH (show Bui B ([49,49]:List UInt8) w4 from hu4);have ES:∀(ts:Array TypeId) (t:TypeId) (W:World),(Builtin.min_ ts t #[.int .i64 1,.int .i64 2,.int .i64 3]).run Tryz.prog W=.ok (.int .i64 1) W:=fun ts t W=>(by rw[rZ];rfl);rw[rounds_succ];go_wp2_with fail;refine (aU B [49,49] _ HU2.out).mono ?_;rintro e w' ⟨rfl,rfl⟩;go_wp2_with fail;refine (aU B [49,49] _ HU2.out).mono ?_;rintro e w' ⟨rfl,rfl⟩;go_wp2_with fail;refine (aU B [49,49] _ HU2.out).mono ?_;rintro e w' ⟨rfl,rfl⟩;go_wp2_with fail;refine (cJ B [49,49] _ HU2.out aAH).mono ?_;rintro e w5 ⟨rfl,hu5,VO⟩;have aB3:B≤w5.heap.size:=aII aAH VO.size;have hb5:=Bl.trans' hb4 HB.out.symm VO;go_wp2_with fail;refine (aO B [49,49] [49] w5 hu5 (by decide) aB3).mono ?_;rintro e w6 ⟨rfl,hu6,oC⟩;have aDS:B≤w6.heap.size:=aII aB3 oC.size;have hb6:=Bl.trans' hb5 HB.out.symm oC;clear ES;go_wp2_with fail;have HUE:=aHH (show Bui B ([49,49,49]:List UInt8) w6 from hu6);rw[rounds_succ];go_wp2_with fail;refine (aU B [49,49,49] _ HUE.out).mono ?_;rintro e w' ⟨rfl,rfl⟩;go_wp2_with fail;refine (cJ B [49,49,49] _ HUE.out aDS).mono ?_;rintro e we ⟨rfl,-,aB2⟩;have hbe:=Bl.trans' hb6 HB.out.symm aB2;go_wp2_with fail;go_ret;exact ⟨rfl,hbe⟩
theorem PC (w:World):Calls Tryz.prog 213 #[.string ⟨#[49]⟩,.int .i64 4] w fun e w'=>e=.returned (.string ⟨(List.replicate 4 (49:UInt8)).toArray⟩)∧Bl w w':=by
 have N2:=aHH (tH 1 4 (by decide) (by decide) (by decide) w);have Hgr:=aHH (xP w.heap.size 4 w rfl (by decide))
 go_in
 go_wp2_with fail;refine N2.out.mono ?_;rintro e w' ⟨rfl,rfl⟩;go_wp2_with fail;refine Hgr.out.mono ?_;rintro e w1 ⟨rfl,hbu,hb1⟩;obtain ⟨B,hB⟩:=aH0 w.heap.size;rw[←hB] at hbu ⊢;have HB:=aHH hB;have JB:B≤w1.heap.size:=(by rw[hB];exact hb1.le);have Hw:=aHH (aO B [] [49] w1 hbu (by decide) JB);clear hB N2 Hgr hbu;go_wp2_with fail;refine Hw.out.mono ?_;rintro e w2 ⟨rfl,YH,VN⟩;have hb2:=Bl.trans' hb1 HB.out.symm VN;have ZL:B≤w2.heap.size:=aII JB VN.size;clear Hw VN hb1 JB;go_wp2_with fail;refine wp_loop_rounds 3 ?_;have HU1:=aHH (show Bui B ([49]:List UInt8) w2 from YH);have ES:∀(ts:Array TypeId) (t:TypeId) (W:World),(Builtin.min_ ts t #[.int .i64 3,.int .i64 1,.int .i64 4]).run Tryz.prog W=.ok (.int .i64 1) W:=fun ts t W=>(by rw[rZ];rfl);rw[rounds_succ];go_wp2_with fail;refine (aU B [49] _ HU1.out).mono ?_;rintro e w' ⟨rfl,rfl⟩;go_wp2_with fail;refine (aU B [49] _ HU1.out).mono ?_;rintro e w' ⟨rfl,rfl⟩;go_wp2_with fail;refine (aU B [49] _ HU1.out).mono ?_;rintro e w' ⟨rfl,rfl⟩;go_wp2_with fail;refine (cJ B [49] _ HU1.out ZL).mono ?_;rintro e w3 ⟨rfl,hu3,ZM⟩;have ZN:B≤w3.heap.size:=aII ZL ZM.size;have hb3:=Bl.trans' hb2 HB.out.symm ZM;go_wp2_with fail;refine (aO B [49] [49] w3 hu3 (by decide) ZN).mono ?_;rintro e w4 ⟨rfl,hu4,ZO⟩;have aAH:B≤w4.heap.size:=aII ZN ZO.size;have hb4:=Bl.trans' hb3 HB.out.symm ZO;clear ES;go_wp2_with fail;have HU2:=aHH (show Bui B ([49,49]:List UInt8) w4 from hu4);have ES:∀(ts:Array TypeId) (t:TypeId) (W:World),(Builtin.min_ ts t #[.int .i64 2,.int .i64 2,.int .i64 4]).run Tryz.prog W=.ok (.int .i64 2) W:=fun ts t W=>(by rw[rZ];rfl);rw[rounds_succ];go_wp2_with fail;refine (aU B [49,49] _ HU2.out).mono ?_;rintro e w' ⟨rfl,rfl⟩;go_wp2_with fail;refine (aU B [49,49] _ HU2.out).mono ?_;rintro e w' ⟨rfl,rfl⟩;go_wp2_with fail;refine (aU B [49,49] _ HU2.out).mono ?_;rintro e w' ⟨rfl,rfl⟩;go_wp2_with fail;refine (cJ B [49,49] _ HU2.out aAH).mono ?_;rintro e w5 ⟨rfl,hu5,VO⟩;have aB3:B≤w5.heap.size:=aII aAH VO.size;have hb5:=Bl.trans' hb4 HB.out.symm VO;go_wp2_with fail;refine (aO B [49,49] [49,49] w5 hu5 (by decide) aB3).mono ?_;rintro e w6 ⟨rfl,hu6,oC⟩;have aDS:B≤w6.heap.size:=aII aB3 oC.size;have hb6:=Bl.trans' hb5 HB.out.symm oC;clear ES;go_wp2_with fail;have HUE:=aHH (show Bui B ([49,49,49,49]:List UInt8) w6 from hu6);rw[rounds_succ];go_wp2_with fail;refine (aU B [49,49,49,49] _ HUE.out).mono ?_;rintro e w' ⟨rfl,rfl⟩;go_wp2_with fail;refine (cJ B [49,49,49,49] _ HUE.out aDS).mono ?_;rintro e we ⟨rfl,-,aB2⟩;have hbe:=Bl.trans' hb6 HB.out.symm aB2;go_wp2_with fail;go_ret;exact ⟨rfl,hbe⟩
theorem PD (w:World):Calls Tryz.prog 213 #[.string ⟨#[48]⟩,.int .i64 2] w fun e w'=>e=.returned (.string ⟨(List.replicate 2 (48:UInt8)).toArray⟩)∧Bl w w':=by
 have N2:=aHH (tH 1 2 (by decide) (by decide) (by decide) w)
 go_in
 go_wp2_with fail;refine N2.out.mono ?_;rintro e w' ⟨rfl,rfl⟩;go_wp2_with fail;refine (dE _ [48] _).mono ?_;rintro e w' ⟨rfl,rfl⟩;rw[show ∀l:List UInt8,Lib.hasPrefix (32 :: l) [48]=false from fun _=>rfl];go_wp2_with fail;refine (dE _ [48] _).mono ?_;rintro e w' ⟨rfl,rfl⟩;rw[show ∀l:List UInt8,Lib.hasPrefix (45 :: l) [48]=false from fun _=>rfl];go_wp2_with fail;refine (dE _ [48] _).mono ?_;rintro e w' ⟨rfl,rfl⟩;rw[show ∀l:List UInt8,Lib.hasPrefix (48 :: l) [48]=true from fun _=>rfl];go_wp2_with fail;try simp only[Exit.inBlock,Exit.then]
 go_ret;exact ⟨rfl,Bl.refl _⟩
theorem PF (w:World):Calls Tryz.prog 213 #[.string ⟨#[48]⟩,.int .i64 3] w fun e w'=>e=.returned (.string ⟨(List.replicate 3 (48:UInt8)).toArray⟩)∧Bl w w':=by
 have N2:=aHH (tH 1 3 (by decide) (by decide) (by decide) w)
 go_in
 go_wp2_with fail;refine N2.out.mono ?_;rintro e w' ⟨rfl,rfl⟩;go_wp2_with fail;refine (dE _ [48] _).mono ?_;rintro e w' ⟨rfl,rfl⟩;rw[show ∀l:List UInt8,Lib.hasPrefix (32 :: l) [48]=false from fun _=>rfl];go_wp2_with fail;refine (dE _ [48] _).mono ?_;rintro e w' ⟨rfl,rfl⟩;rw[show ∀l:List UInt8,Lib.hasPrefix (45 :: l) [48]=false from fun _=>rfl];go_wp2_with fail;refine (dE _ [48] _).mono ?_;rintro e w' ⟨rfl,rfl⟩;rw[show ∀l:List UInt8,Lib.hasPrefix (48 :: l) [48]=true from fun _=>rfl];go_wp2_with fail;try simp only[Exit.inBlock,Exit.then]
 go_ret;exact ⟨rfl,Bl.refl _⟩
theorem PG (w:World):Calls Tryz.prog 213 #[.string ⟨#[48]⟩,.int .i64 4] w fun e w'=>e=.returned (.string ⟨(List.replicate 4 (48:UInt8)).toArray⟩)∧Bl w w':=by
 have N2:=aHH (tH 1 4 (by decide) (by decide) (by decide) w)
 go_in
 go_wp2_with fail;refine N2.out.mono ?_;rintro e w' ⟨rfl,rfl⟩;go_wp2_with fail;refine (dE _ [48] _).mono ?_;rintro e w' ⟨rfl,rfl⟩;rw[show ∀l:List UInt8,Lib.hasPrefix (32 :: l) [48]=false from fun _=>rfl];go_wp2_with fail;refine (dE _ [48] _).mono ?_;rintro e w' ⟨rfl,rfl⟩;rw[show ∀l:List UInt8,Lib.hasPrefix (45 :: l) [48]=false from fun _=>rfl];go_wp2_with fail;refine (dE _ [48] _).mono ?_;rintro e w' ⟨rfl,rfl⟩;rw[show ∀l:List UInt8,Lib.hasPrefix (48 :: l) [48]=true from fun _=>rfl];go_wp2_with fail;try simp only[Exit.inBlock,Exit.then]
 go_ret;exact ⟨rfl,Bl.refl _⟩
theorem PH (b:UInt8) (w:World):Calls Tryz.prog 213 #[.string ⟨#[b]⟩,.int .i64 1] w fun e w'=>e=.returned (.string ⟨(List.replicate 1 b).toArray⟩)∧Bl w w':=by
 go_in
 go_wp2_with fail;try simp only[Exit.inBlock,Exit.then]
 go_ret;exact ⟨rfl,Bl.refl _⟩
theorem cK (b:UInt8) (hb:b=48∨b=49) (k:Nat) (h1:1≤k) (h4:k≤4) (w:World):Calls Tryz.prog 213 #[.string ⟨#[b]⟩,k] w fun e w'=>e=.returned (.string ⟨(List.replicate k b).toArray⟩)∧Bl w w':=by
 have hk:k=1∨k=2∨k=3∨k=4:=(by omega);rcases hk with rfl|rfl|rfl|rfl
 ·exact PH b w
 ·rcases hb with rfl|rfl
  ·exact PD w
  ·exact O8 w
 ·rcases hb with rfl|rfl
  ·exact PF w
  ·exact PA w
 ·rcases hb with rfl|rfl
  ·exact PG w
  ·exact PC w
theorem aAi {w:World} {base:Nat} {e:TypeId} {size n m cap:Nat} {A:Option Addr} {xs:List Value} (h:w.ownsRow base e size (.slice A m cap) n xs):n≤cap:=by
 rcases h.2 with ⟨hv,hn⟩|⟨g',cap',cur,hv,-,hg,hn,-⟩
 ·injection hv with h1 h2 h3;omega
 ·injection hv with h1 h2 h3;omega
end Go.Proofs.YtllefinciimffaaGreatDoor
