import Derived.Test.YtllefinciimffaaGreatDoorMClaimTopForms0
set_option maxHeartbeats 20000000
set_option maxRecDepth 100000
namespace Go.Proofs.YtllefinciimffaaGreatDoor
open Go.RowKit
theorem GX (b:Bool):b1 b≤1:=by unfold b1;split<;>omega
def aD5 (bs:List Bool) (W y:Nat):Nat:=lC (fun x=>b1 (pix bs W x y)) W
def lP (bs:List Bool) (W H x:Nat):Nat:=lC (fun y=>b1 (pix bs W x y)) H
def rT (bs:List Bool) (num:Nat→Nat) (m k:Nat):Nat:=lC (fun i=>b1 (bs.getD i false&&decide (num i=k))) m
theorem QU (bs:List Bool) (num:Nat→Nat) (m k:Nat):rT bs num (m+1) k=rT bs num m k+b1 (bs.getD m false&&decide (num m=k)):=rfl
theorem aAd (bs:List Bool) (num:Nat→Nat) (m k:Nat):rT bs num m k≤m:=by
 have:=rR (f:=fun i=>b1 (bs.getD i false&&decide (num i=k))) (c:=1) (fun i=>GX _) m;simpa [rT] using this
theorem aCF (bs:List Bool) (W H x:Nat):lP bs W H x≤H:=by
 have:=rR (f:=fun y=>b1 (pix bs W x y)) (c:=1) (fun i=>GX _) H;simpa [lP] using this
theorem U3 (f:Nat→Nat) (n k:Nat):lC (fun y=>if y=k then f y else 0) n=if k<n then f k else 0:=by
 induction n with
 |zero=>simp[lC]
 |succ n ih=>
  simp only[lC,ih];by_cases h:n=k
  ·subst h;rw[if_neg (by omega),if_pos rfl,if_pos (by omega)];omega
  ·rw[if_neg h];by_cases h2:k<n
   ·rw[if_pos h2,if_pos (by omega)];omega
   ·rw[if_neg h2,if_neg (by omega)]
theorem QV (bs:List Bool) (W H k:Nat) (hk:k<W):rT bs (fun i=>i % W) (W*H) k=lP bs W H k:=by
 unfold rT;rw[Nat.mul_comm,xW];refine dZ fun y _ => ?_;have e:∀x,x<W→b1 (bs.getD (y*W+x) false&&decide ((y*W+x) % W=k))=if x=k then b1 (pix bs W x y) else 0:=by
  intro x hx;rw[(sV y hx).1];by_cases h:x=k
  ·rw[if_pos h,aLX h,Bool.and_true];rfl
  ·rw[if_neg h,aLW h,Bool.and_false];rfl
 rw[dZ e,U3 (fun x=>b1 (pix bs W x y)),if_pos hk]
def U4 (bs:List Bool) (W X Y BW BH:Nat):Nat:=lC (fun j=>lC (fun i=>b1 (pix bs W (X+i) (Y+j))) BW) BH
theorem aAe (BW BH:Nat) (f:Nat→Nat→Bool):lC (fun i=>b1 ((eS BW BH f).getD i false)) (BW*BH)=lC (fun j=>lC (fun i=>b1 (f i j)) BW) BH:=by
 have hg:∀i,i<BW*BH→b1 ((eS BW BH f).getD i false)=b1 (f (i % BW) (i / BW)):=fun i hi=>(by rw[List.getD,uF _ _ _ _ hi];rfl);rw[dZ hg,Nat.mul_comm,xW];refine dZ fun y _=>dZ fun x hx => ?_;rw[(sV y hx).1,(sV y hx).2]
theorem EJ (f : Nat → Nat) : ∀ n, 0 < lC f n ↔ ∃ i, i < n ∧ 0 < f i
 |0=>by simp[lC]
 |n+1=>by
  have ih:=EJ f n;simp only[lC];constructor
  ·intro h;by_cases h2:0<f n
   ·exact ⟨n,by omega,h2⟩
   ·obtain ⟨i,hi,h3⟩:=ih.1 (by omega);exact ⟨i,by omega,h3⟩
  ·rintro ⟨i,hi,h3⟩;by_cases h2:i=n
   ·subst h2;omega
   ·have:=ih.2 ⟨i,by omega,h3⟩;omega
theorem aB0 (b:Bool):0<b1 b↔b=true:=by cases b<;>simp[b1]
theorem sW (bs:List Bool) (W y:Nat):0<aD5 bs W y↔∃x,x<W∧pix bs W x y=true:=by
 unfold aD5;rw[EJ];simp only[aB0]
theorem gZ (bs:List Bool) (W H x:Nat):0<lP bs W H x↔∃y,y<H∧pix bs W x y=true:=by
 unfold lP;rw[EJ];simp only[aB0]
def Ends (f:Nat→Nat) (N x r:Nat):Prop:=(x<N∧0<f x∧∀j,j<x→f j=0)∧(r<N∧0<f r∧∀j,r<j→j<N→f j=0)
def NoEnds (f:Nat→Nat) (N:Nat):Prop:=∀j,j<N→f j=0
def BoundsIs (bs:List Bool) (W H:Nat) (is:Bool) (X Y BW BH:Int):Prop:=
 (is=false∧NoEnds (lP bs W H) W∧X=0∧Y=0∧BW=0∧BH=0) ∨
 (is=true∧∃l r t b:Nat,Ends (lP bs W H) W l r∧Ends (aD5 bs W) H t b∧X=l∧Y=t∧BW=(r:Int)-l+1∧BH=(b:Int)-t+1)
theorem BoundsIs.bd {bs:List Bool} {W H:Nat} {is:Bool} {X Y BW BH:Int} (h:BoundsIs bs W H is X Y BW BH):(0≤X∧X≤W)∧(0≤Y∧Y≤H)∧(0≤BW∧BW≤W)∧(0≤BH∧BH≤H)∧(is=true→X+BW≤W∧Y+BH≤H∧1≤BW∧1≤BH):=by
 rcases h with ⟨h1,h2,h3,h4,h5,h6⟩|⟨h1,l,r,t,b,h2,h3,h4,h5,h6,h7⟩
 ·refine ⟨by omega,by omega,by omega,by omega,fun h => ?_⟩;rw[h1] at h;cases h
 ·have a1:=h2.1.1;have a2:=h2.2.1;have a3:=h3.1.1;have a4:=h3.2.1;have a5:l≤r:=by
   rcases Nat.lt_or_ge r l with c|c
   ·have:=h2.1.2.2 r c;have:=h2.2.2.1;omega
   ·exact c
  have a6:t≤b:=by
   rcases Nat.lt_or_ge b t with c|c
   ·have:=h3.1.2.2 b c;have:=h3.2.2.1;omega
   ·exact c
  exact ⟨by omega,by omega,by omega,by omega,fun _=>by omega⟩
def BInv (bs:List Bool) (W H m:Nat) (l t r b:Int):Prop:=
 ((∀i,i<m→bs.getD i false=false)∧l=W∧t=H∧r = -1∧b = -1) ∨
 ((∃ i, i < m ∧ bs.getD i false = true ∧ l = ((i % W : Nat) : Int)) ∧ (∃ i, i < m ∧ bs.getD i false = true ∧ t = ((i / W : Nat) : Int)) ∧ (∃ i, i < m ∧ bs.getD i false = true ∧ r = ((i % W : Nat) : Int)) ∧ (∃ i, i < m ∧ bs.getD i false = true ∧ b = ((i / W : Nat) : Int)) ∧
   ∀i,i<m→bs.getD i false=true→l≤((i % W:Nat):Int)∧((i % W:Nat):Int)≤r∧t≤((i / W:Nat):Int)∧((i / W:Nat):Int)≤b)
theorem BInv.start (bs:List Bool) (W H:Nat):BInv bs W H 0 W H (-1) (-1):=Or.inl ⟨fun i hi=>by omega,rfl,rfl,rfl,rfl⟩
theorem BInv.no {bs:List Bool} {W H m:Nat} {l t r b:Int} (h:BInv bs W H m l t r b) (hm:bs.getD m false=false):BInv bs W H (m+1) l t r b:=by
 rcases h with ⟨h1,h2⟩|⟨⟨i1,a1,b1',c1⟩,⟨i2,a2,b2,c2⟩,⟨i3,a3,b3,c3⟩,⟨i4,a4,b4,c4⟩,h5⟩
 ·refine Or.inl ⟨fun i hi => ?_,h2⟩;rcases Nat.lt_or_ge i m with c|c
  ·exact h1 i c
  ·obtain rfl:i=m:=(by omega);exact hm
 ·refine Or.inr ⟨⟨i1,by omega,b1',c1⟩,⟨i2,by omega,b2,c2⟩,⟨i3,by omega,b3,c3⟩,⟨i4,by omega,b4,c4⟩,fun i hi hb => ?_⟩;rcases Nat.lt_or_ge i m with c|c
  ·exact h5 i c hb
  ·obtain rfl:i=m:=(by omega);rw[hm] at hb;cases hb
theorem BInv.yes {bs : List Bool} {W H m : Nat} {l t r b : Int} (h : BInv bs W H m l t r b) (hm : bs.getD m false = true) (hx : m % W < W) (hy : m / W < H) {l' t' r' b' : Int}
 (el:l'=if ((m % W:Nat):Int)<l then ((m % W:Nat):Int) else l) (et:t'=if ((m / W:Nat):Int)<t then ((m / W:Nat):Int) else t)
 (er:r'=if r<((m % W:Nat):Int) then ((m % W:Nat):Int) else r) (eb:b'=if b<((m / W:Nat):Int) then ((m / W:Nat):Int) else b):BInv bs W H (m+1) l' t' r' b':=by
 obtain ⟨x,hx'⟩:=aLt (m % W);obtain ⟨y,hy'⟩:=aLt (m / W);rw[←hx'] at el er hx;rw[←hy'] at et eb hy;rcases h with ⟨h1,rfl,rfl,rfl,rfl⟩|⟨⟨i1,a1,b1',c1⟩,⟨i2,a2,b2,c2⟩,⟨i3,a3,b3,c3⟩,⟨i4,a4,b4,c4⟩,h5⟩
 ·rw[if_pos (by omega)] at el et er eb;refine Or.inr ⟨⟨m,by omega,hm,by rw[←hx'];exact el⟩,⟨m,by omega,hm,by rw[←hy'];exact et⟩,⟨m,by omega,hm,by rw[←hx'];exact er⟩,⟨m,by omega,hm,by rw[←hy'];exact eb⟩,fun i hi hb => ?_⟩;rcases Nat.lt_or_ge i m with c|c
  ·rw[h1 i c] at hb;cases hb
  ·obtain rfl:i=m:=(by omega);rw[←hx',←hy'];omega
 ·refine Or.inr ⟨?_,?_,?_,?_,fun i hi hb => ?_⟩
  ·by_cases c:(x:Int)<l
   ·rw[if_pos c] at el;exact ⟨m,by omega,hm,by rw[←hx'];exact el⟩
   ·rw[if_neg c] at el;exact ⟨i1,by omega,b1',by rw[el];exact c1⟩
  ·by_cases c:(y:Int)<t
   ·rw[if_pos c] at et;exact ⟨m,by omega,hm,by rw[←hy'];exact et⟩
   ·rw[if_neg c] at et;exact ⟨i2,by omega,b2,by rw[et];exact c2⟩
  ·by_cases c:r<(x:Int)
   ·rw[if_pos c] at er;exact ⟨m,by omega,hm,by rw[←hx'];exact er⟩
   ·rw[if_neg c] at er;exact ⟨i3,by omega,b3,by rw[er];exact c3⟩
  ·by_cases c:b<(y:Int)
   ·rw[if_pos c] at eb;exact ⟨m,by omega,hm,by rw[←hy'];exact eb⟩
   ·rw[if_neg c] at eb;exact ⟨i4,by omega,b4,by rw[eb];exact c4⟩
  ·have key:(l'≤l∧l'≤x)∧(t'≤t∧t'≤y)∧(r≤r'∧(x:Int)≤r')∧(b≤b'∧(y:Int)≤b'):=by
    refine ⟨?_,?_,?_,?_⟩
    ·split at el<;>omega
    ·split at et<;>omega
    ·split at er<;>omega
    ·split at eb<;>omega
   rcases Nat.lt_or_ge i m with c|c
   ·have:=h5 i c hb;omega
   ·obtain rfl:i=m:=(by omega);rw[←hx',←hy'];omega
theorem BInv.bd {bs:List Bool} {W H m:Nat} {l t r b:Int} (h:BInv bs W H m l t r b) (hm:m≤W*H):(0≤l∧l≤W)∧(0≤t∧t≤H)∧(-1≤r∧r<W)∧(-1≤b∧b<H):=by
 have hp:∀i,i<m→i % W<W∧i / W<H:=fun i hi=>by
  obtain ⟨a,b,_⟩:=eK (show i<W*H by omega);exact ⟨a,b⟩
 rcases h with ⟨h1,rfl,rfl,rfl,rfl⟩|⟨⟨i1,a1,b1',c1⟩,⟨i2,a2,b2,c2⟩,⟨i3,a3,b3,c3⟩,⟨i4,a4,b4,c4⟩,h5⟩
 ·omega
 ·have p1:=(hp i1 a1).1;have p2:=(hp i2 a2).2;have p3:=(hp i3 a3).1;have p4:=(hp i4 a4).2;clear h5 hp;generalize i1 % W=x1 at c1 p1;generalize i2 / W=y2 at c2 p2;generalize i3 % W=x3 at c3 p3;generalize i4 / W=y4 at c4 p4;omega
theorem nA {bs:List Bool} {W H i:Nat} (hi:i<W*H):pix bs W (i % W) (i / W)=bs.getD i false:=by
 unfold pix;rw[(eK hi).2.2]
theorem BInv.done {bs:List Bool} {W H:Nat} {l t r b:Int} (h:BInv bs W H (W*H) l t r b) :
 (r<0∧BoundsIs bs W H false 0 0 0 0)∨(¬r<0∧BoundsIs bs W H true l t (r-l+1) (b-t+1)):=by
 rcases h with ⟨h1,rfl,rfl,rfl,rfl⟩|⟨⟨i1,a1,b1',c1⟩,⟨i2,a2,b2,c2⟩,⟨i3,a3,b3,c3⟩,⟨i4,a4,b4,c4⟩,h5⟩
 ·refine Or.inl ⟨by omega,Or.inl ⟨rfl,fun x hx => ?_,rfl,rfl,rfl,rfl⟩⟩;rcases Nat.eq_zero_or_pos (lP bs W H x) with e|e
  ·exact e
  ·obtain ⟨y,hy,hp⟩:=(gZ bs W H x).1 e;have:=h1 (y*W+x) (eD hx hy);unfold pix at hp;rw[this] at hp;cases hp
 ·have q1:=eK a1;have q2:=eK a2;have q3:=eK a3;have q4:=eK a4;have all:∀x y,x<W→y<H→pix bs W x y=true→l≤x∧(x:Int)≤r∧t≤y∧(y:Int)≤b:=fun x y hx hy hp=>by
   have:=h5 (y*W+x) (eD hx hy) hp
   rwa [(sV y hx).1,(sV y hx).2] at this
  refine Or.inr ⟨by omega,Or.inr ⟨rfl,i1 % W,i3 % W,i2 / W,i4 / W,⟨⟨q1.1,(gZ _ _ _ _).2 ⟨i1 / W,q1.2.1,by rw[nA a1];exact b1'⟩,fun j hj => ?_⟩,q3.1,(gZ _ _ _ _).2 ⟨i3 / W,q3.2.1,by rw[nA a3];exact b3⟩,fun j hj hj2 => ?_⟩,
   ⟨⟨q2.2.1,(sW _ _ _).2 ⟨i2 % W,q2.1,by rw[nA a2];exact b2⟩,fun j hj => ?_⟩,q4.2.1,(sW _ _ _).2 ⟨i4 % W,q4.1,by rw[nA a4];exact b4⟩,fun j hj hj2 => ?_⟩,c1,c2,by rw[c1,c3],by rw[c2,c4]⟩⟩
  ·rcases Nat.eq_zero_or_pos (lP bs W H j) with e|e
   ·exact e
   ·obtain ⟨y,hy,hp⟩:=(gZ bs W H j).1 e;have:=all j y (by omega) hy hp;omega
  ·rcases Nat.eq_zero_or_pos (lP bs W H j) with e|e
   ·exact e
   ·obtain ⟨y,hy,hp⟩:=(gZ bs W H j).1 e;have:=all j y (by omega) hy hp;omega
  ·rcases Nat.eq_zero_or_pos (aD5 bs W j) with e|e
   ·exact e
   ·obtain ⟨x,hx,hp⟩:=(sW bs W j).1 e;have:=all x j hx (by omega) hp;omega
  ·rcases Nat.eq_zero_or_pos (aD5 bs W j) with e|e
   ·exact e
   ·obtain ⟨x,hx,hp⟩:=(sW bs W j).1 e;have:=all x j hx (by omega) hp;omega
structure Ltr where
 text:List UInt8
 W:Int
 H:Int
 A:Option Addr
 m:Nat
 c:Nat
 bs:List Bool
def Ltr.cells (l:Ltr):List Value:=[.string ⟨l.text.toArray⟩,.int .i64 l.W,.int .i64 l.H,.slice l.A l.m l.c]
def g9 (ls:List Ltr):List Value:=ls.flatMap Ltr.cells
theorem pG (ls:List Ltr):(g9 ls).length=ls.length*4:=by
 unfold g9;induction ls with
 |nil=>rfl
 |cons l ls ih=>rw[aMi,aLy,ih,aLB];show 4+ls.length*4=(ls.length+1)*4;omega
theorem xX (a b:List Ltr):g9 (a++b)=g9 a++g9 b:=by unfold g9;rw[aMh]
theorem xY {ls:List Ltr} {i:Nat} {l:Ltr} (h:ls[i]? = some l) (j:Nat) (hj:j<4):(g9 ls)[i*4+j]? = l.cells[j]?:=by
 induction ls generalizing i with
 |nil=>simp at h
 |cons x ls ih=>
  unfold g9;rw[aMi];rcases i with _|i
  ·simp only[aLT,Option.some.injEq] at h;subst h;rw[aLE (by show 0*4+j<4;omega)];simp
  ·rw[aLD (by show 4≤(i+1)*4+j;omega)];have e:(i+1)*4+j-x.cells.length=i*4+j:=by
    show (i+1)*4+j-4=i*4+j;omega
   rw[e];exact ih (by simpa using h)
def LtrsAt (w:World) (L:Option Addr) (ls:List Ltr):Prop:=Reads w 4 L ls.length (g9 ls)∧∀l∈ls,Reads w 1 l.A l.m (l.bs.map .bool)∧l.text.length≤9223372036854775807
theorem LtrsAt.bl {w w':World} {L:Option Addr} {ls:List Ltr} (h:LtrsAt w L ls) (hb:Bl w w'):LtrsAt w' L ls:=⟨h.1.bl hb,fun l hl=>⟨(h.2 l hl).1.bl hb,(h.2 l hl).2⟩⟩
theorem LtrsAt.at_ {w:World} {L:Option Addr} {ls:List Ltr} {i:Nat} {l:Ltr} (h:LtrsAt w L ls) (hi:ls[i]? = some l):∃ad,L=some ad∧w.cell? (ad.add (i*4))=some (.string ⟨l.text.toArray⟩)∧w.cell? ⟨(ad.add (i*4)).block,(ad.add (i*4)).off+1,none⟩=some (.int .i64 l.W) ∧
 w.cell? ⟨(ad.add (i*4)).block,(ad.add (i*4)).off+2,none⟩=some (.int .i64 l.H)∧w.cell? ⟨(ad.add (i*4)).block,(ad.add (i*4)).off+3,none⟩=some (.slice l.A l.m l.c):=by
 have hlt:i<ls.length:=(aLw.1 hi).1;obtain ⟨ad,e,hc⟩:=h.1.2 (by omega);have key:∀j v,j<4→l.cells[j]? = some v→w.cell? ((ad.add (i*4)).add j)=some v:=fun j v hj hv=>by
  rw[cY];exact hc _ _ (by rw[xY hi j hj];exact hv)
 have k0:=key 0 _ (by omega) rfl;have k1:=key 1 _ (by omega) rfl;have k2:=key 2 _ (by omega) rfl;have k3:=key 3 _ (by omega) rfl;rw[Addr.add_zero'] at k0;rw[Addr.add_succ'] at k1 k2 k3;exact ⟨ad,e,k0,k1,k2,k3⟩
theorem LtrsAt.take {w:World} {L:Option Addr} {ls:List Ltr} (h:LtrsAt w L ls) (i:Nat) (hi:i≤ls.length):LtrsAt w L (ls.take i):=by
 have hl:(ls.take i).length=i:=(by simp;omega);refine ⟨⟨pG _,fun hn => ?_⟩,fun l hm=>h.2 l (List.mem_of_mem_take hm)⟩;obtain ⟨ad,e,hc⟩:=h.1.2 (by omega);refine ⟨ad,e,fun j u hj=>hc j u ?_⟩;have e2:g9 ls=g9 (ls.take i)++g9 (ls.drop i):=(by rw[←xX,aLK]);rw[e2,aLE (aLw.1 hj).1];exact hj
def o0 (l:List UInt8):Bool:=decide (∀b∈l,33≤b.toNat∧b.toNat≤126)&&decide (1≤l.length∧l.length≤4)
def BA (bs:List Bool) (W H:Nat):Bool:=decide (∃x,x<W∧lP bs W H x=0)
def eT (ht:Int) (prev:List (List UInt8)) (l:Ltr):Int:=
 aG [aF (!o0 l.text) 2,aF (decide (l.text∈prev)) 6,aD l.W l.H l.m,aF (l.H != ht) 11,aF (decide (64<l.W)) 4,aF (BA l.bs l.W.toNat l.H.toNat) 2]
def fJ (ht : Int) : List (List UInt8) → List Ltr → Int
 |_,[]=>0
 |prev,l :: ls=>if eT ht prev l=0 then fJ ht (prev++[l.text]) ls else eT ht prev l
def fY (ht gap sp:Int):Bool:=inB ht 1 64&&(inB gap 1 16&&inB sp 1 64)
def eV (nm:Bool) (ht gap sp:Int) (n:Nat):Int:=aG [aF (!nm) 5,aF (!fY ht gap sp) 3,aF (decide (sp≤gap)) 7,aF (decide (n=0)) 9,aF (decide (200<n)) 4]
def bN (nm:Bool) (ht gap sp:Int) (ls:List Ltr):Int:=if eV nm ht gap sp ls.length=0 then fJ ht [] ls else eV nm ht gap sp ls.length
theorem GY {ht:Int} {ls:List Ltr} {i:Nat} {l:Ltr} (h:ls[i]? = some l):fJ ht ((ls.take i).map Ltr.text) (ls.drop i)=if eT ht ((ls.take i).map Ltr.text) l=0 then fJ ht ((ls.take (i+1)).map Ltr.text) (ls.drop (i+1)) else eT ht ((ls.take i).map Ltr.text) l:=by
 have hlt:i<ls.length:=(aLw.1 h).1;have e:ls.drop i=l :: ls.drop (i+1):=by
  rw[aL7 hlt]
  congr 1
  exact (aLw.1 h).2
 have e2:ls.take (i+1)=ls.take i++[l]:=(by rw[aMc,h];rfl);rw[e,e2,aLS];rfl
theorem LH (xs ys:List Int) (hl:xs.length=ys.length) (h:∀j,j<xs.length→xs[j]? = ys[j]?):xs=ys:=by
 apply List.ext_getElem?;intro i;rcases Nat.lt_or_ge i xs.length with hi|hi
 ·exact h i hi
 ·rw[aL5 hi,aL5 (by omega)]
theorem EK (A B:Option Addr) (c d:Nat) (xs ys:List Int) (w:World) (hx:Reads w 1 A xs.length (xs.map (.int .i64))) (hy:Reads w 1 B ys.length (ys.map (.int .i64))) (hl:xs.length≤1099511627776) :
 Calls Tryz.prog 22 #[.slice A xs.length c,.slice B ys.length d] w fun e w'=>e=.returned (.bool (decide (xs=ys)))∧Bl w w':=by
 by_cases cL:xs.length=ys.length
 ·have hne:((xs.length:Int) != (ys.length:Int))=false:=(by simp[cL]);have aFO:(xs.length != ys.length)=false:=(by simp[cL]);have aD9:=aLa cL;clear cL
  go_in
  go_wp2
  go_loopw [13] (fun v wr=>∃k:Nat,k≤xs.length∧v=.int .i64 k∧Hid (∀j,j<k→xs[j]? = ys[j]?)∧Bl w wr) (fun v _=>xs.length-(intOf v).toNat);case atStart=>exact ⟨0,Nat.zero_le _,rfl,fun j hj=>absurd hj (by omega),Bl.refl _⟩
  case round=>
   obtain ⟨k,hk,rfl,hz,hbr⟩:=hrel;by_cases hlt:k<xs.length
   ·have aGI:k<ys.length:=(by have:=aD9.out;omega);obtain ⟨ad,u,rfl,hu,hc⟩:=(hx.bl hbr).at_ hlt;obtain ⟨bd,t,rfl,ht,hd⟩:=(hy.bl hbr).at_ aGI;have hu':u=.int .i64 xs[k]:=(by simpa [hlt] using hu.symm);have ht':t=.int .i64 ys[k]:=(by simpa [aGI] using ht.symm);subst hu' ht';have Hx:=aLa hx;have Hy:=aLa hy;clear hx hy hu ht;have i1:(k:Int)<(xs.length:Int):=(by omega);have i2:(k:Int)<(ys.length:Int):=(by omega);by_cases h0:xs[k]=ys[k]
    ·have hb:(xs[k] != ys[k])=false:=(by simp[h0]);have hzz:Hid (∀j,j<k+1→xs[j]? = ys[j]?):=fun j hj=>by
      rcases Nat.lt_or_ge j k with h|h
      ·exact hz.out j h
      ·obtain rfl:j=k:=(by omega);simp[hlt,aGI,h0]
     have H0:=aLa h0;clear h0
     go_wp2
     refine aLs [aLq 0,aLq 1,aLq 2,aLq 3,aLq 4,aLq 5,aLq 6,aLq 7,aLq 8] (by kernel_rfl) ?_
     iterate 2
      apply Flow.mv _ rfl
      ·intro a b;simp only[sqA,Act.eval,sqC];exact b
     iterate 2
      apply Flow.calm2 _ _ rfl rfl
      ·intro a b c d;obtain ⟨e,f⟩:=b.rule;go_simp;(try go_ints);exact d
      ·intro a b;simp only[sqA];exact b
     iterate 2
      apply Flow.mv _ rfl
      ·intro a b;simp only[sqA,Act.eval,sqC];exact b
     iterate 3
      apply Flow.calm2 _ _ rfl rfl
      ·intro a b c d;obtain ⟨e,f⟩:=b.rule;go_simp;(try go_ints);exact d
      ·intro a b;simp only[sqA];exact b
     refine Flow.done ?_
     go_wp2
     exact ⟨⟨k+1,hlt,by go_num,hzz,hbr.drew⟩,by simp[intOf];omega⟩
    ·have hb:(xs[k] != ys[k])=true:=(by simp[h0]);have hf:¬xs=ys:=fun e=>h0 (by subst e;rfl);have H0:=aLa hf;clear h0 hf
     go_wp2
     refine aLs [aLq 0,aLq 1,aLq 2,aLq 3,aLq 4,aLq 5,aLq 6,aLq 7,aLq 8] (by kernel_rfl) ?_
     iterate 2
      apply Flow.mv _ rfl
      ·intro a b;simp only[sqA,Act.eval,sqC];exact b
     iterate 2
      apply Flow.calm2 _ _ rfl rfl
      ·intro a b c d;obtain ⟨e,f⟩:=b.rule;go_simp;(try go_ints);exact d
      ·intro a b;simp only[sqA];exact b
     iterate 2
      apply Flow.mv _ rfl
      ·intro a b;simp only[sqA,Act.eval,sqC];exact b
     iterate 3
      apply Flow.calm2 _ _ rfl rfl
      ·intro a b c d;obtain ⟨e,f⟩:=b.rule;go_simp;(try go_ints);exact d
      ·intro a b;simp only[sqA];exact b
     refine Flow.done ?_
     go_wp2
     go_ret;exact ⟨cD (by simp[H0.out]),hbr.drew⟩
   ·have hf:xs=ys:=LH xs ys aD9.out (fun j hj=>hz.out j (by omega));have Hf:=aLa hf;clear hf;have Hx:=aLa hx;have Hy:=aLa hy;clear hx hy
    go_wp2
    go_ret;exact ⟨cD (by simp[Hf.out]),hbr⟩
 ·have hne:((xs.length:Int) != (ys.length:Int))=true:=(by simp;omega);have aFO:(xs.length != ys.length)=true:=(by simp;omega);have hf:¬xs=ys:=fun e=>cL (by subst e;rfl);have Hf:=aLa hf;clear cL hx hy hf
  go_in
  go_wp2
  go_ret;exact ⟨cD (by simp[Hf.out]),Bl.refl _⟩
theorem G0 (W H:Int) (w:World) (hs:aE W H≠0) :
 Calls Tryz.prog 34 #[W,H] w fun e w'=>
  e=.returned (.tuple #[.agg #[.int .i64 0,.int .i64 0,.slice none 0 0],.int .i64 (aE W H)])∧Bl w w':=by
 have hq:(aE W H != 0)=true:=(by simp[hs]);clear hs
 go_in
 go_wp2_with (go_at_call 102;refine (d9 _ _ _).mono ?_;rintro e w1 ⟨rfl,rfl⟩);refine aL0 (v:=.tuple #[.agg #[.int .i64 0,.int .i64 0,.slice none 0 0],.int .i64 (aE W H)]) (by simp[results,Tryz.results34,go_sem]) rfl ⟨rfl,?_⟩
 repeat' (first|exact Bl.refl _|refine Bl.drew ?_|refine Bl.setCell ?_ (by simp) _|refine Bl.alloc ?_ _)
def TabRes (w:World) (err:Int) (N:Nat) (f:Nat→Int) (P:Option Addr) (m:Nat):Prop:=
 (err=0→m=N∧Reads w 1 P m ((ZS m f).map (.int .i64)))∧(err≠0→m=0∧P=none)
theorem TabRes.bl {w w':World} {err:Int} {N:Nat} {f:Nat→Int} {P:Option Addr} {m:Nat} (h:TabRes w err N f P m) (hb:Bl w w'):TabRes w' err N f P m:=
 ⟨fun e=>⟨(h.1 e).1,(h.1 e).2.bl hb⟩,h.2⟩
def aCG (bs:List Bool) (W H k:Nat):Int:=((lP bs W H k:Nat):Int)
theorem LI (W H : Nat) (A : Option Addr) (ac : Nat) (bs : List Bool) (many : Nat) (num : Nat → Nat) (kf : FuncId) (cap : Array Value) (w : World) (hA : Reads w 1 A (W * H) (bs.map .bool)) (hbd : W * H ≤ 1048576) (aDD : many ≤ 4000)
 (aEQ:∀args w,(callFunc kf args).run Tryz.prog w=.ok (.enter kf args) w)
 (aCo:∀wx (i:Nat),Bl w wx→i<W*H→Calls Tryz.prog kf (#[.int .i64 i]++cap) wx fun e w'=>e=.returned (.int .i64 ((num i:Nat):Int))∧Bl wx w') (hlt:∀i,i<W*H→num i<many) :
 Calls Tryz.prog 234 #[.agg #[W,H,.slice A (W*H) ac],many,.func (.func kf) #[] cap] w fun e w'=>
  ∃g,e=.returned (.slice (some ⟨g,0,none⟩) many many)∧w.heap.size≤g∧Blk w' g 3 (vK many fun k=>((rT bs num (W*H) k:Nat):Int))∧Bl w w':=by
 let w2:=(w).alloc (.cells #[W,H,.slice A (W*H) ac] 43);obtain ⟨w2b,w21⟩:=aLh (x:=w2) w _ _ rfl;have k1:=w21.all3;have lw2:w2.heap.size=w.heap.size+1:=(by simp[w2]);have hmk:=run_make_row' (P:=Tryz.prog) 47 3 (.int .i64 0) 8 Tryz.underlying47 sR rfl .i64 .i64 many (by omega) (by omega);rw[U1] at hmk;obtain ⟨HA,aJw,Hlt⟩:=aLb hA aCo hlt;have start:Blk (w2.alloc (.cells (vK many fun _=>0) 3)) (w.heap.size+1) 3 (vK many fun k=>((rT bs num 0 k:Nat):Int)):=by
  have:=Blk.new w2 3 (vK many fun _=>0);rw[lw2] at this;exact this
 have Start:=aLa start;clear hA aCo hlt start
 go_in
 go_wp2_with fail;go_loopw [15] (fun u wr=>∃i:Nat,i≤W*H∧u=.int .i64 i∧Bl w2 wr∧Blk wr (w.heap.size+1) 3 (vK many fun k=>((rT bs num i k:Nat):Int))) (fun u _=>W*H-(intOf u).toNat);case atStart=>exact ⟨0,Nat.zero_le _,rfl,(Bl.refl _).alloc _,Start.out⟩
 case round=>
  clear k1;obtain ⟨i,hi,rfl,hbr,hbo⟩:=hrel;have k1:=(w21.bl hbr).all3;by_cases hlt:i<W*H
  ·have il:(i:Int)<(W:Int)*(H:Int):=(by have:=aL9 W H;omega);obtain ⟨ad,ua,eA,hu,hca⟩:=(HA.out.bl (w2b.trans hbr)).at_ hlt;have hua:ua=.bool (bs.getD i false):=by
    simp only[aLG,Option.map_eq_some_iff] at hu;obtain ⟨b,hb1,hb2⟩:=hu;rw[←hb2,List.getD,hb1];rfl
   clear hu;subst hua eA;have hst:=fun k=>QU bs num i k;have hle:=fun k=>aAd bs num i k;have hn:=Hlt.out i hlt;have dF:=fun wx h=>aJw.out wx i (w2b.trans h) hlt;obtain ⟨va,hva⟩:=aLt (bs.getD i false);obtain ⟨a,ha⟩:=aLt (num i);rw[←ha] at hn;simp only[←ha] at dF hst;simp only[←hva] at hst hca;obtain ⟨Hst,Hle,m8⟩:=aLb hst hle dF;clear hst hle dF hva ha;cases va
   ·have ZE:vK many (fun k=>((rT bs num i k:Nat):Int))=vK many (fun k=>((rT bs num (i+1) k:Nat):Int)):=
     CF fun k _=>by rw[Hst.out k];simp[b1]
    rw[ZE] at hbo;clear ZE;go_wp2_with fail;exact ⟨⟨i+1,hlt,by go_num,hbr,hbo⟩,by simp[intOf];omega⟩
   ·go_wp2_with fail;refine (m8.out _ hbr).mono ?_;rintro e w4 ⟨rfl,hb4⟩;have aJx:=hbr.trans hb4;have aGJ:=hbo.bl hb4;have kc:=aGJ.tabAt hn;have kf:=aGJ.frozen a;have GO:=aGJ.tabSet (f':=fun k=>((rT bs num (i+1) k:Nat):Int)) a (((rT bs num i a:Nat):Int)+1) (fun k hk=>by
     rw[Hst.out k];by_cases e:k=a
     ·subst e;simp[b1]
     ·have:¬(a=k):=fun h=>e h.symm;simp[e,this,b1])
    have hcb:=Hle.out a;obtain ⟨c,hc⟩:=aLt (rT bs num i a);rw[←hc] at kc GO hcb;have aER:=aLa GO;clear GO hc k1;go_wp2_with fail;exact ⟨⟨i+1,hlt,by go_num,aJx.setCell (by simp;omega) _,aER.out⟩,by simp[intOf];omega⟩
  ·obtain rfl:i=W*H:=(by omega);go_wp2_with fail;go_ret;exact ⟨_,rfl,by omega,hbo,w2b.trans hbr⟩
theorem G1 (p W:Nat) (H:Int) (v:Value) (i:Nat) (w:World) (hp:Blk w p 43 #[W,H,v]) (hW:1≤W∧W≤4000) (hi:i≤1048576) :
 Calls Tryz.prog 235 #[i,.pointer (some ⟨p,0,none⟩)] w fun e w'=>e=.returned (.int .i64 ((i % W:Nat):Int))∧Bl w w':=by
 have kp:=hp.all3;have hWp:¬(W=0):=(by omega);obtain ⟨q,hq⟩:=aLt (i % W);have e1:(i:Int) % (W:Int)=(q:Int):=(by rw[hq];simp);have e2:=hq.symm;have hqb:q≤i:=(by rw[hq];first|exact Nat.div_le_self _ _|exact Nat.mod_le _ _);rw[←hq];clear hq
 go_in
 go_wp2_with fail;go_ret;exact ⟨by first|rfl|exact gB e1,Bl.refl _⟩
theorem xZ (W H:Int) (A:Option Addr) (an ac:Nat) (bs:List Bool) (w:World) (hA:Reads w 1 A an (bs.map .bool)) :
 Calls Tryz.prog 178 #[.agg #[W,H,.slice A an ac]] w fun e w'=>
  ∃P m c,e=.returned (.tuple #[.slice P m c,.int .i64 (aD W H an)])∧TabRes w' (aD W H an) W.toNat (aCG bs W.toNat H.toNat) P m∧Bl w w':=by
 let w2:=(w).alloc (.cells #[W,H,.slice A an ac] 43);obtain ⟨w2b,w21⟩:=aLh (x:=w2) w _ _ rfl;have k1:=w21.all3;by_cases hp:aD W H an=0
 ·have hz:=aL (fC hp).1;have Hp:=aLa hp;obtain ⟨W,H,rfl,rfl,rfl,u1,u2,u3⟩:=fG hp;have hW:1≤W∧W≤4000:=(by omega);have HA:=aLa (hA.bl w2b);clear hz hA;have ent:=pD Tryz.func235 (by kernel_rfl) rfl
  go_in
  go_wp2_with fail;refine (bM _ _ _ _ _ _).mono ?_;rintro e w3 ⟨rfl,hb3⟩;have k3:=(w21.bl hb3).all3;clear k1;go_wp2_with fail
  refine (LI W H A ac bs W (fun i => i % W) 235 #[.pointer (some ⟨w.heap.size, 0, none⟩)] _ (HA.out.bl hb3) u3 (by omega) ent
   (fun wx i hb hi=>G1 _ W H _ i wx ((w21.bl hb3).bl hb) hW (by omega)) (fun i hi=>(eK hi).1)).mono ?_
  rintro e w4 ⟨g,rfl,hg,hbk,hb4⟩;have e:vK W (fun k=>((rT bs (fun i=>i % W) (W*H) k:Nat):Int))=vK W (aCG bs W H):=CF fun k hk=>(by rw[QV bs W H k hk];rfl);rw[e] at hbk;have hp:=Hp.out;go_wp2_with fail;refine aL0 (v:=.tuple #[.slice (some ⟨g,0,none⟩) W W,.int .i64 0]) (by simp[results,Tryz.results178,go_sem]) rfl ⟨_,_,_,by rw[hp],⟨fun _=>⟨by simp,?_⟩,fun h=>absurd hp h⟩,(w2b.trans hb3).trans hb4⟩;simpa using hbk.tabReads
 ·have hq:(aD W H an != 0)=true:=(by simp[hp]);have Hp:=aLa hp;clear hp
  go_in
  go_wp2_with fail;refine (bM _ _ _ _ _ _).mono ?_;rintro e w3 ⟨rfl,hb3⟩;go_wp2_with fail;refine aL0 (v:=.tuple #[.slice none 0 0,.int .i64 (aD W H an)]) (by simp[results,Tryz.results178,go_sem]) rfl ⟨_,_,_,rfl,⟨fun h=>absurd h Hp.out,fun _=>⟨rfl,rfl⟩⟩,w2b.trans hb3⟩
theorem bA {es:List Int} (h:aG es=0):∀e∈es,e=0:=by
 induction es with
 |nil=>intro e he;cases he
 |cons x es ih=>
  have h':(if x=0 then aG es else x)=0:=h;by_cases h0:x=0
  ·rw[if_pos h0] at h';intro e he;rcases aLN.1 he with rfl|he
   ·exact h0
   ·exact ih h' e he
  ·rw[if_neg h0] at h';exact absurd h' h0
theorem gK {b:Bool} {n:Int} (h:aF b n=0) (hn:n≠0):b=false:=by
 cases b
 ·rfl
 ·exact absurd h hn
theorem G2 {ht:Int} {ls:List Ltr}:∀{prev:List (List UInt8)},fJ ht prev ls=0→∀l∈ls,o0 l.text=true∧aD l.W l.H l.m=0∧l.H=ht∧l.W≤64:=by
 induction ls with
 |nil=>intro prev _ l hl;cases hl
 |cons x ls ih=>
  intro prev h l hl;have h':(if eT ht prev x=0 then fJ ht (prev++[x.text]) ls else eT ht prev x)=0:=h;by_cases h0:eT ht prev x=0
  ·rw[if_pos h0] at h';rcases aLN.1 hl with rfl|hl
   ·have hz:=bA h0;have k1:=gK (hz _ (by simp:aF (!o0 l.text) 2∈_)) (by decide);have k2:=hz (aD l.W l.H l.m) (by simp);have k3:=gK (hz (aF (l.H != ht) 11) (by simp)) (by decide);have k4:=gK (hz (aF (decide (64<l.W)) 4) (by simp)) (by decide);refine ⟨by simpa using k1,k2,by simpa using k3,?_⟩;have:=of_decide_eq_false k4;omega
   ·exact ih h' l hl
  ·rw[if_neg h0] at h';exact absurd h' h0
theorem kD {nm:Bool} {ht gap sp:Int} {ls:List Ltr} (h:bN nm ht gap sp ls=0):(nm=true∧fY ht gap sp=true∧gap<sp∧ls.length≠0∧ls.length≤200∧1≤ht∧ht≤64)∧∀l∈ls,o0 l.text=true∧aD l.W l.H l.m=0∧l.H=ht∧l.W≤64:=by
 have h':(if eV nm ht gap sp ls.length=0 then fJ ht [] ls else eV nm ht gap sp ls.length)=0:=h;by_cases h0:eV nm ht gap sp ls.length=0
 ·rw[if_pos h0] at h';refine ⟨?_,G2 h'⟩;have hz:=bA h0;have k1:=gK (hz (aF (!nm) 5) (by simp)) (by decide);have k2:=gK (hz (aF (!fY ht gap sp) 3) (by simp)) (by decide);have k3:=of_decide_eq_false (gK (hz (aF (decide (sp≤gap)) 7) (by simp)) (by decide));have k4:=of_decide_eq_false (gK (hz (aF (decide (ls.length=0)) 9) (by simp)) (by decide));have k5:=of_decide_eq_false (gK (hz (aF (decide (200<ls.length)) 4) (by simp)) (by decide));have k2':fY ht gap sp=true:=(by simpa using k2);have k6:inB ht 1 64=true:=by
   unfold fY at k2';simp only[aLV] at k2';exact k2'.1
  have k7:=aR.1 k6;exact ⟨by simpa using k1,k2',by omega,k4,by omega,k7.1,k7.2⟩
 ·rw[if_neg h0] at h';exact absurd h' h0
def eX (X Y BW BH W H:Int):Bool:=decide (0≤X∧X<W∧0≤Y∧Y<H∧1≤BW∧BW≤W-X∧1≤BH∧BH≤H-Y)
theorem nB (X Y BW BH:Int) (W H:Nat) (w:World) (hW:1≤W∧W≤4000) (hH:1≤H∧H≤4000) :
 Calls Tryz.prog 161 #[.agg #[X,Y,BW,BH],W,H] w fun e w'=>e=.returned (.int .i64 (aF (!eX X Y BW BH W H) 13))∧Bl w w':=by
 by_cases gA:0≤X∧X<W∧0≤Y∧Y<H∧1≤BW∧BW≤W-X∧1≤BH∧BH≤H-Y
 ·have e:eX X Y BW BH W H=true:=(by unfold eX;exact aLX gA);rw[e];clear e;obtain ⟨c1,c2,c3,c4,c5,c6,c7,c8⟩:=gA
  go_in
  go_wp2_with fail;go_ret;exact ⟨rfl,(Bl.refl _).alloc _⟩
 ·have e:eX X Y BW BH W H=false:=(by unfold eX;exact aLW gA);rw[e];clear e
  rcases (show BW < 1 ∨ (¬ BW < 1 ∧ BH < 1) ∨ (¬ BW < 1 ∧ ¬ BH < 1 ∧ X < 0) ∨ (¬ BW < 1 ∧ ¬ BH < 1 ∧ ¬ X < 0 ∧ Y < 0) ∨ (¬ BW < 1 ∧ ¬ BH < 1 ∧ ¬ X < 0 ∧ ¬ Y < 0 ∧ (W : Int) ≤ X) ∨ (¬ BW < 1 ∧ ¬ BH < 1 ∧ ¬ X < 0 ∧ ¬ Y < 0 ∧ ¬ (W : Int) ≤ X ∧ (H : Int) ≤ Y) ∨
   (¬BW<1∧¬BH<1∧¬X<0∧¬Y<0∧¬(W:Int)≤X∧¬(H:Int)≤Y∧(W:Int)-X<BW)∨(¬BW<1∧¬BH<1∧¬X<0∧¬Y<0∧¬(W:Int)≤X∧¬(H:Int)≤Y∧¬(W:Int)-X<BW∧(H:Int)-Y<BH) by omega) with
   c1|⟨c1,c2⟩|⟨c1,c2,c3⟩|⟨c1,c2,c3,c4⟩|⟨c1,c2,c3,c4,c5⟩|⟨c1,c2,c3,c4,c5,c6⟩|⟨c1,c2,c3,c4,c5,c6,c7⟩|⟨c1,c2,c3,c4,c5,c6,c7,c8⟩
  all_goals
   clear gA
   go_in
   go_wp2_with fail;go_ret;exact ⟨rfl,(Bl.refl _).alloc _⟩
def fO (W H:Int) (n:Nat) (X Y BW BH:Int):Int:=aG [aD W H n,aF (!eX X Y BW BH W H) 13]
theorem x7 {W H:Int} {n:Nat} {X Y BW BH:Int} (h:fO W H n X Y BW BH=0):aD W H n=0∧0≤X∧X<W∧0≤Y∧Y<H∧1≤BW∧BW≤W-X∧1≤BH∧BH≤H-Y:=by
 unfold fO aG at h;split at h
 ·rename_i h0
  refine ⟨h0,?_⟩;cases hi:eX X Y BW BH W H
  ·rw[hi] at h;simp[aG,aF] at h
  ·exact aLY hi
 ·contradiction
theorem nU (W H:Int) (A:Option Addr) (an ac:Nat) (X Y BW BH:Int) (w:World) :
 Calls Tryz.prog 179 #[.agg #[W,H,.slice A an ac],.agg #[X,Y,BW,BH]] w fun e w'=>e=.returned (.int .i64 (fO W H an X Y BW BH))∧Bl w w':=by
 let w2:=((w).alloc (.cells #[W,H,.slice A an ac] 43)).alloc (.cells #[X,Y,BW,BH] 58);obtain ⟨w2b,w21,w22⟩:=aLi (x:=w2) w _ _ _ _ rfl;have k1:=w21.all3;by_cases hp:aD W H an=0
 ·have e:fO W H an X Y BW BH=aF (!eX X Y BW BH W H) 13:=by
   unfold fO;simp only[aG,if_pos hp];split<;>simp_all
  rw[e];clear e;have hz:=aL (fC hp).1;obtain ⟨W,H,rfl,rfl,rfl,u1,u2,u3⟩:=fG hp;have hW:1≤W∧W≤4000:=(by omega);have hH:1≤H∧H≤4000:=(by omega);clear hz
  go_in
  go_wp2_with fail;refine (bM _ _ _ _ _ _).mono ?_;rintro e w3 ⟨rfl,hb3⟩;have k3:=(w21.bl hb3).all3;have k4:=(w22.bl hb3).all4;clear k1;go_wp2_with fail;refine (nB X Y BW BH W H _ hW hH).mono ?_;rintro e w4 ⟨rfl,hb4⟩;go_wp2_with fail;go_ret;exact ⟨rfl,(w2b.trans hb3).trans hb4⟩
 ·have e:fO W H an X Y BW BH=aD W H an:=(by unfold fO;simp only[aG,if_neg hp]);have hq:(aD W H an != 0)=true:=(by simp[hp]);rw[e];clear e hp
  go_in
  go_wp2_with fail;refine (bM _ _ _ _ _ _).mono ?_;rintro e w3 ⟨rfl,hb3⟩;go_wp2_with fail;go_ret;exact ⟨rfl,w2b.trans hb3⟩
def kR (bs:List Bool) (W X Y x y:Nat):Bool:=pix bs W (X+x) (Y+y)
theorem N9 (p q W H X Y BW BH : Nat) (A : Option Addr) (ac : Nat) (bs : List Bool) (x y : Nat) (w : World) (hp : Blk w p 43 #[W, H, .slice A (W * H) ac]) (hq : Blk w q 58 #[X, Y, BW, BH])
 (hA:Reads w 1 A (W*H) (bs.map .bool)) (hW:W≤4000) (hH:H≤4000) (hx:x<BW) (hy:y<BH) (hX:X+BW≤W) (hY:Y+BH≤H) :
 Calls Tryz.prog 180 #[x,y,.pointer (some ⟨p,0,none⟩),.pointer (some ⟨q,0,none⟩)] w fun e w'=>e=.returned (.bool (kR bs W X Y x y))∧Bl w w':=by
 have kp:=hp.all3;have kq:=hq.all4;have lx:X+x<W:=(by omega);have ly:Y+y<H:=(by omega);obtain ⟨ad,rfl,hc⟩:=hA.place lx ly;have hk:=eD lx ly;obtain ⟨k,hkk⟩:=aLt ((Y+y)*W+(X+x));rw[←hkk] at hc hk;have f0:=aL9 (Y+y) W;have f1:((Y:Int)+(y:Int))*(W:Int)+(X:Int)+(x:Int)=(k:Int):=(by rw[hkk];push_cast;omega);have f2:(k:Int)<(W:Int)*(H:Int):=(by have:=aL9 W H;omega);have f3:(0:Int)≤((Y:Int)+(y:Int))*(W:Int)∧((Y:Int)+(y:Int))*(W:Int)≤16000000:=by
  have:=aMa (show Y+y≤4000 by omega) hW
  push_cast at f0
  omega
 unfold kR;obtain ⟨v,hv⟩:=aLt (pix bs W (X+x) (Y+y));rw[←hv] at hc ⊢;have Hkk:=aLa hkk;clear hv hkk hA f0
 go_in
 go_wp2_with fail;go_ret;exact ⟨rfl,by first|exact Bl.refl _|exact (Bl.refl _).drew⟩
theorem U5 (W H:Int) (A:Option Addr) (an ac:Nat) (bs:List Bool) (X Y BW BH:Int) (w:World) (hA:Reads w 1 A an (bs.map .bool)) :
 Calls Tryz.prog 138 #[.agg #[W, H, .slice A an ac], .agg #[X, Y, BW, BH]] w fun e w' => ∃ a b R m d, e = .returned (.tuple #[.agg #[.int .i64 a, .int .i64 b, .slice R m d], .int .i64 (fO W H an X Y BW BH)]) ∧
  Res w.heap.size w' (fO W H an X Y BW BH) BW.toNat BH.toNat ((eS BW.toNat BH.toNat (kR bs W.toNat X.toNat Y.toNat)).map .bool) a b R m d∧Bl w w':=by
 by_cases he:fO W H an X Y BW BH=0
 ·obtain ⟨hp,c1,c2,c3,c4,c5,c6,c7,c8⟩:=x7 he;obtain ⟨W,H,rfl,rfl,rfl,u1,u2,u3⟩:=fG hp;obtain ⟨X,rfl⟩:=Int.eq_ofNat_of_zero_le c1;obtain ⟨Y,rfl⟩:=Int.eq_ofNat_of_zero_le c3;obtain ⟨BW,rfl⟩:=Int.eq_ofNat_of_zero_le (show 0≤BW by omega);obtain ⟨BH,rfl⟩:=Int.eq_ofNat_of_zero_le (show 0≤BH by omega);have hX:X+BW≤W:=(by omega);have hY:Y+BH≤H:=(by omega);have hsz:BW*BH≤1048576:=aMb (aMa (show BW≤W by omega) (show BH≤H by omega)) u3;simp only[aL8];clear c1 c2 c3 c4 c5 c6 c7 c8 hp;let w2:=(((w).alloc (.cells #[W,H,.slice A (W*H) ac] 43)).alloc (.cells #[X,Y,BW,BH] 58)).alloc (.cells #[.int .i64 0,.int .i64 0,.slice none 0 0] 43);obtain ⟨w2b,w21,w22,w23⟩:=aLj (x:=w2) w _ _ _ _ _ _ rfl;have k1:=w21.all3;have k2:=w22.all4;have hA2:=hA.bl w2b;have HA:=aLa hA2;clear hA hA2
  go_in
  go_wp2_with fail;refine (nU _ _ _ _ _ _ _ _ _ _).mono ?_;rintro e w3 ⟨rfl,hb3⟩;have k1:=(w21.bl hb3).all3;have k2:=(w22.bl hb3).all4;have hle:=w2b.trans hb3;have hP:Paints Tryz.prog 180 #[.pointer (some ⟨w.heap.size,0,none⟩),.pointer (some ⟨w.heap.size+1,0,none⟩)] Value.bool w3 BW BH (kR bs W X Y):=
   ⟨pD Tryz.func180 (by kernel_rfl) rfl,fun wx x y hb hx hy=>N9 _ _ W H X Y BW BH A ac bs x y wx ((w21.bl hb3).bl hb) ((w22.bl hb3).bl hb) ((HA.out.bl hb3).bl hb) u1 u2 hx hy hX hY⟩
  have HP:=aLa hP;clear hP;go_wp2_with fail;refine (Z7 BW BH _ _ _ _ (by omega) (by omega) hsz HP.out).mono ?_;rintro e w6 ⟨r,rfl,hpg,hb6⟩;have k3:=(w23.bl (hb3.trans hb6)).all3;have aFP:=hle.trans hb6;have aJy:=(w23.bl hb3).lt;obtain ⟨R,rc,rfl,hR,hRn⟩:=hpg;have aES:∀ad,R=some ad→w.heap.size+3≤ad.block:=fun ad h=>(by have:=hRn ad h;omega);have HR:=aLa hR;have HRn:=aLa aES;clear hR hRn aES;go_wp2_with fail;refine aL0 (v:=.tuple #[.agg #[BW,BH,.slice R (BW*BH) rc],.int .i64 0]) (by simp[results,Tryz.results138,go_sem,k3]) rfl ⟨_,_,R,_,rc,by rw[he],Res.page he ?_ (fun ad h=>by have:=HRn.out ad h;omega),?_⟩
  ·exact ((HR.out.store HRn.out (by simp) _).store HRn.out (by simp) _).store HRn.out (by simp) _
  ·exact (((aFP.setCell (by simp;omega) _).setCell (by simp;omega) _).setCell (by simp;omega) _)
 ·have hq:(fO W H an X Y BW BH != 0)=true:=(by simp[he]);have He:=aLa he;clear he hA;let w2:=(((w).alloc (.cells #[W,H,.slice A an ac] 43)).alloc (.cells #[X,Y,BW,BH] 58)).alloc (.cells #[.int .i64 0,.int .i64 0,.slice none 0 0] 43);obtain ⟨w2b,w21,w22,w23⟩:=aLj (x:=w2) w _ _ _ _ _ _ rfl;have k1:=w21.all3;have k2:=w22.all4
  go_in
  go_wp2_with fail;refine (nU _ _ _ _ _ _ _ _ _ _).mono ?_;rintro e w3 ⟨rfl,hb3⟩;have k3:=(w23.bl hb3).all3;go_wp2_with fail;refine aL0 (v:=.tuple #[.agg #[.int .i64 0,.int .i64 0,.slice none 0 0],.int .i64 (fO W H an X Y BW BH)]) (by simp[results,Tryz.results138,go_sem,k3]) rfl ⟨_,_,_,_,_,rfl,Res.zero _ _ _ _ _ He.out,?_⟩;exact ((((w2b.trans hb3).setCell (by simp;omega) _).setCell (by simp;omega) _).setCell (by simp;omega) _)
theorem aCH (W H:Int) (A:Option Addr) (an ac:Nat) (bs:List Bool) (X Y BW BH:Int) (w:World) (hA:Reads w 1 A an (bs.map .bool)) :
 Calls Tryz.prog 135 #[.agg #[W, H, .slice A an ac], .agg #[X, Y, BW, BH]] w fun e w' => ∃ n : Nat, e = .returned (.tuple #[.int .i64 n, .int .i64 (fO W H an X Y BW BH)]) ∧
  (fO W H an X Y BW BH≠0→n=0)∧(fO W H an X Y BW BH=0→n=U4 bs W.toNat X.toNat Y.toNat BW.toNat BH.toNat)∧Bl w w':=by
 let w2:=((w).alloc (.cells #[W,H,.slice A an ac] 43)).alloc (.cells #[X,Y,BW,BH] 58);obtain ⟨w2b,w21,w22⟩:=aLi (x:=w2) w _ _ _ _ rfl;have k1:=w21.all3;have k2:=w22.all4;have hA2:=hA.bl w2b;have HA:=aLa hA2;clear hA hA2
 go_in
 go_wp2_with fail;refine (U5 W H A an ac bs X Y BW BH _ HA.out).mono ?_;rintro e w3 ⟨a,b,R,m,d,rfl,lQ,hb3⟩;have aGK:∃xs:List Bool,Reads w3 1 R m (xs.map .bool)∧m≤1048576∧(fO W H an X Y BW BH≠0→m=0)∧(fO W H an X Y BW BH=0→lC (fun i=>b1 (xs.getD i false)) m=U4 bs W.toNat X.toNat Y.toNat BW.toNat BH.toNat):=by
  by_cases he:fO W H an X Y BW BH=0
  ·obtain ⟨R',c',e',hr,_⟩:=lQ.1 he;simp only[Value.agg.injEq,List.cons.injEq,Value.slice.injEq,and_true,Array.mk.injEq] at e';obtain ⟨_,_,rfl,rfl,rfl⟩:=e';obtain ⟨hp,c1,c2,c3,c4,c5,c6,c7,c8⟩:=x7 he;obtain ⟨W,H,rfl,rfl,rfl,u1,u2,u3⟩:=fG hp;refine ⟨_,hr,?_,fun h=>absurd he h,fun _ => ?_⟩
   ·exact aMb (aMa (show BW.toNat≤W by omega) (show BH.toNat≤H by omega)) u3
   ·rw[aAe];rfl
  ·obtain ⟨_,_,rfl,rfl,_⟩:=lQ.2 he;exact ⟨[],Reads.none_,by omega,fun _=>rfl,fun h=>absurd h he⟩
 obtain ⟨xs,hxs,hm,hz1,hz2⟩:=aGK;have b3:=Blk.new w3 43 #[a,b,.slice R m d];have hb4:Bl w2 (w3.alloc (.cells #[a,b,.slice R m d] 43)):=hb3.alloc _;have aH7:=hxs.bl ((Bl.refl w3).alloc (.cells #[a,b,.slice R m d] 43));obtain ⟨Hxs,Hz1,Hz2⟩:=aLb aH7 hz1 hz2;clear lQ hxs aH7 hz1 hz2 k1 k2;have k3:=b3.all3;go_wp2_with fail
 go_loop [8,20] (fun n u=>∃i:Nat,i≤m∧u=.int .i64 i∧n=.int .i64 ((lC (fun i=>b1 (xs.getD i false)) i:Nat):Int)) (fun _ u=>m-(intOf u).toNat)
 case atStart=>exact ⟨0,Nat.zero_le _,rfl,rfl⟩
 case round=>
  clear k3;obtain ⟨i,hi,rfl,rfl⟩:=hrel;by_cases hlt:i<m
  ·obtain ⟨ad,ua,eA,hu,hca⟩:=Hxs.out.at_ hlt;have hua:ua=.bool (xs.getD i false):=by
    simp only[aLG,Option.map_eq_some_iff] at hu;obtain ⟨b,hb1,hb2⟩:=hu;rw[←hb2,List.getD,hb1];rfl
   clear hu;subst hua eA;have hst:lC (fun i=>b1 (xs.getD i false)) (i+1)=lC (fun i=>b1 (xs.getD i false)) i+b1 (xs.getD i false):=rfl;have hle:lC (fun i=>b1 (xs.getD i false)) i≤i*1:=rR (fun _=>GX _) i;obtain ⟨n,hn⟩:=aLt (lC (fun i=>b1 (xs.getD i false)) i);obtain ⟨va,hva⟩:=aLt (xs.getD i false);rw[←hn] at hst hle ⊢;rw[←hva] at hst hca;have Hst:=aLa hst;clear hn hva hst;cases va
   all_goals
    go_wp2_with fail;exact ⟨⟨i+1,hlt,by go_num,by rw[Hst.out];simp[b1]⟩,by simp[intOf];omega⟩
  ·obtain rfl:i=m:=(by omega);go_wp2_with fail;refine aL0 (v:=.tuple #[.int .i64 ((lC (fun i=>b1 (xs.getD i false)) i:Nat):Int),.int .i64 (fO W H an X Y BW BH)]) (by simp[results,Tryz.results135,go_sem]) rfl ⟨_,rfl,fun h => ?_,Hz2.out,w2b.trans hb4⟩;rw[Hz1.out h];rfl
theorem uH (W H:Int) (A:Option Addr) (an ac:Nat) (bs:List Bool) (w:World) (hA:Reads w 1 A an (bs.map .bool)) :
 Calls Tryz.prog 33 #[.agg #[W,H,.slice A an ac]] w fun e w'=>
  ∃ X Y BW BH err, e = .returned (.tuple #[.agg #[.int .i64 X, .int .i64 Y, .int .i64 BW, .int .i64 BH], .int .i64 err]) ∧ (aD W H an ≠ 0 → err = aD W H an ∧ X = 0 ∧ Y = 0 ∧ BW = 0 ∧ BH = 0) ∧
   (aD W H an=0→∃is,BoundsIs bs W.toNat H.toNat is X Y BW BH∧err=aF (!is) 10)∧Bl w w':=by
 let w2:=((w).alloc (.cells #[W,H,.slice A an ac] 43)).alloc (.cells #[.int .i64 0,.int .i64 0,.int .i64 0,.int .i64 0] 58);obtain ⟨w2b,w21,w22⟩:=aLi (x:=w2) w _ _ _ _ rfl;have k1:=w21.all3;by_cases hp:aD W H an=0
 ·have Hp:=aLa hp;obtain ⟨W,H,rfl,rfl,rfl,u1,u2,u3⟩:=fG hp;have HA:=aLa (hA.bl w2b);have St:=aLa (BInv.start bs W H);clear hA
  go_in
  go_wp2_with fail;refine (bM _ _ _ _ _ _).mono ?_;rintro e w3 ⟨rfl,hb3⟩;have k3:=(w21.bl hb3).all3;clear k1;go_upto_region 4 with fail;refine aLs [aLq 0,aLq 1,aLq 2,aLq 3,aLq 4,aLq 5,aLq 6,aLq 7] (by kernel_rfl) ?_
  iterate 4
   apply Flow.calm2 _ _ rfl rfl
   ·intro a b c d;obtain ⟨e,f⟩:=b.rule;go_simp;(try go_ints);exact d
   ·intro a b;simp only[sqA];exact b
  iterate 4
   apply Flow.asg _ rfl
   ·intro a b;simp only[sqA,Act.eval,sqC];exact b
  refine Flow.done ?_;clear hp;go_wp2_with fail;go_loopw [5,6,7,8,26] (fun a b c d u wr=>∃(i:Nat) (l t r z:Int),i≤W*H∧u=.int .i64 i∧a=.int .i64 l∧b=.int .i64 t∧c=.int .i64 r∧d=.int .i64 z∧Hid (BInv bs W H i l t r z)∧Bl w3 wr) (fun _ _ _ _ u _=>W*H-(intOf u).toNat);case atStart=>exact ⟨0,_,_,_,_,Nat.zero_le _,rfl,rfl,rfl,rfl,rfl,St,(Bl.refl _).drew⟩
  case round=>
   clear k3;obtain ⟨i,l,t,r,z,hi,rfl,rfl,rfl,rfl,rfl,uD,hbr⟩:=hrel;have k3:=((w21.bl hb3).bl hbr).all3;by_cases hlt:i<W*H
   ·have hWp:¬(W=0):=(by rintro rfl;simp at hlt);have il:(i:Int)<(W:Int)*(H:Int):=(by have:=aL9 W H;omega);obtain ⟨ad,ua,eA,hu,hca⟩:=((HA.out.bl hb3).bl hbr).at_ hlt;have hua:ua=.bool (bs.getD i false):=by
     simp only[aLG,Option.map_eq_some_iff] at hu;obtain ⟨b,hb1,hb2⟩:=hu;rw[←hb2,List.getD,hb1];rfl
    clear hu;subst hua eA;cases hva:bs.getD i false
    ·have hn:=uD.out.no hva;have Hn:=aLa hn;rw[hva] at hca;clear hn hva uD;go_wp2_with fail;exact ⟨⟨i+1,_,_,_,_,hlt,by go_num,rfl,rfl,rfl,rfl,Hn,hbr⟩,by simp[intOf];omega⟩
    ·obtain ⟨mlt,dlt,_⟩:=eK hlt;have hy:=fun l' t' r' z' e1 e2 e3 e4=>uD.out.yes (l':=l') (t':=t') (r':=r') (b':=z') hva mlt dlt e1 e2 e3 e4;rw[hva] at hca;obtain ⟨xi,hxi⟩:=aLt (i % W);obtain ⟨yi,hyi⟩:=aLt (i / W);have e1:(i:Int) % (W:Int)=(xi:Int):=(by rw[hxi];simp);have e2:(i:Int) / (W:Int)=(yi:Int):=(by rw[hyi];simp);have e3:=hxi.symm;have e4:=hyi.symm;rw[←hxi] at mlt;rw[←hyi] at dlt;simp only[←hxi,←hyi] at hy;have hbd:=uD.out.bd hi;obtain ⟨l',hl'⟩:∃l',l'=if (xi:Int)<l then (xi:Int) else l:=⟨_,rfl⟩;obtain ⟨t',ht'⟩:∃t',t'=if (yi:Int)<t then (yi:Int) else t:=⟨_,rfl⟩;obtain ⟨r',hr'⟩:∃r',r'=if r<(xi:Int) then (xi:Int) else r:=⟨_,rfl⟩;obtain ⟨z',hz'⟩:∃z',z'=if z<(yi:Int) then (yi:Int) else z:=⟨_,rfl⟩;have Hn:=aLa (hy l' t' r' z' hl' ht' hr' hz');have f1:=hl'.symm;have f2:=ht'.symm;have f3:=hr'.symm;have f4:=hz'.symm;have g1:(if l<(xi:Int) then l else (xi:Int))=l':=(by rw[hl'];split<;>split<;>omega);have g2:(if t<(yi:Int) then t else (yi:Int))=t':=(by rw[ht'];split<;>split<;>omega);have g3:(if (xi:Int)<r then r else (xi:Int))=r':=(by rw[hr'];split<;>split<;>omega);have g4:(if (yi:Int)<z then z else (yi:Int))=z':=(by rw[hz'];split<;>split<;>omega);clear hxi hyi hy uD hva hl' ht' hr' hz';go_upto_region 9 with fail;refine aLs [aLq 0,aLq 1,aLq 2,aLq 3,aLq 4,aLq 5,aLq 6,aLq 7,aLq 8,aLq 9] (by kernel_rfl) ?_
     iterate 2
      apply Flow.mv _ rfl
      ·intro a b;simp only[sqA,Act.eval,sqC];exact b
      iterate 3
       apply Flow.calm2 _ _ rfl rfl
       ·intro a b c d;obtain ⟨e,f⟩:=b.rule;go_simp;(try go_ints);exact d
       ·intro a b;simp only[sqA];exact b
     iterate 2
      apply Flow.asg _ rfl
      ·intro a b;simp only[sqA,Act.eval,sqC];exact b
     refine Flow.done ?_;go_wp2_with fail;exact ⟨⟨i+1,_,_,_,_,hlt,by go_num,rfl,rfl,rfl,rfl,Hn,hbr.drew⟩,by simp[intOf];omega⟩
   ·obtain rfl:i=W*H:=(by omega);have hbd:=uD.out.bd (Nat.le_refl _);have k2:=((w22.bl hb3).bl hbr).all4;have hle:=(w2b.trans hb3).trans hbr;rcases uD.out.done with ⟨hr,hbi⟩|⟨hr,hbi⟩
    ·have Hbi:=aLa hbi;clear uD hbi;go_wp2_with fail;have hp:=Hp.out;refine aL0 (v:=.tuple #[.agg #[.int .i64 0,.int .i64 0,.int .i64 0,.int .i64 0],.int .i64 10]) (by simp[results,Tryz.results33,go_sem,k2]) rfl ⟨_,_,_,_,_,rfl,fun h=>absurd hp h,fun _=>by first|exact ⟨false,by simpa using Hbi.out,rfl⟩|exact Or.inl ⟨by simpa using Hbi.out,rfl⟩,?_⟩;exact ((((hle.setCell (by simp) _).setCell (by simp) _).setCell (by simp) _).setCell (by simp) _)
    ·have Hbi:=aLa hbi;clear uD hbi;go_wp2_with fail;have hp:=Hp.out;refine aL0 (v:=.tuple #[.agg #[l,t,.int .i64 (r-l+1),.int .i64 (z-t+1)],.int .i64 0]) (by simp[results,Tryz.results33,go_sem,k2]) rfl ⟨_,_,_,_,_,rfl,fun h=>absurd hp h,fun _=>by first|exact ⟨true,by simpa using Hbi.out,rfl⟩|exact Or.inr ⟨by simpa using Hbi.out,rfl⟩,?_⟩;exact ((((hle.setCell (by simp) _).setCell (by simp) _).setCell (by simp) _).setCell (by simp) _)
 ·have hq:(aD W H an != 0)=true:=(by simp[hp]);have Hp:=aLa hp;clear hp
  go_in
  go_wp2_with fail;refine (bM _ _ _ _ _ _).mono ?_;rintro e w3 ⟨rfl,hb3⟩;have k2:=(w22.bl hb3).all4;go_wp2_with fail;refine aL0 (v:=.tuple #[.agg #[.int .i64 0,.int .i64 0,.int .i64 0,.int .i64 0],.int .i64 (aD W H an)]) (by simp[results,Tryz.results33,go_sem,k2]) rfl ⟨_,_,_,_,_,rfl,fun _=>⟨rfl,rfl,rfl,rfl,rfl⟩,fun h=>absurd h Hp.out,?_⟩;exact (((((w2b.trans hb3).setCell (by simp) _).setCell (by simp) _).setCell (by simp) _).setCell (by simp) _)
theorem EL:(Tryz.prog.info? 9).map (fun i=>(i.zero,i.size,i.bytes))=some (some (.string ByteArray.empty),1,16):=by kernel_rfl
def aEo (l:List UInt8):Value:=.string ⟨l.toArray⟩
def bE (ts:List (List UInt8)):List Value:=ts.map aEo
theorem kS {w:World} {A:Option Addr} {ts:List (List UInt8)} {i:Nat} {x:List UInt8} (h:Reads w 1 A ts.length (bE ts)) (hi:ts[i]? = some x):∃ad,A=some ad∧w.cell? (ad.add i)=some (.string ⟨x.toArray⟩):=by
 have hlt:=(aLw.1 hi).1;obtain ⟨ad,u,e,hu,hc⟩:=h.at_ hlt;unfold bE at hu;rw[aLG,hi] at hu;have hu':aEo x=u:=aLZ hu;subst hu';exact ⟨ad,e,hc⟩
theorem gC {w:World} {base:Nat} {e:TypeId} {size n g cap:Nat} {xs:List Value} (h:w.ownsRow base e size (.slice (some ⟨g,0,none⟩) n cap) n xs) (j:Nat) (u:Value):(w.setCell ⟨g,j,none⟩ u).ownsRow base e size (.slice (some ⟨g,0,none⟩) n cap) n (xs.set j u):=by
 refine ⟨by rw[List.length_set];exact h.1,?_⟩;rcases h.2 with ⟨hv,_⟩|⟨g',cap',cur,hv,hb,hg,hn,hc,hs,ht⟩
 ·cases hv
 ·injection hv with h1 h2 h3;injection h1 with h1;injection h1 with h1;subst h1;subst h3;refine .inr ⟨g,cap,cur.setIfInBounds j u,rfl,hb,?_,hn,hc,by simpa using hs,?_⟩
  ·simp[World.setCell,Array.getElem?_modify,hg]
  ·rw[Array.toList_setIfInBounds,List.take_set,ht]
theorem iT (g i:Nat):(⟨g,0,none⟩:Addr).add i=⟨g,i,none⟩:=by unfold Addr.add;split<;>simp_all
theorem Reads.lt {w:World} {A:Option Addr} {n:Nat} {xs:List Value} (h:Reads w 1 A n xs):∀a,A=some a→0<n→a.block<w.heap.size:=fun a ha hn=>by
 obtain ⟨ad,u,e,-,hc⟩:=h.at_ hn;rw[ha] at e;injection e with e;subst e;have:=World.block_lt_of_cell? w _ hc
 rwa [pE] at this
theorem Reads.far {w:World} {size n:Nat} {A:Option Addr} {xs:List Value} (h:Reads w size A n xs) {p:Addr} (hn:∀a,A=some a→0<n→a.block≠p.block) (u:Value):Reads (w.setCell p u) size A n xs:=
 ⟨h.1,fun hk=>by
  obtain ⟨ad,e,hc⟩:=h.2 hk;exact ⟨ad,e,fun j x hx=>by rw[World.cell?_setCell_other w p _ u (fun e'=>by have h1:=hn ad e hk;have h2:=congrArg Addr.block e';rw[pE] at h2;omega)];exact hc j x hx⟩⟩
theorem lX {w:World} {base:Nat} {e:TypeId} {size n:Nat} {v:Value} {xs:List Value} (h:w.ownsRow base e size v n xs) (hn:0<n):∃g cap,v=.slice (some ⟨g,0,none⟩) n cap∧base≤g∧n≤cap:=by
 rcases h.2 with ⟨-,h0⟩|⟨g,cap,cur,rfl,hb,-,hc,-⟩
 ·omega
 ·exact ⟨g,cap,rfl,hb,hc⟩
theorem aEp {w:World} {base:Nat} {e:TypeId} {size n g cap:Nat} {xs:List Value} (h:w.ownsRow base e size (.slice (some ⟨g,0,none⟩) n cap) n xs):g<w.heap.size:=by
 rcases h.2 with ⟨hv,-⟩|⟨g',cap',cur,hv,-,hg,-⟩
 ·cases hv
 ·injection hv with h1 h2 h3;injection h1 with h1;injection h1 with h1;subst h1;exact (aL1.1 hg).1
theorem uI {w:World} {base:Nat} {e:TypeId} {size n g cap:Nat} {xs:List Value} (h:w.ownsRow base e size (.slice (some ⟨g,0,none⟩) n cap) n xs):(∀j,j<n*size→∃v,w.cell? ⟨g,j,none⟩=some v)∧∀j,w.frozen? ⟨g,j,none⟩=false:=by
 rcases h.2 with ⟨hv,-⟩|⟨g',cap',cur,hv,-,hg,hn,-,hs,-⟩
 ·cases hv
 ·injection hv with h1 h2 h3;injection h1 with h1;injection h1 with h1;subst h1;subst h3;have hb:Blk w g e cur:=hg;refine ⟨fun j hj => ?_,hb.frozen⟩;have hlt:j<cur.size:=(by have:=Nat.mul_le_mul_right size hn;omega);exact ⟨cur[j],by rw[hb.cell];exact Array.getElem?_eq_getElem hlt⟩
theorem aCI {W H:Nat} (h1:1≤W) (h2:W≤4000) (h3:1≤H) (h4:H≤4000) (h5:W*H≤1048576):aD (W:Int) (H:Int) (W*H)=0:=by
 have e:=aL9 W H;have hs:aE (W:Int) (H:Int)=0:=by
  unfold aE;rw[if_pos (by omega),if_neg (by omega)]
 unfold aD;rw[if_pos hs,if_pos (by omega)]
end Go.Proofs.YtllefinciimffaaGreatDoor
