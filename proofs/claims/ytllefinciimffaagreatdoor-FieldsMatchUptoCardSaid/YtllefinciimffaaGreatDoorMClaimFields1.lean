import Derived.Test.YtllefinciimffaaGreatDoorMClaimFields0
set_option maxHeartbeats 20000000
set_option maxRecDepth 100000
namespace Go.Proofs.YtllefinciimffaaGreatDoor
open Go.RowKit
def Bytes (zs:List Int):Prop:=∀z∈zs,0≤z∧z≤255
def Z4 (zs:List Int) (i:Nat):Int:=zs.getD i 0
theorem Bytes.at {zs:List Int} (h:Bytes zs) (i:Nat):0≤Z4 zs i∧Z4 zs i≤255:=by
 unfold Z4;rcases Nat.lt_or_ge i zs.length with hl|hl
 ·have:=h zs[i] (List.getElem_mem hl);simpa [List.getD,hl] using this
 ·simp[List.getD,aIC hl]
def atI (bs:List Bool) (W H x y:Int):Bool:=decide (0≤x∧x<W∧0≤y∧y<H)&&bs.getD (y.toNat*W.toNat+x.toNat) false
def pix (bs:List Bool) (W x y:Nat):Bool:=bs.getD (y*W+x) false
theorem t8 (bs:List Bool) (W H x y:Nat) (hx:x<W) (hy:y<H):atI bs W H x y=pix bs W x y:=by
 unfold atI pix;have:decide (0≤(x:Int)∧(x:Int)<W∧0≤(y:Int)∧(y:Int)<H)=true:=(by simp;omega);rw[this];simp
theorem CR (bs:List Bool) (W H x y:Int) (h:¬(0≤x∧x<W∧0≤y∧y<H)):atI bs W H x y=false:=by
 unfold atI;simp only[h];simp
theorem Reads.place {w:World} {A:Option Addr} {W H:Nat} {bs:List Bool} (h:Reads w 1 A (W*H) (bs.map .bool)) {x y:Nat} (hx:x<W) (hy:y<H) :
 ∃ad,A=some ad∧w.cell? (ad.add (y*W+x))=some (.bool (pix bs W x y)):=by
 have hk:=d8 hx hy;obtain ⟨ad,u,e,hu,hc⟩:=h.at_ hk;refine ⟨ad,e,?_⟩;have hl:y*W+x<bs.length:=(by have:=h.1;simp at this;omega);have hu':u=.bool (pix bs W x y):=(by simpa [pix,List.getD,hl] using hu.symm);rw[hc,hu']
theorem uA (W H:Nat) (A:Option Addr) (c:Nat) (bs:List Bool) (x y:Int) (w:World) (hr:Reads w 1 A (W*H) (bs.map .bool)) (hW:W≤4000) (hH:H≤4000) :
 Calls Tryz.prog 123 #[.agg #[W,H,.slice A (W*H) c],x,y] w fun e w'=>e=.returned (.bool (atI bs W H x y))∧Bl w w':=by
 cases h1:inB x 0 ((W:Int)-1)
 case false=>
  have ha:atI bs W H x y=false:=CR _ _ _ _ _ (by have:=dF.1 h1;omega);have Ha:=aHH ha;clear ha hr
  go_in
  go_wp2_with (go_at_call 13;refine (eJ _ _ _ _).mono ?_;rintro e w' ⟨rfl,rfl⟩);go_ret;exact ⟨aS Ha.out.symm,(Bl.refl _).alloc _⟩
 case true=>
  cases h2:inB y 0 ((H:Int)-1)
  case false=>
   have ha:atI bs W H x y=false:=CR _ _ _ _ _ (by have:=dF.1 h2;omega);have Ha:=aHH ha;clear ha hr
   go_in
   go_wp2_with (go_at_call 13;refine (eJ _ _ _ _).mono ?_;rintro e w' ⟨rfl,rfl⟩);go_ret;exact ⟨aS Ha.out.symm,(Bl.refl _).alloc _⟩
  case true=>
   obtain ⟨a1,a2⟩:=aQ.1 h1;obtain ⟨b1,b2⟩:=aQ.1 h2;obtain ⟨x,rfl⟩:=Int.eq_ofNat_of_zero_le a1;obtain ⟨y,rfl⟩:=Int.eq_ofNat_of_zero_le b1;have hx:x<W:=(by omega);have hy:y<H:=(by omega);have ha:=t8 bs W H x y hx hy;obtain ⟨ad,rfl,hc⟩:=hr.place hx hy;have hk:=d8 hx hy;obtain ⟨k,hkk⟩:=aH0 (y*W+x);rw[←hkk] at hc hk;have ek:(y:Int)*(W:Int)+(x:Int)=(k:Int):=(by rw[hkk];simp);have hkl:(k:Int)<(W:Int)*(H:Int):=(by have:=aIG W H;omega);have hq:(0:Int)≤(y:Int)*(W:Int)∧(y:Int)*(W:Int)≤16000000:=by
    have h5:=aIG y W;have h6:=aIH (show y≤4000 by omega) hW;omega
   have hlt:ad.block<w.heap.size:=(by have:=World.block_lt_of_cell? w _ hc;rwa [gX] at this);have hc':∀o,(w.alloc o).cell? (ad.add k)=some (.bool (pix bs W x y)):=fun o=>((Bl.refl w).alloc o).at hc;have Ha:=aHH ha;have Hkk:=aHH hkk;clear ha hkk hr
   go_in
   go_wp2_with (go_at_call 13;refine (eJ _ _ _ _).mono ?_;rintro e w' ⟨rfl,rfl⟩);go_ret;exact ⟨aS Ha.out.symm,(Bl.refl _).alloc _⟩
def jQ (f : Nat → Nat) : Nat → Nat
 |0=>0
 |n+1=>jQ f n+f n
theorem eI {f g : Nat → Nat} : ∀ {n : Nat}, (∀ i, i < n → f i = g i) → jQ f n = jQ g n
 |0,_=>rfl
 |n+1,h=>by
  unfold jQ;rw[eI (n:=n) (fun i hi=>h i (by omega)),h n (by omega)]
theorem RZ (n:Nat):jQ (fun _=>0) n=0:=by
 induction n with
 |zero=>rfl
 |succ n ih=>simp[jQ,ih]
theorem WE (f g:Nat→Nat) (n:Nat):jQ (fun i=>f i+g i) n=jQ f n+jQ g n:=by
 induction n with
 |zero=>rfl
 |succ n ih=>simp only[jQ,ih];omega
theorem AJ (f:Nat→Nat) (m n:Nat):jQ f (m+n)=jQ f m+jQ (fun i=>f (m+i)) n:=by
 induction n with
 |zero=>rfl
 |succ n ih=>rw[←Nat.add_assoc];simp only[jQ,ih];omega
theorem wI (g:Nat→Nat) (W H:Nat):jQ g (H*W)=jQ (fun y=>jQ (fun x=>g (y*W+x)) W) H:=by
 induction H with
 |zero=>simp[jQ]
 |succ H ih=>rw[Nat.add_mul,Nat.one_mul,AJ,ih];rfl
theorem mB {f:Nat→Nat} {c:Nat} (h:∀i,f i≤c) (n:Nat):jQ f n≤n*c:=by
 induction n with
 |zero=>simp[jQ]
 |succ n ih=>have:=h n;simp only[jQ,Nat.add_mul];omega
def qD (N:Nat) (f:Nat→Int):Array Value:=((List.range N).map fun k=>Value.int .i64 (f k)).toArray
theorem rF (N:Nat) (f:Nat→Int):(qD N f).size=N:=by simp[qD]
theorem vK {N:Nat} (f:Nat→Int) {k:Nat} (h:k<N):(qD N f)[k]? = some (.int .i64 (f k)):=by simp[qD,h]
theorem sW {N:Nat} {f g:Nat→Int} (h:∀k,k<N→f k=g k):qD N f=qD N g:=by
 unfold qD
 congr 1
 exact List.map_congr_left fun k hk=>by rw[h k (List.mem_range.1 hk)]
theorem WF {N:Nat} {f g:Nat→Int} {a:Nat} {v:Int} (hg:∀k,k<N→g k=if k=a then v else f k):(qD N f).setIfInBounds a (.int .i64 v)=qD N g:=by
 apply Array.ext_getElem?;intro i;rcases Nat.lt_or_ge i N with h|h
 ·rw[vK g h,hg i h];by_cases e:a=i
  ·subst e;simp[qD,h]
  ·rw[Array.getElem?_setIfInBounds_ne e,vK f h,if_neg (fun e'=>e e'.symm)]
 ·rw[Array.getElem?_eq_none (by simp[rF];exact h),Array.getElem?_eq_none (by rw[rF];exact h)]
theorem E8 (N:Nat):madeCells #[.int .i64 0] N=qD N (fun _=>0):=by
 apply Array.ext_getElem?;intro i;rcases Nat.lt_or_ge i N with h|h
 ·rw[vK _ h];simp[madeCells,h,Nat.mod_one]
 ·rw[Array.getElem?_eq_none (by rw[size_madeCells];exact h),Array.getElem?_eq_none (by rw[rF];exact h)]
def cAa (N:Nat) (f:Nat→Int):List Int:=(List.range N).map f
theorem L5 (N:Nat) (f:Nat→Int):(cAa N f).length=N:=by simp[cAa]
theorem vL {N:Nat} (f:Nat→Int) {k:Nat} (h:k<N):(cAa N f)[k]? = some (f k):=by simp[cAa,h]
theorem Blk.tabReads {w:World} {g:Nat} {t:TypeId} {N:Nat} {f:Nat→Int} (h:Blk w g t (qD N f)):Reads w 1 (some ⟨g,0,none⟩) N ((cAa N f).map (.int .i64)):=by
 have:=h.reads N 1 (by rw[rF];omega);have e:(qD N f).toList=(cAa N f).map (.int .i64):=by simp[qD,cAa,Function.comp_def]
 rwa [e] at this
theorem Blk.tabAt {w:World} {g:Nat} {t:TypeId} {N:Nat} {f:Nat→Int} (h:Blk w g t (qD N f)) {k:Nat} (hk:k<N):w.cell? ⟨g,k,none⟩=some (.int .i64 (f k)):=(h.cell k).trans (vK f hk)
theorem Blk.tabSet {w:World} {g:Nat} {t:TypeId} {N:Nat} {f f':Nat→Int} (h:Blk w g t (qD N f)) (a:Nat) (v:Int) (hg:∀k,k<N→f' k=if k=a then v else f k):Blk (w.setCell ⟨g,a,none⟩ (.int .i64 v)) g t (qD N f'):=by
 have:=h.set_ a (.int .i64 v)
 rwa [WF hg] at this
def aBs (n:Int):Int:=if n<0 then -rD (-n) 1024 else rD n 1024
def aDi (W:Nat) (n:Int) (x:Nat):Int:=aBs (n*((x:Int)-((W:Int)-1) / 2))
def CT (bs : List Bool) : Nat → List Nat
 |0=>[]
 |m+1=>CT bs m++(if bs.getD m false then [m] else [])
def b1 (b:Bool):Nat:=if b then 1 else 0
def aBt (W H:Nat) (n:Int) (i:Nat):Int:=((H / 2:Nat):Int)+((i / W:Nat):Int)+aDi W n (i % W)
def aDj (W H:Nat) (n:Int) (k i:Nat):Bool:=decide (aBt W H n i=(k:Int))
def aDk (bs:List Bool) (W H:Nat) (n:Int) (k:Nat):Nat:=jQ (fun i=>b1 (bs.getD i false&&aDj W H n k i)) (W*H)
theorem eR {W H k:Nat} (hk:k<W*H):k % W<W∧k / W<H∧(k / W)*W+k % W=k:=by
 have hW:0<W:=(by rcases Nat.eq_zero_or_pos W with h0|h0;(subst h0;simp at hk);exact h0);exact ⟨Nat.mod_lt _ hW,Nat.div_lt_of_lt_mul hk,by have:=Nat.div_add_mod k W;rw[Nat.mul_comm] at this;exact this⟩
theorem rG {W x:Nat} (y:Nat) (hx:x<W):(y*W+x) % W=x∧(y*W+x) / W=y:=
 ⟨by rw[Nat.mul_comm,Nat.mul_add_mod,Nat.mod_eq_of_lt hx],by rw[Nat.mul_comm,Nat.mul_add_div (by omega),Nat.div_eq_of_lt hx,Nat.add_zero]⟩
theorem cAb (b:Bool):b1 b≤1:=by unfold b1;split<;>omega
def aBu (bs:List Bool) (W y:Nat):Nat:=jQ (fun x=>b1 (pix bs W x y)) W
def kH (bs:List Bool) (W H x:Nat):Nat:=jQ (fun y=>b1 (pix bs W x y)) H
def qE (bs:List Bool) (num:Nat→Nat) (m k:Nat):Nat:=jQ (fun i=>b1 (bs.getD i false&&decide (num i=k))) m
theorem N8 (bs:List Bool) (num:Nat→Nat) (m k:Nat):qE bs num (m+1) k=qE bs num m k+b1 (bs.getD m false&&decide (num m=k)):=rfl
theorem WG (bs:List Bool) (num:Nat→Nat) (m k:Nat):qE bs num m k≤m:=by
 have:=mB (f:=fun i=>b1 (bs.getD i false&&decide (num i=k))) (c:=1) (fun i=>cAb _) m;simpa [qE] using this
theorem R4 (bs:List Bool) (W H x:Nat):kH bs W H x≤H:=by
 have:=mB (f:=fun y=>b1 (pix bs W x y)) (c:=1) (fun i=>cAb _) H;simpa [kH] using this
theorem R7 (f:Nat→Nat) (n k:Nat):jQ (fun y=>if y=k then f y else 0) n=if k<n then f k else 0:=by
 induction n with
 |zero=>simp[jQ]
 |succ n ih=>
  simp only[jQ,ih];by_cases h:n=k
  ·subst h;rw[if_neg (by omega),if_pos rfl,if_pos (by omega)];omega
  ·rw[if_neg h];by_cases h2:k<n
   ·rw[if_pos h2,if_pos (by omega)];omega
   ·rw[if_neg h2,if_neg (by omega)]
theorem N9 (bs:List Bool) (W H k:Nat) (hk:k<W):qE bs (fun i=>i % W) (W*H) k=kH bs W H k:=by
 unfold qE;rw[Nat.mul_comm,wI];refine eI fun y _ => ?_;have e:∀x,x<W→b1 (bs.getD (y*W+x) false&&decide ((y*W+x) % W=k))=if x=k then b1 (pix bs W x y) else 0:=by
  intro x hx;rw[(rG y hx).1];by_cases h:x=k
  ·rw[if_pos h,aIu h,Bool.and_true];rfl
  ·rw[if_neg h,aIt h,Bool.and_false];rfl
 rw[eI e,R7 (fun x=>b1 (pix bs W x y)),if_pos hk]
def EW (bs:List Bool) (W X Y BW BH:Nat):Nat:=jQ (fun j=>jQ (fun i=>b1 (pix bs W (X+i) (Y+j))) BW) BH
theorem R8 (bs:List Bool) (W H x:Nat):EW bs W x 0 1 H=kH bs W H x:=by
 unfold EW kH;simp[jQ]
theorem WH (BW BH:Nat) (f:Nat→Nat→Bool):jQ (fun i=>b1 ((fS BW BH f).getD i false)) (BW*BH)=jQ (fun j=>jQ (fun i=>b1 (f i j)) BW) BH:=by
 have hg:∀i,i<BW*BH→b1 ((fS BW BH f).getD i false)=b1 (f (i % BW) (i / BW)):=fun i hi=>(by rw[List.getD,CQ _ _ _ _ hi];rfl);rw[eI hg,Nat.mul_comm,wI];refine eI fun y _=>eI fun x hx => ?_;rw[(rG y hx).1,(rG y hx).2]
theorem CU (f : Nat → Nat) : ∀ n, 0 < jQ f n ↔ ∃ i, i < n ∧ 0 < f i
 |0=>by simp[jQ]
 |n+1=>by
  have ih:=CU f n;simp only[jQ];constructor
  ·intro h;by_cases h2:0<f n
   ·exact ⟨n,by omega,h2⟩
   ·obtain ⟨i,hi,h3⟩:=ih.1 (by omega);exact ⟨i,by omega,h3⟩
  ·rintro ⟨i,hi,h3⟩;by_cases h2:i=n
   ·subst h2;omega
   ·have:=ih.2 ⟨i,by omega,h3⟩;omega
theorem YW (b:Bool):0<b1 b↔b=true:=by cases b<;>simp[b1]
theorem vM (bs:List Bool) (W y:Nat):0<aBu bs W y↔∃x,x<W∧pix bs W x y=true:=by
 unfold aBu;rw[CU];simp only[YW]
theorem nG (bs:List Bool) (W H x:Nat):0<kH bs W H x↔∃y,y<H∧pix bs W x y=true:=by
 unfold kH;rw[CU];simp only[YW]
def Ends (f:Nat→Nat) (N x r:Nat):Prop:=(x<N∧0<f x∧∀j,j<x→f j=0)∧(r<N∧0<f r∧∀j,r<j→j<N→f j=0)
def NoEnds (f:Nat→Nat) (N:Nat):Prop:=∀j,j<N→f j=0
def BoundsIs (bs:List Bool) (W H:Nat) (is:Bool) (X Y BW BH:Int):Prop:=
 (is=false∧NoEnds (kH bs W H) W∧X=0∧Y=0∧BW=0∧BH=0) ∨
 (is=true∧∃l r t b:Nat,Ends (kH bs W H) W l r∧Ends (aBu bs W) H t b∧X=l∧Y=t∧BW=(r:Int)-l+1∧BH=(b:Int)-t+1)
def BInv (bs:List Bool) (W H m:Nat) (l t r b:Int):Prop:=
 ((∀i,i<m→bs.getD i false=false)∧l=W∧t=H∧r = -1∧b = -1) ∨
 ((∃ i, i < m ∧ bs.getD i false = true ∧ l = ((i % W : Nat) : Int)) ∧ (∃ i, i < m ∧ bs.getD i false = true ∧ t = ((i / W : Nat) : Int)) ∧ (∃ i, i < m ∧ bs.getD i false = true ∧ r = ((i % W : Nat) : Int)) ∧ (∃ i, i < m ∧ bs.getD i false = true ∧ b = ((i / W : Nat) : Int)) ∧
   ∀i,i<m→bs.getD i false=true→l≤((i % W:Nat):Int)∧((i % W:Nat):Int)≤r∧t≤((i / W:Nat):Int)∧((i / W:Nat):Int)≤b)
theorem BInv.start (bs:List Bool) (W H:Nat):BInv bs W H 0 W H (-1) (-1):=Or.inl ⟨fun i hi=>by omega,rfl,rfl,rfl,rfl⟩
theorem BInv.no {bs:List Bool} {W H m:Nat} {l t r b:Int} (h:BInv bs W H m l t r b) (hm:bs.getD m false=false):BInv bs W H (m+1) l t r b:=by
 rcases h with ⟨h1,h2⟩|⟨⟨i1,a1,b1',c1⟩,⟨i2,a2,b2,c2⟩,⟨i3,a3,b3,c3⟩,⟨i4,a4,b4,c4⟩,h5⟩
 ·refine Or.inl ⟨fun i hi => ?_,h2⟩;rcases Nat.lt_or_ge i m with c|c
  ·exact h1 i c
  ·obtain rfl:i=m:=(by omega);exact hm
 ·refine Or.inr ⟨⟨i1,by omega,b1',c1⟩,⟨i2,by omega,b2,c2⟩,⟨i3,by omega,b3,c3⟩,⟨i4,by omega,b4,c4⟩,fun i hi hb => ?_⟩;rcases Nat.lt_or_ge i m with c|c
  ·exact h5 i c hb
  ·obtain rfl:i=m:=(by omega);rw[hm] at hb;cases hb
theorem BInv.yes {bs : List Bool} {W H m : Nat} {l t r b : Int} (h : BInv bs W H m l t r b) (hm : bs.getD m false = true) (hx : m % W < W) (hy : m / W < H) {l' t' r' b' : Int}
 (el:l'=if ((m % W:Nat):Int)<l then ((m % W:Nat):Int) else l) (et:t'=if ((m / W:Nat):Int)<t then ((m / W:Nat):Int) else t)
 (er:r'=if r<((m % W:Nat):Int) then ((m % W:Nat):Int) else r) (eb:b'=if b<((m / W:Nat):Int) then ((m / W:Nat):Int) else b):BInv bs W H (m+1) l' t' r' b':=by
 obtain ⟨x,hx'⟩:=aH0 (m % W);obtain ⟨y,hy'⟩:=aH0 (m / W);rw[←hx'] at el er hx;rw[←hy'] at et eb hy;rcases h with ⟨h1,rfl,rfl,rfl,rfl⟩|⟨⟨i1,a1,b1',c1⟩,⟨i2,a2,b2,c2⟩,⟨i3,a3,b3,c3⟩,⟨i4,a4,b4,c4⟩,h5⟩
 ·rw[if_pos (by omega)] at el et er eb;refine Or.inr ⟨⟨m,by omega,hm,by rw[←hx'];exact el⟩,⟨m,by omega,hm,by rw[←hy'];exact et⟩,⟨m,by omega,hm,by rw[←hx'];exact er⟩,⟨m,by omega,hm,by rw[←hy'];exact eb⟩,fun i hi hb => ?_⟩;rcases Nat.lt_or_ge i m with c|c
  ·rw[h1 i c] at hb;cases hb
  ·obtain rfl:i=m:=(by omega);rw[←hx',←hy'];omega
 ·refine Or.inr ⟨?_,?_,?_,?_,fun i hi hb => ?_⟩
  ·by_cases c:(x:Int)<l
   ·rw[if_pos c] at el;exact ⟨m,by omega,hm,by rw[←hx'];exact el⟩
   ·rw[if_neg c] at el;exact ⟨i1,by omega,b1',by rw[el];exact c1⟩
  ·by_cases c:(y:Int)<t
   ·rw[if_pos c] at et;exact ⟨m,by omega,hm,by rw[←hy'];exact et⟩
   ·rw[if_neg c] at et;exact ⟨i2,by omega,b2,by rw[et];exact c2⟩
  ·by_cases c:r<(x:Int)
   ·rw[if_pos c] at er;exact ⟨m,by omega,hm,by rw[←hx'];exact er⟩
   ·rw[if_neg c] at er;exact ⟨i3,by omega,b3,by rw[er];exact c3⟩
  ·by_cases c:b<(y:Int)
   ·rw[if_pos c] at eb;exact ⟨m,by omega,hm,by rw[←hy'];exact eb⟩
   ·rw[if_neg c] at eb;exact ⟨i4,by omega,b4,by rw[eb];exact c4⟩
  ·have key:(l'≤l∧l'≤x)∧(t'≤t∧t'≤y)∧(r≤r'∧(x:Int)≤r')∧(b≤b'∧(y:Int)≤b'):=by
    refine ⟨?_,?_,?_,?_⟩
    ·split at el<;>omega
    ·split at et<;>omega
    ·split at er<;>omega
    ·split at eb<;>omega
   rcases Nat.lt_or_ge i m with c|c
   ·have:=h5 i c hb;omega
   ·obtain rfl:i=m:=(by omega);rw[←hx',←hy'];omega
theorem BInv.bd {bs:List Bool} {W H m:Nat} {l t r b:Int} (h:BInv bs W H m l t r b) (hm:m≤W*H):(0≤l∧l≤W)∧(0≤t∧t≤H)∧(-1≤r∧r<W)∧(-1≤b∧b<H):=by
 have hp:∀i,i<m→i % W<W∧i / W<H:=fun i hi=>by
  obtain ⟨a,b,_⟩:=eR (show i<W*H by omega);exact ⟨a,b⟩
 rcases h with ⟨h1,rfl,rfl,rfl,rfl⟩|⟨⟨i1,a1,b1',c1⟩,⟨i2,a2,b2,c2⟩,⟨i3,a3,b3,c3⟩,⟨i4,a4,b4,c4⟩,h5⟩
 ·omega
 ·have p1:=(hp i1 a1).1;have p2:=(hp i2 a2).2;have p3:=(hp i3 a3).1;have p4:=(hp i4 a4).2;clear h5 hp;generalize i1 % W=x1 at c1 p1;generalize i2 / W=y2 at c2 p2;generalize i3 % W=x3 at c3 p3;generalize i4 / W=y4 at c4 p4;omega
theorem mL {bs:List Bool} {W H i:Nat} (hi:i<W*H):pix bs W (i % W) (i / W)=bs.getD i false:=by
 unfold pix;rw[(eR hi).2.2]
theorem BInv.done {bs:List Bool} {W H:Nat} {l t r b:Int} (h:BInv bs W H (W*H) l t r b) :
 (r<0∧BoundsIs bs W H false 0 0 0 0)∨(¬r<0∧BoundsIs bs W H true l t (r-l+1) (b-t+1)):=by
 rcases h with ⟨h1,rfl,rfl,rfl,rfl⟩|⟨⟨i1,a1,b1',c1⟩,⟨i2,a2,b2,c2⟩,⟨i3,a3,b3,c3⟩,⟨i4,a4,b4,c4⟩,h5⟩
 ·refine Or.inl ⟨by omega,Or.inl ⟨rfl,fun x hx => ?_,rfl,rfl,rfl,rfl⟩⟩;rcases Nat.eq_zero_or_pos (kH bs W H x) with e|e
  ·exact e
  ·obtain ⟨y,hy,hp⟩:=(nG bs W H x).1 e;have:=h1 (y*W+x) (d8 hx hy);unfold pix at hp;rw[this] at hp;cases hp
 ·have q1:=eR a1;have q2:=eR a2;have q3:=eR a3;have q4:=eR a4;have all:∀x y,x<W→y<H→pix bs W x y=true→l≤x∧(x:Int)≤r∧t≤y∧(y:Int)≤b:=fun x y hx hy hp=>by
   have:=h5 (y*W+x) (d8 hx hy) hp
   rwa [(rG y hx).1,(rG y hx).2] at this
  refine Or.inr ⟨by omega,Or.inr ⟨rfl,i1 % W,i3 % W,i2 / W,i4 / W,⟨⟨q1.1,(nG _ _ _ _).2 ⟨i1 / W,q1.2.1,by rw[mL a1];exact b1'⟩,fun j hj => ?_⟩,q3.1,(nG _ _ _ _).2 ⟨i3 / W,q3.2.1,by rw[mL a3];exact b3⟩,fun j hj hj2 => ?_⟩,
   ⟨⟨q2.2.1,(vM _ _ _).2 ⟨i2 % W,q2.1,by rw[mL a2];exact b2⟩,fun j hj => ?_⟩,q4.2.1,(vM _ _ _).2 ⟨i4 % W,q4.1,by rw[mL a4];exact b4⟩,fun j hj hj2 => ?_⟩,c1,c2,by rw[c1,c3],by rw[c2,c4]⟩⟩
  ·rcases Nat.eq_zero_or_pos (kH bs W H j) with e|e
   ·exact e
   ·obtain ⟨y,hy,hp⟩:=(nG bs W H j).1 e;have:=all j y (by omega) hy hp;omega
  ·rcases Nat.eq_zero_or_pos (kH bs W H j) with e|e
   ·exact e
   ·obtain ⟨y,hy,hp⟩:=(nG bs W H j).1 e;have:=all j y (by omega) hy hp;omega
  ·rcases Nat.eq_zero_or_pos (aBu bs W j) with e|e
   ·exact e
   ·obtain ⟨x,hx,hp⟩:=(vM bs W j).1 e;have:=all x j hx (by omega) hp;omega
  ·rcases Nat.eq_zero_or_pos (aBu bs W j) with e|e
   ·exact e
   ·obtain ⟨x,hx,hp⟩:=(vM bs W j).1 e;have:=all x j hx (by omega) hp;omega
def gQ (f:Int→Nat) (lo:Int) (n:Nat):Nat:=jQ (fun i=>f (lo+(i:Int))) n
theorem o6 {f g:Int→Nat} {lo:Int} {n:Nat} (h:∀i:Nat,i<n→f (lo+(i:Int))=g (lo+(i:Int))):gQ f lo n=gQ g lo n:=eI h
theorem rH (f:Int→Nat) (lo:Int) (n:Nat):gQ f lo (n+1)=gQ f lo n+f (lo+(n:Int)):=rfl
theorem AK (f:Int→Nat) (lo:Int) (a b:Nat):gQ f lo (a+b)=gQ f lo a+gQ f (lo+(a:Int)) b:=by
 unfold gQ;rw[AJ]
 congr 1
 refine eI fun i _ => ?_
 congr 1
 omega
theorem wJ {f:Int→Nat} {lo:Int} {n:Nat} (h:∀i:Nat,i<n→f (lo+(i:Int))=0):gQ f lo n=0:=(eI h).trans (RZ n)
theorem L6 {f:Int→Nat} {lo p:Int} {n m:Nat} (h1:lo≤p) (h2:p+(m:Int)≤lo+(n:Int)) (h:∀z,z<p∨p+(m:Int)≤z→f z=0):gQ f lo n=gQ f p m:=by
 obtain ⟨a,rfl⟩:∃a:Nat,p=lo+(a:Int):=⟨(p-lo).toNat,by omega⟩;obtain ⟨b,rfl⟩:∃b:Nat,n=a+(m+b):=⟨n-a-m,by omega⟩;rw[AK,AK,wJ (n:=a) (fun i hi=>h _ (by omega)),wJ (n:=b) (fun i hi=>h _ (by omega))];omega
theorem AM (f:Int→Nat) (d lo:Int) (n:Nat):gQ (fun z=>f (z-d)) lo n=gQ f (lo-d) n:=by
 refine eI fun i _ => ?_;show f (lo+(i:Int)-d)=f (lo-d+(i:Int))
 congr 1
 omega
theorem L7 (f g:Int→Nat) (lo:Int) (n:Nat):gQ (fun z=>f z+g z) lo n=gQ f lo n+gQ g lo n:=WE _ _ n
def zK (F:Int→Int→Nat) (x0:Int) (nx:Nat) (y0:Int) (ny:Nat):Nat:=gQ (fun y=>gQ (fun x=>F x y) x0 nx) y0 ny
theorem CV (F G:Int→Int→Nat) (x0:Int) (nx:Nat) (y0:Int) (ny:Nat):zK (fun x y=>F x y+G x y) x0 nx y0 ny=zK F x0 nx y0 ny+zK G x0 nx y0 ny:=by
 unfold zK;rw[←L7];exact o6 fun i _=>L7 _ _ _ _
theorem CW {F : Int → Int → Nat} {x0 y0 px py : Int} {nx ny mx my : Nat} (h1 : x0 ≤ px) (h2 : px + (mx : Int) ≤ x0 + (nx : Int)) (h3 : y0 ≤ py) (h4 : py + (my : Int) ≤ y0 + (ny : Int))
 (h:∀x y,(x<px∨px+(mx:Int)≤x)∨(y<py∨py+(my:Int)≤y)→F x y=0):zK F x0 nx y0 ny=zK F px mx py my:=by
 unfold zK;refine (L6 h3 h4 (fun y hy=>wJ fun i _=>h (x0+(i:Int)) y (.inr hy))).trans ?_;exact o6 fun i _=>L6 h1 h2 fun x hx=>h _ _ (.inl hx)
theorem OA (F:Int→Int→Nat) (dx dy x0 y0:Int) (nx ny:Nat):zK (fun x y=>F (x-dx) (y-dy)) x0 nx y0 ny=zK F (x0-dx) nx (y0-dy) ny:=by
 unfold zK;have e:(fun y=>gQ (fun x=>F (x-dx) (y-dy)) x0 nx)=fun y=>(fun z=>gQ (fun x=>F x z) (x0-dx) nx) (y-dy):=by
  funext y
  exact AM (fun x=>F x (y-dy)) dx x0 nx
 rw[e,AM (fun z=>gQ (fun x=>F x z) (x0-dx) nx)]
theorem OB {F G:Int→Int→Nat} {x0:Int} {nx:Nat} {y0:Int} {ny:Nat} (h:∀x y,F x y=G x y):zK F x0 nx y0 ny=zK G x0 nx y0 ny:=by
 unfold zK;exact o6 fun i _=>o6 fun j _=>h _ _
theorem oF {f:Int→Nat} {c:Nat} (h:∀z,f z≤c) (lo:Int) (n:Nat):gQ f lo n≤n*c:=mB (fun _=>h _) n
theorem Z5 {F:Int→Int→Nat} (h:∀x y,F x y≤1) (x0:Int) (nx:Nat) (y0:Int) (ny:Nat):zK F x0 nx y0 ny≤ny*nx:=by
 unfold zK;refine oF (c:=nx) (fun y => ?_) y0 ny;have:=oF (c:=1) (fun x=>h x y) x0 nx;omega
def Held (A:Int→Int→Bool) (W H:Nat):Prop:=∀x y,A x y=true→0≤x∧x<(W:Int)∧0≤y∧y<(H:Int)
def JE (A:Int→Int→Bool) (W H:Nat):Nat:=zK (fun x y=>b1 (A x y)) 0 W 0 H
def qF (lo hi:Int):Nat:=(hi-lo).toNat
def E9 (A B:Int→Int→Bool) (W H W' H':Nat) (dx dy:Int):Nat:=
 zK (fun x y=>b1 (A x y&&B (x-dx) (y-dy))) (max 0 dx) (qF (max 0 dx) (min (W:Int) ((W':Int)+dx))) (max 0 dy) (qF (max 0 dy) (min (H:Int) ((H':Int)+dy)))
def R9 (A B:Int→Int→Bool) (W H W' H' r:Nat) (dx dy:Int):Nat:=
 zK (fun x y=>b1 (A x y != B (x-dx) (y-dy))) (-(r:Int)) (max W W'+2*r) (-(r:Int)) (max H H'+2*r)
theorem aBv {A:Int→Int→Bool} {W H:Nat} (h:Held A W H) {x y:Int} (hn:¬(0≤x∧x<(W:Int)∧0≤y∧y<(H:Int))):A x y=false:=by
 cases he:A x y
 ·rfl
 ·exact absurd (h x y he) hn
theorem FB {A B:Int→Int→Bool} {W H W' H' r:Nat} {dx dy:Int} (hA:Held A W H) (hB:Held B W' H') (h1:-(r:Int)≤dx) (h2:dx≤(r:Int)) (h3:-(r:Int)≤dy) (h4:dy≤(r:Int)) :
 R9 A B W H W' H' r dx dy+2*E9 A B W H W' H' dx dy=JE A W H+JE B W' H':=by
 have e1:E9 A B W H W' H' dx dy=zK (fun x y=>b1 (A x y&&B (x-dx) (y-dy))) (-(r:Int)) (max W W'+2*r) (-(r:Int)) (max H H'+2*r):=by
  unfold E9 qF;refine (CW (by omega) (by omega) (by omega) (by omega) fun x y hxy => ?_).symm;cases ha:A x y
  ·rfl
  ·cases hb:B (x-dx) (y-dy)
   ·rfl
   ·have a:=hA x y ha;have b:=hB _ _ hb;omega
 have e2:JE A W H=zK (fun x y=>b1 (A x y)) (-(r:Int)) (max W W'+2*r) (-(r:Int)) (max H H'+2*r):=by
  unfold JE;refine (CW (by omega) (by omega) (by omega) (by omega) fun x y hxy => ?_).symm;rw[aBv hA (by omega)];rfl
 have e3:JE B W' H'=zK (fun x y=>b1 (B (x-dx) (y-dy))) (-(r:Int)) (max W W'+2*r) (-(r:Int)) (max H H'+2*r):=by
  rw[OA (fun x y=>b1 (B x y))];unfold JE;refine (CW (by omega) (by omega) (by omega) (by omega) fun x y hxy => ?_).symm;rw[aBv hB (by omega)];rfl
 rw[e1,e2,e3,←CV,Nat.two_mul];unfold R9;rw[←CV,←CV];refine OB fun x y => ?_;cases A x y<;>cases B (x-dx) (y-dy)<;>rfl
def nH (f : Nat → Nat) : Nat → Nat
 |0=>0
 |n+1=>max (nH f n) (f n)
theorem CX {f:Nat→Nat} {c n:Nat} (h:∀i,i<n→f i≤c):nH f n≤c:=by
 induction n with
 |zero=>exact Nat.zero_le _
 |succ n ih=>have a:=ih fun i hi=>h i (by omega);have b:=h n (by omega);show max (nH f n) (f n)≤c;omega
def AN (r i:Nat):Int:=((i % (2*r+1):Nat):Int)-(r:Int)
def AO (r i:Nat):Int:=((i / (2*r+1):Nat):Int)-(r:Int)
def mC (A B:Int→Int→Bool) (W H W' H' r i:Nat):Nat:=E9 A B W H W' H' (AN r i) (AO r i)
def RH (A B:Int→Int→Bool) (W H W' H' r:Nat):Int:=(JE A W H:Int)+(JE B W' H':Int)-2*(nH (mC A B W H W' H' r) ((2*r+1)*(2*r+1)):Int)
theorem OC {T n b m:Nat} {l:Int} (hn:n+2*b=T) (hl:l = -1∧m=0∨l=(T:Int)-2*(m:Int)) (hm:2*m≤T):(if l<0∨(n:Int)<l then (n:Int) else l)=(T:Int)-2*((max m b:Nat):Int):=by
 rcases hl with ⟨rfl,rfl⟩|rfl
 ·rw[if_pos (.inl (by decide))];omega
 ·split
  ·rename_i h
   omega
  ·rename_i h
   omega
def gV (bs:List Bool) (W H:Nat) (x y:Int):Bool:=atI bs W H x y
theorem rI (bs:List Bool) (W H:Nat):Held (gV bs W H) W H:=fun x y h=>by
 unfold gV atI at h;rw[aIs] at h;exact aIv h.1
theorem JJ (bs:List Bool) (W H x y:Nat) (hx:x<W) (hy:y<H):gV bs W H x y=bs.getD (y*W+x) false:=t8 bs W H x y hx hy
def kQ (bs:List Bool) (n:Nat):Nat:=jQ (fun i=>b1 (bs.getD i false)) n
theorem AP (bs:List Bool) (n:Nat):kQ bs (n+1)=kQ bs n+b1 (bs.getD n false):=rfl
theorem lL (bs:List Bool) (n:Nat):kQ bs n≤n:=by
 have:=mB (f:=fun i=>b1 (bs.getD i false)) (c:=1) (fun _=>cAb _) n;simpa [kQ] using this
theorem mM (bs:List Bool) (W H:Nat):kQ bs (W*H)=JE (gV bs W H) W H:=by
 unfold kQ JE zK gQ;rw[Nat.mul_comm,wI];refine eI fun y hy=>eI fun x hx => ?_;rw[show (0:Int)+(x:Int)=(x:Int) by omega,show (0:Int)+(y:Int)=(y:Int) by omega];show b1 (bs.getD (y*W+x) false)=b1 (gV bs W H x y);rw[JJ bs W H x y hx hy]
theorem OD (A B:Int→Int→Bool) (W H W' H' r i:Nat):mC A B W H W' H' r i≤H*W:=by
 unfold mC E9;refine aII (Z5 (fun x y=>cAb _) _ _ _ _) ?_;refine aIH ?_ ?_<;>(unfold qF;omega)
theorem CY (A B:Int→Int→Bool) (W H W' H' r n:Nat):nH (mC A B W H W' H' r) n≤H*W:=CX fun i _=>OD A B W H W' H' r i
theorem vN (r i j:Nat) (hj:j<2*r+1):AN r (i*(2*r+1)+j)=(j:Int)-(r:Int)∧AO r (i*(2*r+1)+j)=(i:Int)-(r:Int):=by
 unfold AN AO;have e1:(i*(2*r+1)+j) % (2*r+1)=j:=(by rw[Nat.mul_comm,Nat.mul_add_mod,Nat.mod_eq_of_lt hj]);have e2:(i*(2*r+1)+j) / (2*r+1)=i:=(by rw[Nat.mul_comm,Nat.mul_add_div (by omega),Nat.div_eq_of_lt hj,Nat.add_zero]);rw[e1,e2];exact ⟨rfl,rfl⟩
def aA9 (cs bs : List Bool) (n m : Nat) : Nat → Nat
 |0=>0
 |1=>kQ cs n
 |_=>kQ cs n+kQ bs m
def Z6 (A B:Int→Int→Bool) (dx dy x0:Int) (nx:Nat) (y:Int):Nat:=gQ (fun x=>b1 (A x y&&B (x-dx) (y-dy))) x0 nx
theorem SA (A B:Int→Int→Bool) (W H W' H':Nat) (dx dy:Int):E9 A B W H W' H' dx dy=gQ (Z6 A B dx dy (max 0 dx) (qF (max 0 dx) (min (W:Int) ((W':Int)+dx)))) (max 0 dy) (qF (max 0 dy) (min (H:Int) ((H':Int)+dy))):=rfl
theorem rJ {w:World} {A:Option Addr} {n:Nat} {bs:List Bool} (h:Reads w 1 A n (bs.map .bool)) {k:Nat} (hk:k<n):∃ad,A=some ad∧w.cell? (ad.add k)=some (.bool (bs.getD k false)):=by
 obtain ⟨ad,u,e,hu,hc⟩:=h.at_ hk;refine ⟨ad,e,?_⟩;simp only[aId,Option.map_eq_some_iff] at hu;obtain ⟨b,hb1,hb2⟩:=hu;rw[hc,←hb2,List.getD,hb1];rfl
theorem FF (W H W' H' r:Nat) (A B:Option Addr) (ac bc:Nat) (cs bs:List Bool) (w:World) (hA:Reads w 1 A (W*H) (cs.map .bool)) (hB:Reads w 1 B (W'*H') (bs.map .bool)) (hW:W≤4000) (hH:H≤4000) (hW':W'≤4000) (hH':H'≤4000) (hr:r≤4) :
 Calls Tryz.prog 159 #[.agg #[W,H,.slice A (W*H) ac],.agg #[W',H',.slice B (W'*H') bc],r] w fun e w'=>e=.returned (.int .i64 (RH (gV cs W H) (gV bs W' H') W H W' H' r))∧Bl w w':=by
 let w2:=((w).alloc (.cells #[W,H,.slice A (W*H) ac] 43)).alloc (.cells #[W',H',.slice B (W'*H') bc] 43);obtain ⟨w2b,w21,w22⟩:=aHP (x:=w2) w _ _ _ _ rfl;have hA2:=hA.bl w2b;have hB2:=hB.bl w2b;have k1:=w21.all3;have k2:=w22.all3;have hn:W*H≤16000000:=(by have:=aIH hW hH;omega);have hm:W'*H'≤16000000:=(by have:=aIH hW' hH';omega);have HA:=aHH hA2;have HB:=aHH hB2;have t1:=lL cs (W*H);have t2:=lL bs (W'*H');have i0:∀w:World,(Instr.index 219 (.agg #[W,H,.slice A (W*H) ac,W',H',.slice B (W'*H') bc]) (.int .i64 0)).run Tryz.prog w=.ok (.agg #[W,H,.slice A (W*H) ac]) w:=fun _=>(by kernel_rfl);have i1:∀w:World,(Instr.index 219 (.agg #[W,H,.slice A (W*H) ac,W',H',.slice B (W'*H') bc]) (.int .i64 1)).run Tryz.prog w=.ok (.agg #[W',H',.slice B (W'*H') bc]) w:=fun _=>(by kernel_rfl);clear hA hB hA2 hB2
 go_in
 go_wp2_with fail;go_loopw [21,7] (fun u v wr=>∃i:Nat,i≤2∧u=.int .i64 i∧v=.int .i64 (aA9 cs bs (W*H) (W'*H') i:Nat)∧Bl w2 wr) (fun u _ _=>2-(RowKit.intOf u).toNat);case atStart=>exact ⟨0,by omega,rfl,rfl,Bl.refl _⟩
 case round=>
  clear k1 k2;obtain ⟨i,hi,rfl,rfl,hbr⟩:=hrel;by_cases hlt:i<2
  ·have inner:∀(X:Option Addr) (q pre:Nat) (zs:List Bool),True:=fun _ _ _ _=>trivial;clear inner;have VF:i=0∨i=1:=(by omega);rcases VF with rfl|rfl
   ·have e0:aA9 cs bs (W*H) (W'*H') 0=0:=rfl;rw[e0];go_wp2_with fail;obtain ⟨w5,hw5⟩:=aH0 (wr.alloc (.cells #[W,H,.slice A (W*H) ac] 43));have hb5:=aHU hw5;rw[←hw5];clear hw5;go_loopw [27,7] (fun u v wx=>∃k:Nat,k≤W*H∧u=.int .i64 k∧v=.int .i64 (kQ cs k:Nat)∧Bl w5 wx) (fun u _ _=>W*H-(RowKit.intOf u).toNat);case atStart=>exact ⟨0,Nat.zero_le _,rfl,rfl,Bl.refl _⟩
    case round=>
     rename World=>wx;obtain ⟨k,hk,rfl,rfl,hbx⟩:=hrel;have hts:=AP cs k;have htl:=lL cs k;obtain ⟨v,hv⟩:=aH0 (kQ cs k);rw[←hv] at hts htl ⊢;have Hts:=aHH hts;have HVv:=aHH hv;clear hts hv;by_cases hkl:k<W*H
     ·obtain ⟨ad,rfl,j1⟩:=rJ (HA.out.bl (hbr.trans (hb5.trans hbx))) hkl;obtain ⟨bt,hbt⟩:=aH0 (cs.getD k false);rw[←hbt] at j1;have HBt:=aHH hbt;clear hbt;cases bt
      ·have HN:=aHH (show kQ cs (k+1)=v by rw[Hts.out,←HBt.out];rfl);go_wp2_with fail;exact ⟨⟨k+1,hkl,by go_num,by rw[HN.out],hbx⟩,by simp[RowKit.intOf]<;>omega⟩
      ·have HN:=aHH (show kQ cs (k+1)=v+1 by rw[Hts.out,←HBt.out];rfl);go_wp2_with fail;exact ⟨⟨k+1,hkl,by go_num,by rw[HN.out];go_num,hbx⟩,by simp[RowKit.intOf]<;>omega⟩
     ·obtain rfl:k=W*H:=(by omega);have HN:=aHH (show aA9 cs bs (W*H) (W'*H') 1=v by rw[HVv.out];rfl);go_wp2_with fail;exact ⟨⟨1,by omega,by go_num,by rw[HN.out],hbr.trans (hb5.trans hbx)⟩,by simp[RowKit.intOf]<;>omega⟩
   ·have e0:aA9 cs bs (W*H) (W'*H') 1=kQ cs (W*H):=rfl;rw[e0];obtain ⟨P0,hP0⟩:=aH0 (kQ cs (W*H));rw[←hP0] at t1 ⊢;have HP0:=aHH hP0;clear hP0 e0;go_wp2_with fail;obtain ⟨w5,hw5⟩:=aH0 (wr.alloc (.cells #[W',H',.slice B (W'*H') bc] 43));have hb5:=aHU hw5;rw[←hw5];clear hw5;go_loopw [27,7] (fun u v wx=>∃k:Nat,k≤W'*H'∧u=.int .i64 k∧v=.int .i64 (P0+kQ bs k:Nat)∧Bl w5 wx) (fun u _ _=>W'*H'-(RowKit.intOf u).toNat);case atStart=>exact ⟨0,Nat.zero_le _,rfl,rfl,Bl.refl _⟩
    case round=>
     rename World=>wx;obtain ⟨k,hk,rfl,rfl,hbx⟩:=hrel;have hts:=AP bs k;have htl:=lL bs k;obtain ⟨v,hv⟩:=aH0 (kQ bs k);rw[←hv] at hts htl ⊢;have Hts:=aHH hts;have HVv:=aHH hv;clear hts hv;by_cases hkl:k<W'*H'
     ·obtain ⟨ad,rfl,j1⟩:=rJ (HB.out.bl (hbr.trans (hb5.trans hbx))) hkl;obtain ⟨bt,hbt⟩:=aH0 (bs.getD k false);rw[←hbt] at j1;have HBt:=aHH hbt;clear hbt;cases bt
      ·have HN:=aHH (show kQ bs (k+1)=v by rw[Hts.out,←HBt.out];rfl);go_wp2_with fail;exact ⟨⟨k+1,hkl,by go_num,by rw[HN.out],hbx⟩,by simp[RowKit.intOf]<;>omega⟩
      ·have HN:=aHH (show kQ bs (k+1)=v+1 by rw[Hts.out,←HBt.out];rfl);go_wp2_with fail;exact ⟨⟨k+1,hkl,by go_num,by rw[HN.out];go_num,hbx⟩,by simp[RowKit.intOf]<;>omega⟩
     ·obtain rfl:k=W'*H':=(by omega);have HN:=aHH (show aA9 cs bs (W*H) (W'*H') 2=P0+v by rw[HVv.out,HP0.out];rfl);go_wp2_with fail;exact ⟨⟨2,by omega,by go_num,by rw[HN.out],hbr.trans (hb5.trans hbx)⟩,by simp[RowKit.intOf]<;>omega⟩
  ·obtain rfl:i=2:=(by omega);have e2:aA9 cs bs (W*H) (W'*H') 2=kQ cs (W*H)+kQ bs (W'*H'):=rfl;have hT1:=mM cs W H;have hT2:=mM bs W' H';rw[e2];obtain ⟨P1,hP1⟩:=aH0 (kQ cs (W*H));obtain ⟨P2,hP2⟩:=aH0 (kQ bs (W'*H'));rw[←hP1] at t1 hT1 ⊢;rw[←hP2] at t2 hT2 ⊢;obtain ⟨F,hF⟩:=aH0 (mC (gV cs W H) (gV bs W' H') W H W' H' r);have hFb:∀k,nH F k≤16000000:=fun k=>by
    have:=CY (gV cs W H) (gV bs W' H') W H W' H' r k;rw[←hF] at this;rw[Nat.mul_comm] at this;omega
   have hFi:∀i j,j<2*r+1→F (i*(2*r+1)+j)=E9 (gV cs W H) (gV bs W' H') W H W' H' ((j:Int)-(r:Int)) ((i:Int)-(r:Int)):=fun i j hj=>by
    rw[hF];unfold mC;rw[(vN r i j hj).1,(vN r i j hj).2]
   have vF:RH (gV cs W H) (gV bs W' H') W H W' H' r=(P1:Int)+(P2:Int)-2*(nH F ((2*r+1)*(2*r+1)):Int):=by
    unfold RH;rw[←hF,←hT1,←hT2]
   have k1:=(w21.bl hbr).all3;have k2:=(w22.bl hbr).all3;obtain ⟨HA2,HB2,HFb,HFi,HRs⟩:=aHK (HA.out.bl hbr) (HB.out.bl hbr) hFb hFi vF;clear hF hFb hFi vF hT1 hT2 hP1 hP2 e2 i0 i1 HA HB;go_wp2_with fail;go_loopw [13,12] (fun u v wx=>∃i:Nat,i≤2*r+1∧u=.int .i64 ((i:Int)-(r:Int))∧v=.int .i64 (nH F (i*(2*r+1)):Nat)∧wr=wx) (fun u _ _=>2*r+1-(RowKit.intOf u+(r:Int)).toNat);case atStart=>exact ⟨0,Nat.zero_le _,by simp,by simp[nH],rfl⟩
   case round=>
    obtain ⟨i,hi,rfl,rfl,rfl⟩:=hrel;by_cases hlt:i<2*r+1
    ·have hc:(i:Int)-(r:Int)≤(r:Int):=(by omega);obtain ⟨dy,hdy⟩:=aH0 ((i:Int)-(r:Int));have hd1:-4≤dy∧dy≤4:=(by omega);rw[←hdy] at hc ⊢;have HDy:=aHH hdy;have hM0:=HFb.out (i*(2*r+1));clear hdy;go_wp2_with fail;go_loopw [14,12] (fun u v wx=>∃j:Nat,j≤2*r+1∧u=.int .i64 ((j:Int)-(r:Int))∧v=.int .i64 (nH F (i*(2*r+1)+j):Nat)∧wr=wx) (fun u _ _=>2*r+1-(RowKit.intOf u+(r:Int)).toNat);case atStart=>exact ⟨0,Nat.zero_le _,by simp,by simp,rfl⟩
     case round=>
      obtain ⟨j,hj,rfl,rfl,rfl⟩:=hrel;by_cases hjt:j<2*r+1
      ·have hFj:=HFi.out i j hjt;have hcj:(j:Int)-(r:Int)≤(r:Int):=(by omega);obtain ⟨dx,hdx⟩:=aH0 ((j:Int)-(r:Int));have hd2:-4≤dx∧dx≤4:=(by omega);rw[←hdx,←HDy.out,SA] at hFj;rw[←hdx] at hcj ⊢;have HDx:=aHH hdx;have hM1:=HFb.out (i*(2*r+1)+j);obtain ⟨M,hM⟩:=aH0 (nH F (i*(2*r+1)+j));have hMs:nH F (i*(2*r+1)+(j+1))=max M (F (i*(2*r+1)+j)):=(by rw[hM];rfl);rw[←hM] at hM1 ⊢;obtain ⟨x0,hx0⟩:∃x0:Nat,(x0:Int)=max 0 dx:=⟨(max 0 dx).toNat,by omega⟩;obtain ⟨y0,hy0⟩:∃y0:Nat,(y0:Int)=max 0 dy:=⟨(max 0 dy).toNat,by omega⟩;obtain ⟨x1,hx1⟩:=aH0 (min (W:Int) ((W':Int)+dx));obtain ⟨y1,hy1⟩:=aH0 (min (H:Int) ((H':Int)+dy));have gx0:(if (0:Int)<dx then dx else 0)=(x0:Int):=(by split<;>omega);have gy0:(if (0:Int)<dy then dy else 0)=(y0:Int):=(by split<;>omega);have gx1:(if (W:Int)<(W':Int)+dx then (W:Int) else (W':Int)+dx)=x1:=(by split<;>omega);have gy1:(if (H:Int)<(H':Int)+dy then (H:Int) else (H':Int)+dy)=y1:=(by split<;>omega);have gx2:(if dx<0 then (0:Int) else dx)=(x0:Int):=(by split<;>omega);have gy2:(if dy<0 then (0:Int) else dy)=(y0:Int):=(by split<;>omega);have gx3:(if (W':Int)+dx<(W:Int) then (W':Int)+dx else (W:Int))=x1:=(by split<;>omega);have gy3:(if (H':Int)+dy<(H:Int) then (H':Int)+dy else (H:Int))=y1:=(by split<;>omega);rw[←hx0,←hx1,←hy0,←hy1] at hFj;obtain ⟨nx,hnx⟩:=aH0 (qF (x0:Int) x1);obtain ⟨ny,hny⟩:=aH0 (qF (y0:Int) y1);rw[←hnx,←hny] at hFj;obtain ⟨Row,YD⟩:=aH0 (Z6 (gV cs W H) (gV bs W' H') dx dy (x0:Int) nx);rw[←YD] at hFj;obtain ⟨HFj,HMs,sS,HM,Hx0,Hy0,Hx1,Hy1⟩:=aHN hFj hMs YD hM hx0 hy0 hx1 hy1;have Hnx:=aHH hnx;have Hny:=aHH hny;have hrl:∀y,Row y≤nx:=fun y=>(by rw[YD];unfold Z6;have:=oF (c:=1) (fun x=>cAb (gV cs W H x y&&gV bs W' H' (x-dx) (y-dy))) (x0:Int) nx;omega);have hwl:∀k,k≤ny→gQ Row (y0:Int) k≤16000000:=fun k hk=>by
        have h1:=oF (c:=nx) hrl (y0:Int) k;have h2:nx≤W:=by rw[hnx];unfold qF;omega
        have h3 : k ≤ H := by have : ny ≤ H := by rw [hny]; unfold qF; omega
                              omega
        have h4:=aIH h3 h2;rw[Nat.mul_comm H W] at h4;omega
       have HWl:=aHH hwl;have hy4:y0≤4:=(by omega);have hx4:x0≤4:=(by omega);clear hFj hMs YD hM hx0 hy0 hx1 hy1 hnx hny hrl hwl hdx;go_wp2_with fail;go_loopw [16,15] (fun u v wx=>∃y:Nat,y0≤y∧y≤y0+ny∧u=.int .i64 (y:Int)∧v=.int .i64 (gQ Row (y0:Int) (y-y0):Nat)∧wr=wx) (fun u _ _=>y0+ny-(RowKit.intOf u).toNat);case atStart=>exact ⟨y0,Nat.le_refl _,by omega,rfl,by rw[Nat.sub_self];rfl,rfl⟩
       case round=>
        obtain ⟨y,hya,hyb,rfl,rfl,rfl⟩:=hrel;by_cases hyt:y<y0+ny
        ·have hyc:(y:Int)<y1:=(by have:=Hny.out;unfold qF at this;omega);have hP:=HWl.out (y-y0) (by omega);have hPs:gQ Row (y0:Int) (y+1-y0)=gQ Row (y0:Int) (y-y0)+Row (y:Int):=by
          rw[show y+1-y0=(y-y0)+1 by omega,rH,show (y0:Int)+((y-y0:Nat):Int)=(y:Int) by omega]
         have hPb:=HWl.out (y+1-y0) (by omega);have hyH:y<H:=(by have:=Hy1.out;omega);obtain ⟨yb,aDt⟩:∃yb:Nat,(yb:Int)=(y:Int)-dy:=⟨((y:Int)-dy).toNat,by have:=Hy0.out;omega⟩;have aFe:yb<H':=(by have:=Hy1.out;omega);obtain ⟨G,hG⟩:∃G:Int→Nat,G=fun x=>b1 (gV cs W H x (y:Int)&&gV bs W' H' (x-dx) ((y:Int)-dy)):=⟨_,rfl⟩;have hRG:Row (y:Int)=gQ G (x0:Int) nx:=(by rw[sS.out,hG];rfl);rw[hRG] at hPs;obtain ⟨P,hPP⟩:=aH0 (gQ Row (y0:Int) (y-y0));rw[←hPP] at hP hPs ⊢;have hGl:∀k,gQ G (x0:Int) k≤k:=fun k=>(by have:=oF (f:=G) (c:=1) (fun z=>by rw[hG];exact cAb _) (x0:Int) k;omega);have hGx:∀xn xb:Nat,xn<W→xb<W'→(xb:Int)=(xn:Int)-dx→G (xn:Int)=b1 (cs.getD (y*W+xn) false&&bs.getD (yb*W'+xb) false):=fun xn xb h1 h2 h3=>by
          rw[hG];show b1 (gV cs W H xn y&&gV bs W' H' ((xn:Int)-dx) ((y:Int)-dy))=_;rw[←aDt,←h3,JJ cs W H xn y h1 hyH,JJ bs W' H' xb yb h2 aFe]
         have q1:0≤(y:Int)*(W:Int)∧(y:Int)*(W:Int)≤16000000:=by
          have h5:=aIG y W;have h6:=aIH (show y≤4000 by omega) hW;omega
         have q2:0≤(yb:Int)*(W':Int)∧(yb:Int)*(W':Int)≤16000000:=by
          have h5:=aIG yb W';have h6:=aIH (show yb≤4000 by omega) hW';omega
         have hnxW:nx≤4000:=(by have:=Hnx.out;unfold qF at this;have:=Hx1.out;omega);have hyb3:(y:Int)-dy=(yb:Int):=aDt.symm;obtain ⟨HPs,HGx,HGl⟩:=aHI hPs hGx hGl;clear hPs hG hRG hPP hGl hGx hPb aDt;go_wp2_with fail;go_loopw [17,15] (fun u v wx=>∃x:Nat,x0≤x∧x≤x0+nx∧u=.int .i64 (x:Int)∧v=.int .i64 ((P+gQ G (x0:Int) (x-x0):Nat):Int)∧wr=wx) (fun u _ _=>x0+nx-(RowKit.intOf u).toNat);case atStart=>exact ⟨x0,Nat.le_refl _,by omega,rfl,by rw[Nat.sub_self];rfl,rfl⟩
         case round=>
          obtain ⟨x,hxa,hxb,rfl,rfl,rfl⟩:=hrel;have hV:=HGl.out (x-x0);have hVs:gQ G (x0:Int) (x+1-x0)=gQ G (x0:Int) (x-x0)+G (x:Int):=by
           rw[show x+1-x0=(x-x0)+1 by omega,rH,show (x0:Int)+((x-x0:Nat):Int)=(x:Int) by omega]
          by_cases hxt:x<x0+nx
          ·have hxc:(x:Int)<x1:=(by have:=Hnx.out;unfold qF at this;omega);have hxW:x<W:=(by have:=Hx1.out;omega);obtain ⟨xb,aFf⟩:∃xb:Nat,(xb:Int)=(x:Int)-dx:=⟨((x:Int)-dx).toNat,by have:=Hx0.out;omega⟩;have aFg:xb<W':=(by have:=Hx1.out;omega);have hGv:=HGx.out x xb hxW aFg aFf;obtain ⟨ka,hka⟩:=aH0 (y*W+x);obtain ⟨kb,hkb⟩:=aH0 (yb*W'+xb);have eka:(y:Int)*(W:Int)+(x:Int)=(ka:Int):=(by rw[hka];simp);have ekb:(yb:Int)*(W':Int)+(x:Int)-dx=(kb:Int):=by
            have:(kb:Int)=(yb:Int)*(W':Int)+(xb:Int):=(by rw[hkb];simp);omega
           have aGo:ka<W*H:=(by rw[hka];exact d8 hxW hyH);have aGp:kb<W'*H':=(by rw[hkb];exact d8 aFg aFe);obtain ⟨ada,eA,ja⟩:=rJ HA2.out aGo;obtain ⟨adb,eB,jb⟩:=rJ HB2.out aGp;rw[←hka,←hkb] at hGv;obtain ⟨va,hva⟩:=aH0 (cs.getD ka false);obtain ⟨vb,hvb⟩:=aH0 (bs.getD kb false);rw[←hva] at ja hGv;rw[←hvb] at jb hGv;rw[hGv] at hVs;obtain ⟨V,hVV⟩:=aH0 (gQ G (x0:Int) (x-x0));rw[←hVV] at hV hVs ⊢;have HVs:=aHH hVs;subst eA;subst eB;clear hVs hVV hva hvb hGv hka hkb aFf;cases va
           ·have HN:=aHH (show P+gQ G (x0:Int) (x+1-x0)=P+V by rw[HVs.out];rfl);go_wp2_with fail;exact ⟨⟨x+1,by omega,by omega,by go_num,by rw[HN.out],trivial⟩,by simp[RowKit.intOf]<;>omega⟩
           ·cases vb
            ·have HN:=aHH (show P+gQ G (x0:Int) (x+1-x0)=P+V by rw[HVs.out];rfl);go_wp2_with fail;exact ⟨⟨x+1,by omega,by omega,by go_num,by rw[HN.out],trivial⟩,by simp[RowKit.intOf]<;>omega⟩
            ·have HN:=aHH (show P+gQ G (x0:Int) (x+1-x0)=P+V+1 by rw[HVs.out];rfl);go_wp2_with fail;exact ⟨⟨x+1,by omega,by omega,by go_num,by rw[HN.out];go_num,trivial⟩,by simp[RowKit.intOf]<;>omega⟩
          ·obtain rfl:x=x0+nx:=(by omega);have hxc:¬((x0:Int)+(nx:Int)<x1):=(by have:=Hnx.out;unfold qF at this;omega);have HN:=aHH (show gQ Row (y0:Int) (y+1-y0)=P+gQ G (x0:Int) (x0+nx-x0) by rw[HPs.out,show x0+nx-x0=nx by omega]);go_wp2_with fail;exact ⟨⟨y+1,by omega,by omega,by go_num,by rw[HN.out],trivial⟩,by simp[RowKit.intOf]<;>omega⟩
        ·obtain rfl:y=y0+ny:=(by omega);have hyc:¬((y0:Int)+(ny:Int)<y1):=(by have:=Hny.out;unfold qF at this;omega);have hFv:=HFj.out;have hMs:=HMs.out;have aGq:=HWl.out ny (Nat.le_refl _);rw[show y0+ny-y0=ny by omega];rw[hFv] at hMs;obtain ⟨V,hVV⟩:=aH0 (gQ Row (y0:Int) ny);rw[←hVV] at hMs aGq ⊢;obtain ⟨Mx,hMx⟩:=aH0 (max M V);rw[←hMx] at hMs;have gm1:(if (M:Int)<(V:Int) then (V:Int) else (M:Int))=(Mx:Int):=(by split<;>omega);have gm2:(if M<V then (V:Int) else (M:Int))=(Mx:Int):=(by split<;>omega);have gm3:(if (V:Int)<(M:Int) then (M:Int) else (V:Int))=(Mx:Int):=(by split<;>omega);have gm4:(if V<M then (M:Int) else (V:Int))=(Mx:Int):=(by split<;>omega);have aGr:=aHH hMs;clear hFv hMs hVV hMx;go_wp2_with fail;exact ⟨⟨j+1,hjt,by rw[HDx.out];go_num,by rw[aGr.out],trivial⟩,by rw[HDx.out];simp[RowKit.intOf]<;>omega⟩
      ·obtain rfl:j=2*r+1:=(by omega);have hcj:¬(((2*r+1:Nat):Int)-(r:Int)≤(r:Int)):=(by omega);have he:i*(2*r+1)+(2*r+1)=(i+1)*(2*r+1):=(by rw[Nat.add_mul,Nat.one_mul]);rw[he];have HDy2:=HDy;go_wp2_with fail;exact ⟨⟨i+1,hlt,by rw[HDy.out];go_num,rfl,trivial⟩,by rw[HDy.out];simp[RowKit.intOf]<;>omega⟩
    ·obtain rfl:i=2*r+1:=(by omega);have hc:¬(((2*r+1:Nat):Int)-(r:Int)≤(r:Int)):=(by omega);have hb:=HFb.out ((2*r+1)*(2*r+1));obtain ⟨M,hM⟩:=aH0 (nH F ((2*r+1)*(2*r+1)));have vF:=HRs.out;rw[←hM] at hb vF ⊢;have HR2:=aHH vF;clear hM vF;go_wp2_with fail;go_ret;exact ⟨cP (by rw[HR2.out]<;>omega),w2b.trans hbr⟩
end Go.Proofs.YtllefinciimffaaGreatDoor
