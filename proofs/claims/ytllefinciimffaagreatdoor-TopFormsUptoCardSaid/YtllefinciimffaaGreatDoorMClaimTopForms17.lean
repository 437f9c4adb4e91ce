import Derived.Test.YtllefinciimffaaGreatDoorMClaimTopForms10
import Derived.Shelf.SlSortCmp.WholeK
import Derived.Ground.SlsfProg
import Derived.Ground.SlgcProg
import Derived.Shelf.SlicesG.Cmp
import Derived.Shelf.Small.Strs
import Derived.Laws.Cover1
set_option maxHeartbeats 20000000
set_option maxRecDepth 100000
namespace Go.Proofs.YtllefinciimffaaGreatDoor
open Go.RowKit Go.Shelf
def aAP (ls : List Ltr) : Option Nat → List UInt8
 |none=>[32]
 |some k=>gL ls k
def dN (ls:List Ltr) (l:List (Option Nat)):List UInt8:=l.flatMap (aAP ls)
theorem MH {ls:List Ltr}:∀(n:Nat) (t:List UInt8) (l:List (Option Nat)),oP ls n t=some l→dN ls l=t:=by
 intro n;induction n with
 |zero=>
  intro t l h;cases t with
  |nil=>have h:=aLZ h;subst h;rfl
  |cons c t=>cases h
 |succ n ih=>
  intro t l h;cases t with
  |nil=>have h:=aLZ h;subst h;rfl
  |cons c t=>
   unfold oP at h;split at h
   ·rename_i hc
    obtain ⟨l',h1,rfl⟩:=Option.map_eq_some_iff.1 h;show [32]++dN ls l'=c :: t;rw[ih _ _ h1,hc];rfl
   ·split at h
    ·cases h
    ·rename_i h0
     obtain ⟨l',h1,rfl⟩:=Option.map_eq_some_iff.1 h;obtain ⟨k,hk,e,hp⟩:=yH ls (c :: t) (by omega);rw[e] at h1 ⊢;simp only[aL8] at h1 ⊢;show gL ls k++dN ls l'=c :: t;rw[ih _ _ h1];unfold Lib.hasPrefix at hp;obtain ⟨r,hr⟩:=List.isPrefixOf_iff_prefix.1 hp;rw[←hr,List.drop_left]
theorem C5 {ls:List Ltr} {t:List UInt8} {l:List (Option Nat)} (h:fT ls t=some l):dN ls l=t:=MH _ _ _ h
def yZ : Bool → List (Option Nat) → Prop
 |b,[]=>b=true
 |b,none :: l=>b=true∧yZ false l
 |_,some _ :: l=>yZ true l
theorem FN {ls : List Ltr} : ∀ (l : List (Option Nat)) (b : Bool), (b = false → dN ls l ≠ [] ∧ ∀ r, dN ls l ≠ 32 :: r) → (∀ p, dN ls l ≠ p ++ [32]) → (∀ p r, dN ls l ≠ p ++ 32 :: 32 :: r) → yZ b l
 |[],b,h1,_,_=>by
  cases b
  ·exact absurd rfl (h1 rfl).1
  ·rfl
 |none :: l,b,h1,h2,h3=>by
  have e:dN ls (none :: l)=32 :: dN ls l:=rfl;rw[e] at h1 h2 h3;refine ⟨?_,FN l false (fun _=>⟨fun h=>h2 [] (by rw[h];rfl),fun r h=>h3 [] r (by rw[h];rfl)⟩) (fun p h=>h2 (32 :: p) (by rw[h];rfl)) (fun p r h=>h3 (32 :: p) r (by rw[h];rfl))⟩;cases b
  ·exact absurd rfl ((h1 rfl).2 _)
  ·rfl
 |some k :: l,b,h1,h2,h3=>by
  have e:dN ls (some k :: l)=gL ls k++dN ls l:=rfl;rw[e] at h1 h2 h3;exact FN l true (fun h=>absurd h (by decide)) (fun p h=>h2 (gL ls k++p) (by rw[h,aLL])) (fun p r h=>h3 (gL ls k++p) r (by rw[h,aLL]))
theorem aC8 {ls:List Ltr} {t:List UInt8} {l:List (Option Nat)} (h:fT ls t=some l) (hn:t≠[]) (hf:lR t=false):yZ false l:=by
 have e:=C5 h;have hb:=aAz hf;unfold BadForm at hb;refine FN (ls:=ls) l false (fun _=>⟨by rw[e];exact hn,fun r hr=>hb (.inl ⟨r,by rw[←e];exact hr⟩)⟩) (fun p hp=>hb (.inr (.inl ⟨p,by rw[←e];exact hp⟩))) (fun p r hp=>hb (.inr (.inr ⟨p,r,by rw[←e];exact hp⟩)))
def MI (ls:List Ltr) (p:Nat × Nat):Piece:=(p.2,eZ ls p.1)
theorem lK {ls : List Ltr} {gap sp : Nat} : ∀ (l : List (Option Nat)) (s : Spot), ∀ p ∈ cJ ls gap sp s l, s.1 ≤ p.2
 |[],_,p,hp=>by cases hp
 |none :: l,s,p,hp=>by
  have h:s.1+sp≤p.2:=lK l (LS ls gap sp s none) p hp;omega
 |some k :: l,s,p,hp=>by
  have h0:s.1≤dU gap s:=(by unfold dU;split<;>omega);rcases aLN.1 hp with rfl|hp
  ·exact h0
  ·have h:dU gap s+eZ ls k≤p.2:=lK l (LS ls gap sp s (some k)) p hp;omega
theorem kX {ls : List Ltr} {gap sp : Nat} : ∀ (l : List (Option Nat)) (s : Spot), ∀ p ∈ cJ ls gap sp s l, some p.1 ∈ l
 |[],_,p,hp=>by cases hp
 |none :: l,s,p,hp=>List.mem_cons_of_mem _ (kX l _ p hp)
 |some k :: l,s,p,hp=>by
  rcases aLN.1 hp with rfl|hp
  ·exact List.mem_cons_self ..
  ·exact List.mem_cons_of_mem _ (kX l _ p hp)
theorem MJ {ls:List Ltr} {pl:List (Nat × Nat)} {x y:Nat} (h:∀p∈pl,x<p.2):sO ls pl x y=false:=by
 unfold sO;rw[List.any_eq_false];intro p hp;have:=h p hp;unfold BD;simp;omega
theorem xK {ls : List Ltr} {gap sp : Nat} : ∀ (l : List (Option Nat)) (s : Spot) (p : Nat × Nat), p ∈ cJ ls gap sp s l → ∀ i y, i < eZ ls p.1 → sO ls (cJ ls gap sp s l) (p.2 + i) y = pix (Q6 ls p.1) (eZ ls p.1) i y
 |[],_,p,hp,_,_,_=>by cases hp
 |none :: l,s,p,hp,i,y,hi=>xK l (LS ls gap sp s none) p hp i y hi
 |some k :: l,s,p,hp,i,y,hi=>by
  have e:cJ ls gap sp s (some k :: l)=[(k,dU gap s)]++cJ ls gap sp (LS ls gap sp s (some k)) l:=rfl;rw[e,yI,ON];have hst:=lK (ls:=ls) (gap:=gap) (sp:=sp) l (LS ls gap sp s (some k));have hgo:(LS ls gap sp s (some k)).1=dU gap s+eZ ls k:=rfl;rw[hgo] at hst;rcases aLN.1 hp with rfl|hp
  ·rw[aAj hi,MJ (fun q hq=>by have:=hst q hq;have hi':i<eZ ls k:=hi;show dU gap s+i<q.2;omega),Bool.or_false]
  ·have hp2:=hst p hp;have hl:BD ls (k,dU gap s) (p.2+i) y=false:=by
    unfold BD;rw[aLW (show ¬(p.2+i<dU gap s+eZ ls k) by omega)];simp
   rw[hl,Bool.false_or];exact xK l _ p hp i y hi
theorem kJ {f : Nat → Nat} {a : Nat} : ∀ m, (∀ x, a ≤ x → x < a + m → f x = 0) → aB f (a + m) = aB f a
 |0,_=>rfl
 |m+1,h=>by
  show (if f (a+m)=0 then aB f (a+m) else _)=_;rw[if_pos (h _ (by omega) (by omega))];exact kJ m (fun x h1 h2=>h x h1 (by omega))
theorem wI {f : Nat → Nat} {a : Nat} (ha : o6 f a = false) : ∀ m, (∀ x, a ≤ x → x < a + (m + 1) → 0 < f x) → aB f (a + (m + 1)) = aB f a ++ [(a, m + 1)]
 |0,h=>by
  have h0:=h a (by omega) (by omega);show (if f a=0 then aB f a else if o6 f a=true then sZ (aB f a) else aB f a++[(a,1)])=_;rw[if_neg (by omega),if_neg (by rw[ha];decide)]
 |m+1,h=>by
  have ih:=wI ha m (fun x h1 h2=>h x h1 (by omega));have h1:=h (a+(m+1)) (by omega) (by omega);have h2:o6 f (a+(m+1))=true:=aLX (h (a+m) (by omega) (by omega));show (if f (a+(m+1))=0 then aB f (a+(m+1)) else if o6 f (a+(m+1))=true then sZ (aB f (a+(m+1))) else aB f (a+(m+1))++[(a+(m+1),1)])=_;rw[if_neg (by omega),if_pos h2,ih,lY]
theorem y8 {f:Nat→Nat} {a:Nat} (ha:1≤a) (h:f (a-1)=0):o6 f a=false:=by
 obtain ⟨b,rfl⟩:∃b,a=b+1:=⟨a-1,by omega⟩;exact aLW (by rw[Nat.add_sub_cancel] at h;omega)
theorem MK {f:Nat→Nat} {a:Nat} (ha:1≤a) (h:0<f (a-1)):o6 f a=true:=by
 obtain ⟨b,rfl⟩:∃b,a=b+1:=⟨a-1,by omega⟩;exact aLX (by rw[Nat.add_sub_cancel] at h;exact h)
theorem uX {ls : List Ltr} {gap sp : Nat} {f : Nat → Nat} (hg : 1 ≤ gap) (hs : 1 ≤ sp) : ∀ (l : List (Option Nat)) (s : Spot), (∀ k, some k ∈ l → 1 ≤ eZ ls k) → o6 f s.1 = s.2 →
 (∀x,s.1≤x→x<(dT ls gap sp s l).1→(0<f x↔∃p∈cJ ls gap sp s l,p.2≤x∧x<p.2+eZ ls p.1))→aB f (dT ls gap sp s l).1=aB f s.1++(cJ ls gap sp s l).map (MI ls)
 |[],s,_,_,_=>by show aB f s.1=aB f s.1++[];rw[aMj]
 |none :: l,s,hw,ha,hf=>by
  have e1:dT ls gap sp s (none :: l)=dT ls gap sp (s.1+sp,false) l:=rfl;have e2:cJ ls gap sp s (none :: l)=cJ ls gap sp (s.1+sp,false) l:=rfl;rw[e1,e2] at hf ⊢;have hm:s.1+sp≤(dT ls gap sp (s.1+sp,false) l).1:=qH l (s.1+sp,false);have hbl:∀x,s.1≤x→x<s.1+sp→f x=0:=fun x h1 h2=>by
   have h3:=hf x h1 (by omega);rcases Nat.eq_zero_or_pos (f x) with h4|h4
   ·exact h4
   ·obtain ⟨p,hp,h5,-⟩:=h3.1 h4;have h6:s.1+sp≤p.2:=lK l (s.1+sp,false) p hp;omega
  rw[uX hg hs l (s.1+sp,false) (fun k hk=>hw k (List.mem_cons_of_mem _ hk)) (y8 (by show 1≤s.1+sp;omega) (hbl _ (by show s.1≤s.1+sp-1;omega) (by show s.1+sp-1<s.1+sp;omega))) (fun x h1 h2=>hf x (by have h1':s.1+sp≤x:=h1;omega) h2)];show aB f (s.1+sp)++_=_;rw[kJ sp hbl]
 |some k :: l,s,hw,ha,hf=>by
  obtain ⟨a,haa⟩:=aLt (dU gap s);have hwk:=hw k (List.mem_cons_self ..);obtain ⟨m,hm⟩:∃m,eZ ls k=m+1:=⟨eZ ls k-1,by omega⟩;have e1:dT ls gap sp s (some k :: l)=dT ls gap sp (a+(m+1),true) l:=(by rw[←hm,haa];rfl);have e2:cJ ls gap sp s (some k :: l)=(k,a) :: cJ ls gap sp (a+(m+1),true) l:=(by rw[←hm,haa];rfl);rw[e1,e2] at hf;rw[e1,e2];have hsa:s.1≤a:=(by rw[haa];unfold dU;split<;>omega);have hmo:a+(m+1)≤(dT ls gap sp (a+(m+1),true) l).1:=qH l (a+(m+1),true);have hst:∀p∈cJ ls gap sp (a+(m+1),true) l,a+(m+1)≤p.2:=lK l (a+(m+1),true);have hbl:∀x,s.1≤x→x<s.1+(a-s.1)→f x=0:=fun x h1 h2=>by
   have h3:=hf x h1 (by omega);rcases Nat.eq_zero_or_pos (f x) with h4|h4
   ·exact h4
   ·obtain ⟨p,hp,h5,-⟩:=h3.1 h4;rcases aLN.1 hp with rfl|hp
    ·have h5':a≤x:=h5;omega
    ·have:=hst p hp;omega
  have hin:∀x,a≤x→x<a+(m+1)→0<f x:=fun x h1 h2=>(hf x (by omega) (by omega)).2 ⟨(k,a),List.mem_cons_self ..,h1,by show x<a+eZ ls k;omega⟩;have haf:o6 f a=false:=by
   cases h2:s.2 with
   |true=>have h3:a=s.1+gap:=(by rw[haa];unfold dU;rw[if_pos h2]);exact y8 (by omega) (hbl _ (by omega) (by omega))
   |false=>have h3:a=s.1:=(by rw[haa];unfold dU;rw[h2];rfl);rw[h3,ha,h2]
  have hpa:aB f a=aB f s.1:=by
   have h:=kJ (a-s.1) hbl;rw[show s.1+(a-s.1)=a by omega] at h;exact h
  rw [uX hg hs l (a + (m + 1), true) (fun k hk => hw k (List.mem_cons_of_mem _ hk)) (MK (by show 1 ≤ a + (m + 1); omega) (hin _ (by show a ≤ a + (m + 1) - 1; omega) (by show a + (m + 1) - 1 < a + (m + 1); omega)))
   (fun x h1 h2=>by
     have h1':a+(m+1)≤x:=h1;refine (hf x (by omega) h2).trans ⟨fun ⟨p,hp,h3,h4⟩ => ?_,fun ⟨p,hp,h3,h4⟩=>⟨p,List.mem_cons_of_mem _ hp,h3,h4⟩⟩;rcases aLN.1 hp with rfl|hp
     ·have h4':x<a+eZ ls k:=h4;omega
     ·exact ⟨p,hp,h3,h4⟩)]
  show aB f (a+(m+1))++_=_;rw[wI haf m hin,hpa,List.map_cons,aLL];have e3:MI ls (k,a)=(a,m+1):=(by unfold MI;rw[hm]);rw[e3];rfl
theorem FO {f : Nat → Nat} : ∀ {n i : Nat}, i < n → f i ≤ o4 f n
 |0,i,h=>absurd h (Nat.not_lt_zero _)
 |n+1,i,h=>by
  show f i≤max (o4 f n) (f n);by_cases e:i=n
  ·rw[e];omega
  ·have:=FO (f:=f) (n:=n) (i:=i) (by omega);omega
theorem WE (A:Int→Int→Bool) (W H:Nat):uJ A A W H W H 0 0=G5 A W H:=by
 unfold uJ G5 pH;rw[show max (0:Int) 0=0 by omega,show (min (W:Int) ((W:Int)+0)-0).toNat=W by omega,show (min (H:Int) ((H:Int)+0)-0).toNat=H by omega];refine CK fun x y => ?_;rw[Int.sub_zero,Int.sub_zero,Bool.and_self]
theorem aAQ {W H:Nat} (bs:List Bool) (hW:W≤4000) (hH:H≤4000):K7 (jY bs W H) (jY bs W H) W H W H 1=0:=by
 have h1:=(s6 (W:=W) (H:=H) (W':=W) (H':=H) (r:=1) (cs:=bs) (bs:=bs) hW hH hW hH).1;have h2:gS (jY bs W H) (jY bs W H) W H W H 1 4=G5 (jY bs W H) W H:=by
  unfold gS;rw[show rF 1 4=0 from rfl,show rG 1 4=0 from rfl,WE]
 have h3:=FO (f:=gS (jY bs W H) (jY bs W H) W H W H 1) (n:=(2*1+1)*(2*1+1)) (i:=4) (by decide);rw[h2] at h3;unfold K7 at h1 ⊢;omega
theorem aAR (A B:Int→Int→Bool) (W H W' H':Nat) (dx dy:Int):uJ A B W H W' H' dx dy=uJ B A W' H' W H (-dx) (-dy):=by
 unfold uJ pH;have e:(fun x y=>b1 (A x y&&B (x-dx) (y-dy)))=fun x y=>(fun z t=>b1 (B z t&&A (z - -dx) (t - -dy))) (x-dx) (y-dy):=by
  funext x y
  show b1 (A x y&&B (x-dx) (y-dy))=b1 (B (x-dx) (y-dy)&&A (x-dx - -dx) (y-dy - -dy));rw[show x-dx - -dx=x by omega,show y-dy - -dy=y by omega,Bool.and_comm]
 rw[e,CJ (fun z t=>b1 (B z t&&A (z - -dx) (t - -dy)))];rw[show max 0 dx-dx=max 0 (-dx) by omega,show max 0 dy-dy=max 0 (-dy) by omega];rw[show (min (W:Int) ((W':Int)+dx)-max 0 dx).toNat=(min (W':Int) ((W:Int) + -dx)-max 0 (-dx)).toNat by omega,show (min (H:Int) ((H':Int)+dy)-max 0 dy).toNat=(min (H':Int) ((H:Int) + -dy)-max 0 (-dy)).toNat by omega]
theorem WF (A B:Int→Int→Bool) (W H W' H':Nat) {i:Nat} (hi:i<9):gS A B W H W' H' 1 i=gS B A W' H' W H 1 (8-i):=by
 unfold gS;rw[aAR];have e1:-(rF 1 i)=rF 1 (8-i):=by
  unfold rF;show -(((i % 3:Nat):Int)-1)=(((8-i) % 3:Nat):Int)-1;omega
 have e2:-(rG 1 i)=rG 1 (8-i):=by
  unfold rG;show -(((i / 3:Nat):Int)-1)=(((8-i) / 3:Nat):Int)-1;omega
 rw[e1,e2]
theorem aC9 (A B:Int→Int→Bool) (W H W' H':Nat):K7 A B W H W' H' 1=K7 B A W' H' W H 1:=by
 have h:∀(A B:Int→Int→Bool) (W H W' H':Nat),o4 (gS A B W H W' H' 1) ((2*1+1)*(2*1+1))≤o4 (gS B A W' H' W H 1) ((2*1+1)*(2*1+1)):=fun A B W H W' H'=>EP fun i hi=>by
  have hi':i<9:=hi;rw[WF A B W H W' H' hi'];exact FO (by show 8-i<9;omega)
 have h1:=h A B W H W' H';have h2:=h B A W' H' W H;unfold K7;omega
def JA (x y:Ltr):Int:=A0 x.bs x.W.toNat x.H.toNat y
theorem WG (x y:Ltr):JA x y=JA y x:=aC9 _ _ _ _ _ _
def Told (ls:List Ltr):Prop:=∀(i j:Nat) (x y:Ltr),ls[i]? = some x→ls[j]? = some y→j<i→-2≤x.W-y.W→x.W-y.W≤2→JA x y≠0
theorem O1 {ls:List Ltr} (hT:Told ls) (hl:∀l∈ls,l.W≤64∧l.H≤4000∧0≤l.W) {k:Nat} {l:Ltr} (hk:ls[k]? = some l) :
 ∀i,i≤ls.length→(k<i→(cQ l.bs l.W.toNat l.H.toNat [] (ls.take i)).1=l.text∧(cQ l.bs l.W.toNat l.H.toNat [] (ls.take i)).2.1=0)∧(i≤k→(cQ l.bs l.W.toNat l.H.toNat [] (ls.take i)).2.1≠0)
 |0,_=>⟨fun h=>absurd h (Nat.not_lt_zero _),fun _=>by show (-1:Int)≠0;decide⟩
 |i+1,hi=>by
  obtain ⟨h1,h2⟩:=O1 hT hl hk i (by omega);have hg:ls[i]? = some ls[i]:=aLv (by omega);obtain ⟨x,hx⟩:=aLt (ls[i]);rw[←hx] at hg;rw[yA hg];obtain ⟨b,hb⟩:=aLt (cQ l.bs l.W.toNat l.H.toNat [] (ls.take i));rw[←hb] at h1 h2 ⊢;have hlk:=hl l (List.mem_of_getElem? hk);have hlx:=hl x (List.mem_of_getElem? hg);have hW:((l.W.toNat:Nat):Int)=l.W:=(by omega);have hr:0≤A0 l.bs l.W.toNat l.H.toNat x:=(s6 (by omega) (by omega) (by omega) (by omega)).1;by_cases hik:i=k
  ·subst hik;obtain rfl:x=l:=aLZ (hg.symm.trans hk);have h0:A0 x.bs x.W.toNat x.H.toNat x=0:=aAQ x.bs (by omega) (by omega);refine ⟨fun _ => ?_,fun h=>absurd h (by omega)⟩;have hne:=h2 (Nat.le_refl _);unfold cZ;rw[if_neg (by rw[hW];omega),h0,if_pos (by omega)];exact ⟨rfl,rfl⟩
  ·have aBE:-2≤x.W-l.W→x.W-l.W≤2→A0 l.bs l.W.toNat l.H.toNat x≠0:=fun h3 h4=>by
    rcases Nat.lt_or_ge i k with h5|h5
    ·exact hT k i l x hk hg h5 (by omega) (by omega)
    ·have h6:=hT i k x l hg hk (by omega) h3 h4;rw[WG] at h6;exact h6
   unfold cZ;by_cases hw:x.W-((l.W.toNat:Nat):Int) < -2∨2<x.W-((l.W.toNat:Nat):Int)
   ·rw[if_pos hw];exact ⟨fun h=>h1 (by omega),fun h=>h2 (by omega)⟩
   ·rw[if_neg hw];rw[hW] at hw;have hf:=aBE (by omega) (by omega);rcases Nat.lt_or_ge k i with h5|h5
    ·obtain ⟨h6,h7⟩:=h1 h5;refine ⟨fun _ => ?_,fun h=>absurd h (by omega)⟩;rw[if_neg (by omega)];split
     ·exact ⟨h6,h7⟩
     ·exact ⟨h6,h7⟩
    ·refine ⟨fun h=>absurd h (by omega),fun _ => ?_⟩;have h6:=h2 h5;split
     ·exact hf
     ·split
      ·exact h6
      ·exact h6
structure Inked (ht:Nat) (ls:List Ltr):Prop where
 col:∀k,k<ls.length→∀x,x<eZ ls k→∃y,y<ht∧pix (Q6 ls k) (eZ ls k) x y=true
 len:∀k,k<ls.length→(Q6 ls k).length=eZ ls k*ht
theorem WH {ht:Int} {ls:List Ltr}:∀{prev:List (List UInt8)},fJ ht prev ls=0→∀l∈ls,BA l.bs l.W.toNat l.H.toNat=false:=by
 induction ls with
 |nil=>intro prev _ l hl;cases hl
 |cons x ls ih=>
  intro prev h l hl;have h':(if eT ht prev x=0 then fJ ht (prev++[x.text]) ls else eT ht prev x)=0:=h;by_cases h0:eT ht prev x=0
  ·rw[if_pos h0] at h';rcases aLN.1 hl with rfl|hl
   ·exact gK (bA h0 (aF (BA l.bs l.W.toNat l.H.toNat) 2) (by simp)) (by decide)
   ·exact ih h' l hl
  ·rw[if_neg h0] at h';exact absurd h' h0
theorem aAS {nm:Bool} {ht gap sp:Nat} {ls:List Ltr} {w:World} {L:Option Addr} (hL:LtrsAt w L ls) (hR:Right ht gap sp ls) (h:bN nm ht gap sp ls=0):Inked ht ls:=by
 have hlt:fJ ht [] ls=0:=by
  have h':(if eV nm ht gap sp ls.length=0 then fJ ht [] ls else eV nm ht gap sp ls.length)=0:=h;by_cases h0:eV nm ht gap sp ls.length=0
  ·rw[if_pos h0] at h';exact h'
  ·rw[if_neg h0] at h';exact absurd h' h0
 refine ⟨fun k hk x hx => ?_,fun k hk => ?_⟩
 ·have hg:ls[k]? = some ls[k]:=aLv hk;have hb:=WH hlt _ (List.getElem_mem hk);have hW:(ls[k]).W.toNat=eZ ls k:=(LT hg).symm;have hH:(ls[k]).H.toNat=ht:=(by rw[hR.hts k hk];rfl);rw[hW,hH] at hb;unfold BA at hb;have hb':=of_decide_eq_false hb;rw[EY hg];refine (gZ _ _ _ _).1 ?_;rcases Nat.eq_zero_or_pos (lP (ls[k]).bs (eZ ls k) ht x) with h0|h0
  ·exact absurd ⟨x,hx,h0⟩ hb'
  ·exact h0
 ·have hg:ls[k]? = some ls[k]:=aLv hk;have h1:=(hL.2 _ (List.getElem_mem hk)).1.1;rw[aLz,Nat.mul_one,hR.ms k hk] at h1;rw[EY hg];exact h1
end Go.Proofs.YtllefinciimffaaGreatDoor
namespace Go.Proofs.YtllefinciimffaaGreatDoor
open Go.RowKit
theorem ML (r:Nat) (w:World) (hr:r≤4):Calls Tryz.prog 158 #[r] w fun e w'=>e=.returned (.bool false)∧w=w':=by
 have h1:¬((r:Int)<0):=(by omega);have h2:¬((4:Int)<(r:Int)):=by omega
 go_in
 go_wp2_with fail;go_ret;exact ⟨by first|rfl|(simp;omega),rfl⟩
theorem FP (W H W' H' r:Nat) (A B:Option Addr) (ac bc:Nat) (cs bs:List Bool) (w:World) (hA:Reads w 1 A (W*H) (cs.map .bool)) (hB:Reads w 1 B (W'*H') (bs.map .bool)) (e1:aE W H=0) (e2:aE W' H'=0) (hr:r≤4) :
 Calls Tryz.prog 100 #[.agg #[W,H,.slice A (W*H) ac],.agg #[W',H',.slice B (W'*H') bc],r] w fun e w'=>e=.returned (.tuple #[.int .i64 (K7 (jY cs W H) (jY bs W' H') W H W' H' r),.int .i64 0])∧Bl w w':=by
 have z1:=aL e1;have z2:=aL e2;have p1:aD W H (W*H)=0:=(by unfold aD;rw[if_pos e1,if_pos (by simp)]);have p2:aD W' H' (W'*H')=0:=(by unfold aD;rw[if_pos e2,if_pos (by simp)]);let w2:=((w).alloc (.cells #[W,H,.slice A (W*H) ac] 43)).alloc (.cells #[W',H',.slice B (W'*H') bc] 43);obtain ⟨w2b,w21,w22⟩:=aLi (x:=w2) w _ _ _ _ rfl;have dF:=fun wx (hx:Bl w2 wx)=>vP W H W' H' r A B ac bc cs bs wx ((hA.bl w2b).bl hx) ((hB.bl w2b).bl hx) (by omega) (by omega) (by omega) (by omega) hr;obtain ⟨F,hF⟩:=aLt (K7 (jY cs W H) (jY bs W' H') W H W' H' r);simp only[←hF] at dF ⊢;obtain ⟨Hc,P1,P2⟩:=aLb dF p1 p2;have k1:=w21.all3;have k2:=w22.all3;have i0:∀w:World,(Instr.index 219 (.agg #[W,H,.slice A (W*H) ac,W',H',.slice B (W'*H') bc]) (.int .i64 0)).run Tryz.prog w=.ok (.agg #[W,H,.slice A (W*H) ac]) w:=fun _=>(by kernel_rfl);have i1:∀w:World,(Instr.index 219 (.agg #[W,H,.slice A (W*H) ac,W',H',.slice B (W'*H') bc]) (.int .i64 1)).run Tryz.prog w=.ok (.agg #[W',H',.slice B (W'*H') bc]) w:=fun _=>(by kernel_rfl);clear dF z1 z2 e1 e2 p1 p2 hF hA hB
 go_in
 go_wp2_with fail;refine wp_loop_rounds 3 ?_;rw[rounds_succ];go_wp2_with fail;refine (bM _ _ _ _ _ _).mono ?_;rintro e w7 ⟨rfl,hb7⟩;rw[P1.out];have aJ0:Bl w2 w7:=((Bl.refl w2).alloc _).trans hb7;clear k1 k2;go_wp2_with fail;rw[rounds_succ];go_wp2_with fail;refine (bM _ _ _ _ _ _).mono ?_;rintro e w8 ⟨rfl,hb8⟩;rw[P2.out];have aF5:Bl w2 w8:=(aJ0.alloc _).trans hb8;have k1:=(w21.bl aF5).all3;have k2:=(w22.bl aF5).all3;go_wp2_with fail;rw[rounds_succ];go_wp2_with fail;refine (ML r _ hr).mono ?_;rintro e w9 ⟨rfl,rfl⟩;go_wp2_with fail;refine (Hc.out _ aF5).mono ?_;rintro e w10 ⟨rfl,QK⟩;go_wp2_with fail;exact aL0 (v:=.tuple #[.int .i64 F,.int .i64 0]) (by simp[results,Tryz.results100,go_sem]) rfl ⟨rfl,w2b.trans (aF5.trans QK)⟩
def ToldTo (ls:List Ltr) (n:Nat):Prop:=∀(i j:Nat) (x y:Ltr),i<n→ls[i]? = some x→ls[j]? = some y→j<i→-2≤x.W-y.W→x.W-y.W≤2→JA x y≠0
def ToldAt (ls:List Ltr) (x:Ltr) (n:Nat):Prop:=∀(j:Nat) (y:Ltr),j<n→ls[j]? = some y→-2≤x.W-y.W→x.W-y.W≤2→JA x y≠0
theorem WI {ls:List Ltr} {i:Nat} {x:Ltr} (h:ToldTo ls i) (hx:ls[i]? = some x) (h2:ToldAt ls x i):ToldTo ls (i+1):=by
 intro i' j x' y hi hx' hy hj h3 h4;by_cases e:i'=i
 ·subst e;obtain rfl:=aLZ (hx'.symm.trans hx);exact h2 j y hj hy h3 h4
 ·exact h i' j x' y (by omega) hx' hy hj h3 h4
theorem aAT {ls:List Ltr} (h:ToldTo ls ls.length):Told ls:=fun i j x y hx hy hj h3 h4=>h i j x y (aLw.1 hx).1 hx hy hj h3 h4
theorem O2 {ht gap sp:Nat} {ls:List Ltr} (hR:Right ht gap sp ls) {k:Nat} {l:Ltr} (h:ls[k]? = some l):∃W:Nat,l.W=(W:Int)∧l.H=(ht:Int)∧l.m=W*ht∧W≤64∧aE W ht=0:=by
 have hk:=(aLw.1 h).1;have e:=(aLw.1 h).2;have h1:=hR.wd k hk;have h2:=hR.hts k hk;have h3:=hR.ms k hk;have h4:=hR.ht1;rw[e] at h1 h2 h3;refine ⟨eZ ls k,h1.1,h2,h3,h1.2.2,?_⟩;have hm:eZ ls k*ht≤64*64:=aMa h1.2.2 h4.2;have hm2:((eZ ls k*ht:Nat):Int)≤4096:=(by omega);rw[aL9] at hm2;unfold aE;rw[if_pos ⟨by omega,by omega,by omega,by omega⟩,if_neg (by omega)]
theorem WJ (nm:List UInt8) (ht gap sp:Nat) (adl:Addr) (c:Nat) (ls:List Ltr) (w:World) (hL:LtrsAt w (some adl) ls) (hR:Right ht gap sp ls) (hc:ls.length≤c) :
 Calls Tryz.prog 32 #[.agg #[nm,ht,gap,sp,.slice (some adl) ls.length c]] w fun e w'=>∃b,e=.returned (.bool b)∧(b=true→Told ls)∧Bl w w':=by
 let w2:=(w).alloc (.cells #[nm,ht,gap,sp,.slice (some adl) ls.length c] 46);obtain ⟨w2b,w21⟩:=aLh (x:=w2) w _ _ rfl;have HL:=aLa (hL.bl w2b);have HR:=aLa hR;have k1:=w21.all5;have aDD:=hR.many;clear hL hR
 go_in
 go_wp2_with fail;go_loopw [13] (fun u wr=>∃i:Nat,i≤ls.length∧u=.int .i64 i∧Bl w2 wr∧Hid (ToldTo ls i)) (fun u _=>ls.length-(RowKit.intOf u).toNat);case atStart=>exact ⟨0,Nat.zero_le _,rfl,Bl.refl w2,aLa fun i j x y h=>absurd h (Nat.not_lt_zero _)⟩
 case round=>
  clear k1;obtain ⟨i,hi,rfl,hbr,hto⟩:=hrel;have k1:=(w21.bl hbr).all5;by_cases hlt:i<ls.length
  ·have hg:ls[i]? = some ls[i]:=aLv hlt;obtain ⟨x,hx⟩:=aLt (ls[i]);rw[←hx] at hg;obtain ⟨ad,e,j1,j2,j3,j4⟩:=(HL.out.bl hbr).at_ hg;injection e with e;subst e;obtain ⟨W,hW1,hW2,hW3,hW4,hW5⟩:=O2 HR.out hg;have hrx:=((HL.out.bl hbr).2 x (List.mem_of_getElem? hg)).1;rw[hW3] at hrx;rw[hW1] at j2;rw[hW2] at j3;rw[hW3] at j4;obtain ⟨HG,HW,HRx⟩:=aLb hg (And.intro hW1 (And.intro hW2 hW5)) hrx;have HTo:=hto;clear hg hx hW1 hW2 hW3 hW5 hrx hto;go_upto_region 4 with fail;obtain ⟨w3,hw3⟩:=aLt (wr.alloc (.cells #[.string ⟨x.text.toArray⟩,W,ht,.slice x.A (W*ht) x.c] 148));obtain ⟨o,ho⟩:=aLt wr.heap.size;have bo:=aLp hw3 ho;have hb3:=aLn hw3;rw[←hw3,←ho];clear hw3 ho k1 j1 j2 j3 j4;have aBK:=hbr.trans hb3;have k1:=(w21.bl aBK).all5;have hic:i≤c:=(by omega);go_wp2_with fail;go_loopw [23] (fun u wq=>∃j:Nat,j≤i∧u=.int .i64 j∧Bl w3 wq∧Hid (ToldAt ls x j)) (fun u _=>i-(RowKit.intOf u).toNat);case atStart=>exact ⟨0,Nat.zero_le _,rfl,Bl.refl w3,aLa fun j y h=>absurd h (Nat.not_lt_zero _)⟩
   case round=>
    clear k1;rename World=>wq;obtain ⟨j,hj,rfl,hbq,hat⟩:=hrel;by_cases hjl:j<i
    ·have hjg:ls[j]? = some ls[j]:=aLv (by omega);obtain ⟨y,hy⟩:=aLt (ls[j]);rw[←hy] at hjg;have aIs:=aBK.trans hbq;obtain ⟨ad,e,j1,j2,j3,j4⟩:=(HL.out.bl aIs).at_ hjg;injection e with e;subst e;obtain ⟨V,hV1,hV2,hV3,hV4,hV5⟩:=O2 HR.out hjg;have hry:=((HL.out.bl aIs).2 y (List.mem_of_getElem? hjg)).1;rw[hV3] at hry;rw[hV1] at j2;rw[hV2] at j3;rw[hV3] at j4;have k9:=(bo.bl hbq).all4;obtain ⟨HJ,HV,HRy⟩:=aLb hjg (And.intro hV1 (And.intro hV2 hV5)) hry;have HAt:=hat;have HBq:=aLa hbq;clear hjg hy hV1 hV2 hV3 hV5 hry hat;go_upto_region 7 with fail;obtain ⟨w4,hw4⟩:=aLt (wq.alloc (.cells #[.string ⟨y.text.toArray⟩,V,ht,.slice y.A (V*ht) y.c] 148));obtain ⟨p,hp⟩:=aLt wq.heap.size;have bp:=aLp hw4 hp;have hb4:=aLn hw4;rw[←hw4,←hp];clear hw4 hp j1 j2 j3 j4 k9;have aG3:=HBq.out.trans hb4;have k9:=(bo.bl aG3).all4;have k8:=bp.all4;have aF6:=aLa aG3;by_cases hn:(W:Int)-(V:Int) < -2
     ·have HA2:=aLa (show ToldAt ls x (j+1) from fun j' y' hj' hy' h3 h4=>by
       by_cases e:j'=j
       ·subst e;obtain rfl:=aLZ (hy'.symm.trans HJ.out);have:=HW.out.1;have:=HV.out.1;omega
       ·exact HAt.out j' y' (by omega) hy' h3 h4)
      clear hbq;go_wp2_with fail;exact ⟨⟨j+1,hjl,by go_num,aF6.out,HA2⟩,by simp[RowKit.intOf]<;>omega⟩
     ·by_cases hn2:2<(W:Int)-(V:Int)
      ·have HA2:=aLa (show ToldAt ls x (j+1) from fun j' y' hj' hy' h3 h4=>by
        by_cases e:j'=j
        ·subst e;obtain rfl:=aLZ (hy'.symm.trans HJ.out);have:=HW.out.1;have:=HV.out.1;omega
        ·exact HAt.out j' y' (by omega) hy' h3 h4)
       clear hbq;go_wp2_with fail;exact ⟨⟨j+1,hjl,by go_num,aF6.out,HA2⟩,by simp[RowKit.intOf]<;>omega⟩
      ·have hds:=FP W ht V ht 1 x.A y.A x.c y.c x.bs y.bs w4 (HRx.out.bl (hb3.trans aG3)) (HRy.out.bl hb4) HW.out.2.2 HV.out.2.2 (by omega);have hfl:K7 (jY x.bs W ht) (jY y.bs V ht) W ht V ht 1=JA x y:=by
        unfold JA A0;rw[HW.out.1,HW.out.2.1,HV.out.1,HV.out.2.1];rfl
       rw[hfl] at hds;obtain ⟨F,hF⟩:=aLt (JA x y);rw[←hF] at hds;have Hds:=aLa hds;have HF:=aLa hF;clear hds hfl hF hbq;go_wp2_with fail;refine Hds.out.mono ?_;rintro e w5 ⟨rfl,hb5⟩;clear Hds;by_cases hz:F=0
       ·subst hz;go_wp2_with fail;go_ret;exact ⟨false,rfl,fun h=>(by cases h),w2b.trans (aBK.trans (aF6.out.trans hb5))⟩
       ·have hq:(F==0)=false:=(by simp[hz]);have HA2:=aLa (show ToldAt ls x (j+1) from fun j' y' hj' hy' h3 h4=>by
         by_cases e:j'=j
         ·subst e;obtain rfl:=aLZ (hy'.symm.trans HJ.out);rw[←HF.out];exact hz
         ·exact HAt.out j' y' (by omega) hy' h3 h4)
        clear hz;go_wp2_with fail;exact ⟨⟨j+1,hjl,by go_num,aF6.out.trans hb5,HA2⟩,by simp[RowKit.intOf]<;>omega⟩
    ·obtain rfl:j=i:=(by omega);have HT2:=aLa (WI HTo.out HG.out hat.out);clear hat;go_wp2_with fail;exact ⟨⟨j+1,hlt,by go_num,aBK.trans hbq,HT2⟩,by simp[RowKit.intOf]<;>omega⟩
  ·obtain rfl:i=ls.length:=(by omega);go_wp2_with fail;go_ret;exact ⟨true,rfl,fun _=>aAT hto.out,w2b.trans hbr⟩
end Go.Proofs.YtllefinciimffaaGreatDoor
namespace Go.Proofs
open Go.Shelf
def Tryz.laysSortCd_ren:Go.Shelf.Ren:=⟨fun|6=>198|15=>190|14=>260|28=>250|29=>251|20=>300|21=>301|22=>302|23=>303|24=>304|25=>305|26=>306|27=>307|46=>333|47=>290|48=>291|49=>334|50=>335|57=>344|n=>n,fun|22=>158|24=>161|25=>254|3=>3|39=>233|0=>0|53=>277|55=>270|4=>4|46=>289|45=>288|50=>182|5=>5|9=>9|66=>322|70=>189|76=>350|77=>351|n=>n,fun|n=>n⟩
theorem Tryz.laysSortCd : Go.Proofs.SlLaysF0.n6 Tryz.prog Tryz.laysSortCd_ren := {
 mixed:=by kernel_rfl
 f6:=⟨Tryz.f198.name,by decide,Tryz.func198.trans (congrArg some (by kernel_rfl))⟩
 f14:=⟨Tryz.f260.name,by decide,Tryz.func260.trans (congrArg some (by kernel_rfl))⟩
 f15:=Tryz.func190.trans (congrArg some (by kernel_rfl))
 f20:=⟨Tryz.f300.name,by decide,Tryz.func300.trans (congrArg some (by kernel_rfl))⟩
 f21:=⟨Tryz.f301.name,by decide,Tryz.func301.trans (congrArg some (by kernel_rfl))⟩
 f22:=⟨Tryz.f302.name,by decide,Tryz.func302.trans (congrArg some (by kernel_rfl))⟩
 f23:=⟨Tryz.f303.name,by decide,Tryz.func303.trans (congrArg some (by kernel_rfl))⟩
 f24:=⟨Tryz.f304.name,by decide,Tryz.func304.trans (congrArg some (by kernel_rfl))⟩
 f25:=⟨Tryz.f305.name,by decide,Tryz.func305.trans (congrArg some (by kernel_rfl))⟩
 f26:=⟨Tryz.f306.name,by decide,Tryz.func306.trans (congrArg some (by kernel_rfl))⟩
 f27:=⟨Tryz.f307.name,by decide,Tryz.func307.trans (congrArg some (by kernel_rfl))⟩
 f28:=Tryz.func250.trans (congrArg some (by kernel_rfl))
 f29:=Tryz.func251.trans (congrArg some (by kernel_rfl))
 f46:=⟨Tryz.f333.name,by decide,Tryz.func333.trans (congrArg some (by kernel_rfl))⟩
 f47:=Tryz.func290.trans (congrArg some (by kernel_rfl))
 f48:=Tryz.func291.trans (congrArg some (by kernel_rfl))
 f49:=⟨Tryz.f334.name,by decide,Tryz.func334.trans (congrArg some (by kernel_rfl))⟩
 f50:=⟨Tryz.f335.name,by decide,Tryz.func335.trans (congrArg some (by kernel_rfl))⟩
 f57:=⟨Tryz.f344.name,by decide,Tryz.func344.trans (congrArg some (by kernel_rfl))⟩
 t0:=Tryz.underlying0
 a0:=Tryz.isAgg0
 z0:=Tryz.sizeOf0
 v0:=Tryz.zeroValue0
 t3:=Tryz.underlying3
 a3:=Tryz.isAgg3
 z3:=Tryz.sizeOf3
 v3:=Tryz.zeroValue3
 t4:=Tryz.underlying4
 a4:=Tryz.isAgg4
 z4:=Tryz.sizeOf4
 v4:=Tryz.zeroValue4
 t5:=Tryz.underlying5
 a5:=Tryz.isAgg5
 z5:=Tryz.sizeOf5
 v5:=Tryz.zeroValue5
 t9:=Tryz.underlying9
 a9:=Tryz.isAgg9
 z9:=Tryz.sizeOf9
 v9:=Tryz.zeroValue9
 t22:=Tryz.underlying158
 a22:=Tryz.isAgg158
 z22:=Tryz.sizeOf158
 v22:=Tryz.zeroValue158
 t25:=Tryz.underlying254
 a25:=Tryz.isAgg254
 z25:=Tryz.sizeOf254
 v25:=Tryz.zeroValue254
 t39:=Tryz.underlying233
 a39:=Tryz.isAgg233
 z39:=Tryz.sizeOf233
 v39:=Tryz.zeroValue233
 t45:=Tryz.underlying288
 a45:=Tryz.isAgg288
 z45:=Tryz.sizeOf288
 v45:=Tryz.zeroValue288
 t46:=Tryz.underlying289
 a46:=Tryz.isAgg289
 z46:=Tryz.sizeOf289
 v46:=Tryz.zeroValue289
 t50:=Tryz.underlying182
 a50:=Tryz.isAgg182
 z50:=Tryz.sizeOf182
 v50:=Tryz.zeroValue182
 t53:=Tryz.underlying277
 a53:=Tryz.isAgg277
 z53:=Tryz.sizeOf277
 v53:=Tryz.zeroValue277
 t55:=Tryz.underlying270
 a55:=Tryz.isAgg270
 z55:=Tryz.sizeOf270
 v55:=Tryz.zeroValue270
 t66:=Tryz.underlying322
 a66:=Tryz.isAgg322
 z66:=Tryz.sizeOf322
 v66:=Tryz.zeroValue322
 t70:=Tryz.underlying189
 a70:=Tryz.isAgg189
 z70:=Tryz.sizeOf189
 v70:=Tryz.zeroValue189
 t76:=Tryz.underlying350
 a76:=Tryz.isAgg350
 z76:=Tryz.sizeOf350
 v76:=Tryz.zeroValue350
 t77:=Tryz.underlying351
 a77:=Tryz.isAgg351
 z77:=Tryz.sizeOf351
 v77:=Tryz.zeroValue351 }
def Tryz.laysCmpInt_ren:Go.Shelf.Ren:=⟨fun|5=>287|7=>294|n=>n,fun|22=>3|3=>3|4=>4|n=>n,fun|n=>n⟩
theorem Tryz.laysCmpInt : Go.Proofs.SlLaysC2.n5 Tryz.prog Tryz.laysCmpInt_ren := {
 mixed:=by kernel_rfl
 f5:=⟨Tryz.f287.name,by decide,Tryz.func287.trans (congrArg some (by kernel_rfl))⟩
 f7:=⟨Tryz.f294.name,by decide,Tryz.func294.trans (congrArg some (by kernel_rfl))⟩
 t3:=Tryz.underlying3
 a3:=Tryz.isAgg3
 z3:=Tryz.sizeOf3
 v3:=Tryz.zeroValue3
 t4:=Tryz.underlying4
 a4:=Tryz.isAgg4
 z4:=Tryz.sizeOf4
 v4:=Tryz.zeroValue4
 t22:=Tryz.underlying3
 a22:=Tryz.isAgg3
 z22:=Tryz.sizeOf3
 v22:=Tryz.zeroValue3 }
end Go.Proofs
namespace Go.Proofs.YtllefinciimffaaGreatDoor
open Go.RowKit Go.Shelf Go.Sort
structure CmpOk {α:Type} (c:α→α→Int):Prop where
 refl:∀x,c x x=0
 flip:∀x y,c x y<0↔0<c y x
 trans:∀x y z,c x y≤0→c y z≤0→c x z≤0
theorem CmpOk.zero {α:Type} {c:α→α→Int} (h:CmpOk c) (x y:α):c x y=0↔c y x=0:=by
 have h1:=h.flip x y;have h2:=h.flip y x;omega
theorem CmpOk.swo {α:Type} {c:α→α→Int} (h:CmpOk c):SWO (ltOf c) where
 irrefl x:=by unfold ltOf;rw[h.refl];rfl
 trans x y z h1 h2:=by
  unfold ltOf at *;simp only[decide_eq_true_eq] at *;have a:=h.trans x y z (by omega) (by omega);have b:=h.trans z x y;have c1:=h.flip x z;have c2:=h.flip z x;have c3:=h.flip y z;omega
 ntrans x y z h1 h2:=by
  unfold ltOf at *;simp only[decide_eq_false_iff_not] at *;have a:=h.trans z y x;have c1:=h.flip x y;have c2:=h.flip y x;have c3:=h.flip y z;have c4:=h.flip z y;have c5:=h.flip x z;have c6:=h.flip z x;omega
def MM {α:Type} (c d:α→α→Int) (x y:α):Int:=if c x y=0 then d x y else c x y
theorem CmpOk.lex {α:Type} {c d:α→α→Int} (h:CmpOk c) (k:CmpOk d):CmpOk (MM c d) where
 refl x:=by unfold MM;rw[if_pos (h.refl x)];exact k.refl x
 flip x y:=by
  unfold MM;have h1:=h.flip x y;have h2:=h.flip y x;have k1:=k.flip x y;by_cases e:c x y=0
  ·rw[if_pos e,if_pos ((h.zero x y).1 e)];exact k1
  ·rw[if_neg e,if_neg (fun e'=>e ((h.zero x y).2 e'))];exact h1
 trans x y z h1 h2:=by
  unfold MM at *;have t1:=h.trans x y z;have t2:=h.trans y z x;have t3:=h.trans z x y;have z1:=h.zero x z;have f1:=h.flip x y;have f2:=h.flip y z;have f3:=h.flip x z;have g1:=h.flip y x;have g2:=h.flip z y;have g3:=h.flip z x;have hxy:c x y≤0:=by
   by_cases e:c x y=0
   ·omega
   ·rw[if_neg e] at h1;exact h1
  have hyz:c y z≤0:=by
   by_cases e:c y z=0
   ·omega
   ·rw[if_neg e] at h2;exact h2
  by_cases e:c x z=0
  ·have e1:c x y=0:=(by omega);have e2:c y z=0:=(by omega);rw[if_pos e1] at h1;rw[if_pos e2] at h2;rw[if_pos e];exact k.trans x y z h1 h2
  ·rw[if_neg e];exact t1 hxy hyz
theorem CmpOk.on {α β:Type} {c:α→α→Int} (h:CmpOk c) (f:β→α):CmpOk fun x y=>c (f x) (f y):=
 ⟨fun _=>h.refl _,fun _ _=>h.flip _ _,fun _ _ _=>h.trans _ _ _⟩
theorem FQ:CmpOk fun x y:Int=>x-y:=⟨fun x=>by omega,fun x y=>by omega,fun x y z=>by omega⟩
theorem y9 (a b:UInt8) (x y:List UInt8):Lib.compareBytes (a :: x) (b :: y)=if a<b then -1 else if b<a then 1 else Lib.compareBytes x y:=rfl
theorem WK:CmpOk Lib.compareBytes where
 refl x:=by
  induction x with
  |nil=>rfl
  |cons a x ih=>rw[y9,if_neg (by rw[UInt8.lt_iff_toNat_lt];omega),if_neg (by rw[UInt8.lt_iff_toNat_lt];omega)];exact ih
 flip x:=by
  induction x with
  |nil=>intro y;cases y<;>simp[Lib.compareBytes]
  |cons a x ih=>
   intro y;cases y with
   |nil=>simp[Lib.compareBytes]
   |cons b y=>
    rw[y9,y9];have:=ih y;simp only[UInt8.lt_iff_toNat_lt];by_cases h1:a.toNat<b.toNat
    ·rw[if_pos h1,if_neg (by omega),if_pos h1];omega
    ·rw[if_neg h1];by_cases h2:b.toNat<a.toNat
     ·rw[if_pos h2,if_pos h2];omega
     ·rw[if_neg h2,if_neg h2,if_neg h1];exact this
 trans x:=by
  induction x with
  |nil=>intro y z h1 h2;cases z<;>simp[Lib.compareBytes]
  |cons a x ih=>
   intro y z h1 h2;cases y with
   |nil=>simp[Lib.compareBytes] at h1
   |cons b y=>
    cases z with
    |nil=>simp[Lib.compareBytes] at h2
    |cons c z=>
     rw[y9] at *;simp only[UInt8.lt_iff_toNat_lt] at *;by_cases h3:a.toNat<c.toNat
     ·rw[if_pos h3];omega
     ·rw[if_neg h3];by_cases k1:a.toNat<b.toNat
      ·rw[if_neg (by omega)] at h2;by_cases k2:c.toNat<b.toNat
       ·rw[if_pos k2] at h2;omega
       ·omega
      ·rw[if_neg k1] at h1;by_cases k2:b.toNat<a.toNat
       ·rw[if_pos k2] at h1;omega
       ·rw[if_neg k2] at h1;by_cases k3:b.toNat<c.toNat
        ·omega
        ·rw[if_neg k3] at h2;by_cases k4:c.toNat<b.toNat
         ·rw[if_pos k4] at h2;omega
         ·rw[if_neg k4] at h2;rw[if_neg (by omega)];exact ih y z h1 h2
def cfR (a b:Cd):Int:=MM (fun x y:Cd=>x.Y-y.Y) (MM (fun x y:Cd=>x.X-y.X) (MM (fun x y:Cd=>Lib.compareBytes x.t y.t) (fun x y:Cd=>x.k-y.k))) a b
def cfP (a b:Cd):Int:=MM (fun x y:Cd=>Lib.compareInt x.Y y.Y) (MM (fun x y:Cd=>Lib.compareInt x.X y.X) (MM (fun x y:Cd=>Lib.compareBytes x.t y.t) (fun x y:Cd=>Lib.compareInt x.k y.k))) a b
theorem aEw:CmpOk cfR:=(FQ.on (fun e:Cd=>e.Y)).lex ((FQ.on (fun e:Cd=>e.X)).lex ((WK.on (fun e:Cd=>e.t)).lex (FQ.on (fun e:Cd=>e.k))))
theorem lM (a b:Int):(Lib.compareInt a b<0↔a-b<0)∧(Lib.compareInt a b=0↔a-b=0):=by
 unfold Lib.compareInt;by_cases h1:a<b
 ·rw[if_pos h1];omega
 ·rw[if_neg h1];by_cases h2:a>b
  ·rw[if_pos h2];omega
  ·rw[if_neg h2];omega
theorem zA {α:Type} {c c' d d':α→α→Int} {x y:α} (h:(c x y<0↔c' x y<0)∧(c x y=0↔c' x y=0)) (k:(d x y<0↔d' x y<0)∧(d x y=0↔d' x y=0)):(MM c d x y<0↔MM c' d' x y<0)∧(MM c d x y=0↔MM c' d' x y=0):=by
 unfold MM;by_cases e:c x y=0
 ·rw[if_pos e,if_pos (h.2.1 e)];exact k
 ·rw[if_neg e,if_neg (fun e'=>e (h.2.2 e'))];exact h
theorem aDa:ltOf cfP=ltOf cfR:=by
 funext x y
 unfold ltOf
 have h := zA (x := x) (y := y) (c := fun x y : Cd => Lib.compareInt x.Y y.Y) (c' := fun x y : Cd => x.Y - y.Y) (lM _ _)
  (zA (c := fun x y : Cd => Lib.compareInt x.X y.X) (c' := fun x y : Cd => x.X - y.X) (lM _ _)
    (zA (c:=fun x y:Cd=>Lib.compareBytes x.t y.t) (c':=fun x y:Cd=>Lib.compareBytes x.t y.t) ⟨Iff.rfl,Iff.rfl⟩ (d:=fun x y:Cd=>Lib.compareInt x.k y.k) (d':=fun x y:Cd=>x.k-y.k) (lM _ _)))
 exact decide_eq_decide.2 h.1
theorem aEx (p q r s:Int):aG [p,q,r,s]=if p=0 then (if q=0 then (if r=0 then s else r) else q) else p:=by
 show (if p=0 then (if q=0 then (if r=0 then (if s=0 then 0 else s) else r) else q) else p)=_;by_cases hs:s=0
 ·subst hs;rfl
 ·rw[if_neg hs]
theorem WL (a b:Cd):cfP a b=aG [Lib.compareInt a.Y b.Y,Lib.compareInt a.X b.X,Lib.compareBytes a.t b.t,Lib.compareInt a.k b.k]:=by rw[aEx];rfl
theorem wJ : ∀ a b : List UInt8, Lib.compareBytes a b = if Op.bytesLess a b = true then -1 else if a = b then 0 else 1
 |[],[]=>rfl
 |[],b :: y=>rfl
 |a :: x,[]=>rfl
 |a :: x,b :: y=>by
  rw[y9,wJ x y];show _=if (decide (a<b)||(a==b&&Op.bytesLess x y))=true then _ else _;by_cases h1:a<b
  ·simp[h1]
  ·by_cases h2:b<a
   ·have hne:a≠b:=fun e=>(by subst e;exact h1 h2);simp[h1,h2,hne]
   ·have he:a=b:=by
     rw[UInt8.lt_iff_toNat_lt] at h1 h2;exact UInt8.toNat_inj.1 (by omega)
    subst he;simp[h1]
theorem SK (a b:List UInt8) (w:World) :
 Calls Tryz.prog 288 #[a,b] w fun e w'=>e=.returned (.int .i64 (Lib.compareBytes a b))∧w=w':=by
 have HV:=aLa (wJ a b);have ha:(⟨a.toArray⟩:ByteArray).toList=a:=(by rw[ByteArray.toList_eq]);have hb:(⟨b.toArray⟩:ByteArray).toList=b:=(by rw[ByteArray.toList_eq]);have hn:∀c:List UInt8,∀W,Calls Tryz.prog 330 #[.string ⟨c.toArray⟩] W fun e w'=>e=.returned (.bool false)∧W=w':=fun c W=>by
  go_in
  go_wp2_with fail;go_ret;exact ⟨by simp,rfl⟩
 have Hn:=aLa hn;clear hn;have h3:(Op.bytesLess a b=true)∨(Op.bytesLess a b=false∧a=b)∨(Op.bytesLess a b=false∧a≠b):=by
  cases Op.bytesLess a b<;>by_cases h:a=b<;>simp[h]
 go_in
 go_wp2_with fail;refine (Hn.out a w).mono ?_;rintro e w' ⟨rfl,rfl⟩;go_wp2_with fail;refine (Hn.out b w).mono ?_;rintro e w' ⟨rfl,rfl⟩;rcases h3 with h|⟨h,he⟩|⟨h,he⟩
 ·have HE:=aLa (show Lib.compareBytes a b = -1 by rw[HV.out,if_pos h]);clear HV;go_wp2_with fail;refine aL0 (v:=.int .i64 (-1)) (by simp[results,Tryz.results288,go_sem]) rfl ⟨by rw[HE.out],rfl⟩
 ·have HE:=aLa (show Lib.compareBytes a b=0 by rw[HV.out,h,if_neg (by decide),if_pos he]);clear HV;subst he;go_wp2_with fail;refine aL0 (v:=.int .i64 0) (by simp[results,Tryz.results288,go_sem]) rfl ⟨by rw[HE.out],rfl⟩
 ·have HE:=aLa (show Lib.compareBytes a b=1 by rw[HV.out,h,if_neg (by decide),if_neg he]);have hq:(a==b)=false:=(by rw[aLU];exact he);clear HV he;go_wp2_with fail;refine aL0 (v:=.int .i64 1) (by simp[results,Tryz.results288,go_sem]) rfl ⟨by rw[HE.out],rfl⟩
def CdIn (e:Cd):Prop:=(e.k=1∨e.k=2)∧0≤e.X∧e.X≤4000∧0≤e.Y∧e.Y≤4000
theorem CdOk.in_ {N:Nat} {e:Cd} (h:CdOk N e):CdIn e:=⟨h.1,h.2.1,h.2.2.1,h.2.2.2.1,h.2.2.2.2.1⟩
abbrev CdS:={e:Cd // CdIn e}
instance:Inhabited Cd:=⟨⟨1,[],0,0,0,1⟩⟩
instance:Inhabited CdS:=⟨⟨⟨1,[],0,0,0,1⟩,by unfold CdIn;decide⟩⟩
def MN (x:CdS):List Value:=x.1.cells
def UO (x y:CdS):Int:=cfR x.1 y.1
def aGC (x y:CdS):Int:=cfP x.1 y.1
theorem xL:SWO (ltOf UO):=(aEw.on (fun x:CdS=>x.1)).swo
theorem aAU:ltOf aGC=ltOf UO:=by
 funext x y
 exact congrFun (congrFun aDa x.1) y.1
theorem aEy (w:World) (a b c:Obj):grow (w.drewN 1) #[a,b,c]=(((w.alloc a).alloc b).alloc c).drew:=by
 rw[alloc_eq_grow,alloc_eq_grow,alloc_eq_grow,grow_grow,grow_grow];rfl
theorem WM (x y:CdS) (w:World) :
 Calls Tryz.prog 239 #[.agg (MN x).toArray,.agg (MN y).toArray] w fun e w'=>e=.returned (.int .i64 (aGC x y))∧∃q os',w'=grow (w.drewN q) os':=by
 obtain ⟨⟨k1,t1,X1,Y1,W1,n1⟩,h1⟩:=x;obtain ⟨⟨k2,t2,X2,Y2,W2,n2⟩,h2⟩:=y;have HV:=aLa (WL ⟨k1,t1,X1,Y1,W1,n1⟩ ⟨k2,t2,X2,Y2,W2,n2⟩);show Calls Tryz.prog 239 #[.agg #[k1,t1,X1,Y1,W1,n1],.agg #[k2,t2,X2,Y2,W2,n2]] w fun e w'=>e=.returned (.int .i64 (cfP ⟨k1,t1,X1,Y1,W1,n1⟩ ⟨k2,t2,X2,Y2,W2,n2⟩))∧∃q os',w'=grow (w.drewN q) os';have Hc:∀(a b:Int) (W:World),Calls Tryz.prog 287 #[.int .i64 a,.int .i64 b] W fun e w'=>e=.returned (.int .i64 (Lib.compareInt a b))∧w'=W:=fun a b W=>AnyG.cmp_Compare_int Tryz.laysCmpInt a b W;have Hc:=aLa Hc;obtain ⟨r1,hr1⟩:=aLt (Lib.compareInt Y1 Y2);obtain ⟨r2,hr2⟩:=aLt (Lib.compareInt X1 X2);obtain ⟨r3,hr3⟩:=aLt (Lib.compareBytes t1 t2);obtain ⟨r4,hr4⟩:=aLt (Lib.compareInt k1 k2);obtain ⟨C1,C2,C3,C4⟩:=aLc (fun W=>Hc.out Y1 Y2 W) (fun W=>Hc.out X1 X2 W) (fun W=>SK t1 t2 W) (fun W=>Hc.out k1 k2 W);rw[←hr1] at C1;rw[←hr2] at C2;rw[←hr3] at C3;rw[←hr4] at C4;have HV2:=aLa (show cfP ⟨k1,t1,X1,Y1,W1,n1⟩ ⟨k2,t2,X2,Y2,W2,n2⟩=aG [r1,r2,r3,r4] by rw[HV.out,hr1,hr2,hr3,hr4]);clear HV Hc hr1 hr2 hr3 hr4 h1 h2
 go_in
 go_upto_region 1 with fail;have b1:=(Blk.new w 161 #[k1,t1,X1,Y1,W1,n1]).alloc (.cells #[k2,t2,X2,Y2,W2,n2] 161);have b2:=Blk.new (w.alloc (.cells #[k1,t1,X1,Y1,W1,n1] 161)) 161 #[k2,t2,X2,Y2,W2,n2];obtain ⟨w1,hw1⟩:=aLt ((w.alloc (.cells #[k1,t1,X1,Y1,W1,n1] 161)).alloc (.cells #[k2,t2,X2,Y2,W2,n2] 161));obtain ⟨o1,ho1⟩:=aLt w.heap.size;obtain ⟨o2,ho2⟩:=aLt ((w.alloc (.cells #[k1,t1,X1,Y1,W1,n1] 161)).heap.size);have aIt:o2=o1+1:=(by rw[ho2,ho1];simp);rw[←hw1] at b1 b2;rw[←ho1] at b1;rw[←ho2] at b2;try rw[←hw1,←ho1]
 have HW1:=aLa hw1;rw[aIt] at b2;clear hw1 ho1 ho2 aIt;have kA:=b1.all6';have kB:=b2.all6';clear b1 b2;refine aLs [aLq 0,aLq 1,aLq 2,aLq 3,aLq 5,aLq 6,aLq 7,aLq 8,aLq 10,aLq 11,aLq 12,aLq 13,aLq 15,aLq 16,aLq 17,aLq 18,aLr 4,aLr 9,aLr 14,aLr 19,aLr 20,aLr 21,aLq 22] (by kernel_rfl) ?_
 iterate 16
  apply Flow.calm2 _ _ rfl rfl
  ·intro a b c d;obtain ⟨e,f⟩:=b.rule;go_simp;(try go_ints);exact d
  ·intro a b;simp only[sqA];exact b
 apply Flow.move rfl;go_wp2_with fail;refine (C1.out _).mono ?_;rintro e w' ⟨rfl,rfl⟩;go_wp2_with fail;refine ⟨fun _=>(by first|exact HB1|exact Bl.refl _),?_⟩;apply Flow.move rfl;go_wp2_with fail;refine (C2.out _).mono ?_;rintro e w' ⟨rfl,rfl⟩;go_wp2_with fail;refine ⟨fun _=>(by first|exact HB2|exact Bl.refl _),?_⟩;apply Flow.move rfl;go_wp2_with fail;refine (C3.out _).mono ?_;rintro e w' ⟨rfl,rfl⟩;go_wp2_with fail;refine ⟨fun _=>(by first|exact HB3|exact Bl.refl _),?_⟩;apply Flow.move rfl;go_wp2_with fail;refine (C4.out _).mono ?_;rintro e w' ⟨rfl,rfl⟩;go_wp2_with fail;refine ⟨fun _=>(by first|exact HB4|exact Bl.refl _),?_⟩;apply Flow.move rfl;go_wp2_with fail;first|refine ⟨fun _ => ?_,?_⟩|refine ⟨?_,?_⟩
 ·repeat' (first|exact Bl.refl _|refine Bl.drewL ?_|refine Bl.drew ?_|refine Bl.alloc ?_ _)
 apply Flow.move rfl;go_wp2_with fail;refine (VL _ _ [r1,r2,r3,r4] _ (Reads.lit (Blk.new _ _ _).drew rfl) (by simp)).mono ?_;rintro e w' ⟨rfl,rfl⟩;go_wp2_with fail;refine ⟨fun _=>(by first|exact HB6|exact Bl.refl _),?_⟩;apply Flow.asg _ rfl
 ·intro a b;simp only[sqA,Act.eval,sqC];exact b
 refine Flow.done ?_;go_wp2_with fail;go_ret;exact ⟨gB HV2.out.symm,1,#[_,_,_],by rw[HW1.out];exact (aEy _ _ _ _).symm⟩
end Go.Proofs.YtllefinciimffaaGreatDoor
