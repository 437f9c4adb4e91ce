import Derived.Test.YtllefinciimffaaGreatDoorMClaimTopForms31
import Derived.Test.YtllefinciimffaaGreatDoorMClaimTopForms30
import Derived.Test.YtllefinciimffaaGreatDoorMClaimTopForms19
set_option maxHeartbeats 20000000
set_option maxRecDepth 100000
namespace Go.Proofs.YtllefinciimffaaGreatDoor
open Go.RowKit
def Ks (ks qs:List Nat):Prop:=ks=43 :: (qs++[43])∧2≤qs.length∧∀q∈qs,q<43
theorem Ks.lt {ks qs:List Nat} (h:Ks ks qs):∀k∈ks,k<44:=by
 intro k hk;rw[h.1] at hk;rcases aLN.1 hk with rfl|hk
 ·decide
 ·rcases aLM.1 hk with hk|hk
  ·have:=h.2.2 k hk;omega
  ·rw[aLQ.1 hk];decide
theorem Ks.len {ks qs:List Nat} (h:Ks ks qs):ks.length=qs.length+2:=by rw[h.1];simp
def bsF (ks:List Nat):List (List Nat):=ks.map pC
theorem PU {ks:List Nat} (h:∀k∈ks,k<44):∀b∈bsF ks,GoodB b:=by
 intro b hb;obtain ⟨k,hk,rfl⟩:=aMf.1 hb;exact YI k (h k hk)
theorem aGF {ks:List Nat} (h:∀k∈ks,k<44):aI 0 (cK (bsF ks))=fS ks:=by
 unfold bsF;rw[←KA,nV h]
theorem aBr (ks:List Nat) (m:Nat):(bsF ks).take m=bsF (ks.take m):=by unfold bsF;rw[List.map_take]
theorem aCk {bs:List (List Nat)} {o m:Nat} {rest:List Int} (ho:1≤o) (ho8:o≤8) (hb:∀b∈bs,GoodB b) (h3:3≤m) (hm:m≤bs.length) :
 10*m-1≤(dP o (cK bs)++rest).length∧mX (dP o (cK bs)++rest) m=if (aN nP (aI 0 (cK (bs.take m)))).2=0 then some (aN nP (aI 0 (cK (bs.take m)))).1 else none:=by
 have hne:bs≠[]:=(by intro e;rw[e] at hm;simp at hm;omega);have hb9:∀b∈bs,b.length=9:=fun b h=>(hb b h).1;have hl:=p6 hne hb9;have hle:10*m-1≤(dP o (cK bs)).length:=(by rw[fP];omega);refine ⟨by rw[aLy];omega,?_⟩;have ht:=DV m hb9 (by omega) hm [];rw[aMj] at ht;unfold mX;rw[List.take_append_of_le_length hle,D1,ht];obtain ⟨h1,h2⟩:=aBn (bs:=bs.take m) ho ho8 (fun b h=>hb b (List.mem_of_mem_take h)) (by rw[aLA];omega);unfold A4;rw[if_pos h1,h2];rfl
theorem Ks.take {ks qs:List Nat} (h:Ks ks qs) {m:Nat} (h3:3≤m) (hm:m<ks.length):∃q r,q<43∧ks.take m=43 :: (r++[q]):=by
 have hl:=h.len;obtain ⟨q,hq⟩:∃q,qs[m-2]? = some q:=⟨_,aLv (by omega)⟩;refine ⟨q,qs.take (m-2),h.2.2 q (List.mem_of_getElem? hq),?_⟩;obtain ⟨m',rfl⟩:∃m',m=m'+2:=⟨m-2,by omega⟩;rw[h.1];show 43 :: (qs++[43]).take (m'+1)=_;rw[List.take_append_of_le_length (by omega),aMc,show m'+2-2=m' by omega,show qs[m']? = some q from hq];rfl
theorem Ks.drop {ks qs:List Nat} (h:Ks ks qs) {m:Nat} (h3:3≤m) (hm:m<ks.length):∃q r,q<43∧ks.drop (ks.length-m)=q :: (r++[43]):=by
 have hl:=h.len;obtain ⟨j,hj⟩:∃j,ks.length-m=j+1:=⟨ks.length-m-1,by omega⟩;have hjl:j<qs.length:=(by omega);refine ⟨qs[j],qs.drop (j+1),h.2.2 _ (List.getElem_mem hjl),?_⟩;rw[hj,h.1];show (qs++[43]).drop j=_;rw[List.drop_append_of_le_length (by omega),aL7 hjl];rfl
theorem NK {m:List UInt8} (h1:nP m=([],2)) (h2:nP m.reverse=([],2)):(aN nP m).2≠0:=by
 unfold aN;rw[h1,if_pos rfl,h2];decide
theorem noF {ks qs:List Nat} (h:Ks ks qs) {m:Nat} (h3:3≤m) (hm:m<ks.length):(aN nP (aI 0 (cK ((bsF ks).take m)))).2≠0:=by
 have hlt:∀k∈ks.take m,k<44:=fun k hk=>h.lt k (List.mem_of_mem_take hk);obtain ⟨q,r,hq,hks⟩:=h.take h3 hm;rw[aBr,aGF hlt];rw[hks] at hlt ⊢;exact NK (aDu (ks:=43 :: r) hlt (by omega)) (GB (by simp) fun k hk=>hlt k (List.mem_cons_of_mem _ hk))
theorem PV {zs : List Int} {L : Nat} {t : List UInt8} (hl : 10 * L - 1 ≤ zs.length) (hh : mX zs L = some t) (hno : ∀ m, 3 ≤ m → m < L → mX zs m = none) : ∀ k m, m + k = L → 3 ≤ m → dO zs m = some (L, t)
 |0,m,hk,h3=>by
  obtain rfl:m=L:=(by omega);exact qV hl hh
 |k+1,m,hk,h3=>by
  rw[iJ (by omega) (hno m h3 (by omega))];exact PV hl hh hno k (m+1) (by omega) (by omega)
theorem GD {bs : List (List Nat)} {o : Nat} {rest : List Int} {t : List UInt8} (ho : 1 ≤ o) (ho8 : o ≤ 8) (hb : ∀ b ∈ bs, GoodB b) (h4 : 4 ≤ bs.length)
 (hE:A9 (dP o (cK bs)++rest)=none) (ht:aN nP (aI 0 (cK bs))=(t,0)) (hno:∀m,3≤m→m<bs.length→(aN nP (aI 0 (cK (bs.take m)))).2≠0) :
 gJ (dP o (cK bs)++rest)=some (2,t,10*bs.length-1):=by
 have hL:=aCk (rest:=rest) ho ho8 hb (m:=bs.length) (by omega) (Nat.le_refl _);rw[aLC,ht,if_pos rfl] at hL;refine qW hE (PV hL.1 hL.2 (fun m h3 hm => ?_) (bs.length-3) 3 (by omega) (Nat.le_refl _));rw[(aCk (rest:=rest) ho ho8 hb h3 (by omega)).2,if_neg (hno m h3 hm)]
theorem NL {bs:List (List Nat)} {o w:Nat} {rest:List Int} (hb:∀b∈bs,GoodB b) (h4:4≤bs.length) (hw:w<3) (h3w:(cK bs)[w]? = some 3):A9 (dP o (cK bs)++rest)=none:=by
 unfold A9;by_cases h59:59≤(dP o (cK bs)++rest).length
 ·rw[if_pos h59];have hl:=p6 (bs:=bs) (by intro e;rw[e] at h4;simp at h4) fun b h=>(hb b h).1;have hg:∀i,i≤9→∃r,(cK bs)[i]? = some r∧((dP o (cK bs)++rest).take 59).getD i 0=((r*o:Nat):Int):=fun i hi=>by
   obtain ⟨r,hr⟩:∃r,(cK bs)[i]? = some r:=⟨_,aLv (by omega)⟩;refine ⟨r,hr,?_⟩;rw[aLx,aLH (by omega),aLE (by rw[fP];omega),GA hr];rfl
  refine aEK (w:=w) (by rw[aLA];omega) hw fun i hi => ?_;obtain ⟨r,hr,e1⟩:=hg i hi;obtain ⟨r2,hr2,e2⟩:=hg w (by omega);rw[h3w] at hr2;obtain rfl:=aLZ hr2;rw[e1,e2];have hr3:r≤3:=(by rcases tX hb r (List.mem_of_getElem? hr) with rfl|rfl<;>omega);have:=Nat.mul_le_mul_right o hr3;omega
 ·rw[if_neg h59]
theorem aEL {ks qs:List Nat} (h:Ks ks qs):(cK (bsF ks))[1]? = some 3:=by
 rw[h.1];unfold bsF;rw[List.map_cons,qZ _ (by simp)];rfl
def CodeOk (t:List UInt8) (ks:List Nat):Prop:=nP (fS ks)=(t,0)
theorem aEM {ks qs:List Nat} {t:List UInt8} {o:Nat} {rest:List Int} (h:Ks ks qs) (ht:CodeOk t ks) (ho:1≤o) (ho8:o≤8):gJ (dP o (cK (bsF ks))++rest)=some (2,t,10*ks.length-1):=by
 have hl:(bsF ks).length=ks.length:=aLz ..;have hk:=h.len;have hq:=h.2.1;have hg:=PU h.lt;rw[←hl];refine GD ho ho8 hg (by omega) (NL (w:=1) hg (by omega) (by decide) (aEL h)) ?_ fun m h3 hm=>noF h h3 (by omega);rw[aGF h.lt,M9 (by rw[ht];exact (by decide:(0:Int)≠2)),ht]
theorem lB {α:Type} (a b:Nat) (f:Nat→α):(List.range (a+b)).map f=(List.range a).map f++(List.range b).map (fun x=>f (a+x)):=by
 rw[List.range_add,aLS,aMg];rfl
theorem oK {α:Type} (n:Nat) {f:Nat→α} {c:α} (h:∀i,i<n→f i=c):(List.range n).map f=List.replicate n c:=by
 apply List.ext_getElem?;intro i;by_cases hi:i<n
 ·rw[aLG,aMd hi,List.getElem?_replicate,if_pos hi];exact congrArg some (h i hi)
 ·rw[aL5 (by rw[aLz,aMe];omega),aL5 (by rw[aLF];omega)]
theorem KH {α : Type} {u : Nat} (hu : 1 ≤ u) (g : Nat → α) : ∀ L, (List.range (L * u)).map (fun k => g (k / u)) = (List.range L).flatMap fun i => List.replicate u (g i)
 |0=>by simp
 |L+1=>by
  rw[Nat.add_mul,Nat.one_mul,lB,KH hu g L,List.range_succ,aMh]
  congr 1
  rw[oK u (c:=g L) (fun j hj=>by
   congr 1
   rw[Nat.mul_comm,Nat.mul_add_div (by omega),Nat.div_eq_of_lt hj,Nat.add_zero])]
  simp
def KI (u:Nat) (m:List UInt8):List UInt8:=m.flatMap (List.replicate u)
theorem TR {α β:Type} (l:List α) (d:α) (f:α→β):(List.range l.length).map (fun i=>f (l.getD i d))=l.map f:=by
 apply List.ext_getElem?;intro i;by_cases hi:i<l.length
 ·rw[aLG,aMd hi,aLG,aLv hi];show some (f (l.getD i d))=some (f l[i]);rw[aLx,aLv hi];rfl
 ·rw[aL5 (by rw[aLz,aMe];omega),aL5 (by rw[aLz];omega)]
theorem aBs {m:List UInt8} {u q:Nat} (y:Nat) (hu:1≤u) (hm:∀b∈m,b=48∨b=49):(List.range (2*q+u*m.length)).map (fun x=>pA (oC m u q x y))=List.replicate q 48++(KI u m++List.replicate q 48):=by
 rw[show 2*q+u*m.length=q+(m.length*u+q) by rw[Nat.mul_comm u];omega,lB,lB]
 congr 1
 ·refine oK q fun i hi => ?_;unfold oC;rw[aLW (by omega)];rfl
 ·congr 1
  ·have h1:(List.range (m.length*u)).map (fun x=>pA (oC m u q (q+x) y))=(List.range (m.length*u)).map (fun k=>(fun i=>pA ((m.getD i 0).toNat==49)) (k / u)):=by
    refine List.map_congr_left fun x hx => ?_;have hx':=List.mem_range.1 hx;unfold oC;rw[aLX (by omega),Bool.true_and,show q+x-q=x by omega]
   refine h1.trans ((KH hu (fun i=>pA ((m.getD i 0).toNat==49)) m.length).trans ?_);have h2:((List.range m.length).flatMap fun i=>List.replicate u (pA ((m.getD i 0).toNat==49)))=((List.range m.length).map fun i=>(fun b:UInt8=>List.replicate u (pA (b.toNat==49))) (m.getD i 0)).flatten:=by
    rw[List.flatMap_def]
   rw[h2,TR m 0 (fun b:UInt8=>List.replicate u (pA (b.toNat==49)))];unfold KI;rw[List.flatMap_def]
   congr 1
   refine List.map_congr_left fun b hb => ?_;rcases hm b hb with rfl|rfl<;>rfl
  ·refine oK q fun i hi => ?_;unfold oC;rw[aLW (by omega)];rfl
theorem AJ (i : Nat) : ∀ (rs : List Nat), ∀ b ∈ aI i rs, b = 48 ∨ b = 49
 |[],b,h=>by cases h
 |n :: rs,b,h=>by
  rcases aLM.1 h with h|h
  ·rw[List.eq_of_mem_replicate h];unfold bZ;split
   ·exact .inr rfl
   ·exact .inl rfl
  ·exact AJ (i+1) rs b h
theorem YL {ds:List UInt8} (h:nL ds=0):EanOk ds∧oW ds=jU ds:=by
 refine ⟨?_,by unfold oW;rw[if_pos h]⟩;unfold nL at h;by_cases hd:uR ds 13=true
 ·rw[if_pos hd] at h;unfold uR at hd;simp only[aLV,decide_eq_true_eq] at hd;by_cases hc:i8 (ds.take 12)=aS ds 12
  ·exact ⟨hd.1,hd.2,hc⟩
  ·rw[if_neg hc] at h;cases h
 ·rw[if_neg hd] at h;cases h
theorem TS {t:List UInt8} (h:fE t=0):Ks (ksL t) ((t++GU t).map nO)∧CodeOk t (ksL t)∧mV t=fS (ksL t):=by
 obtain ⟨hok,h1,h40⟩:=zY h;have hn:nO 42=43:=(by decide +kernel);have hks:ksL t=43 :: ((t++GU t).map nO++[43]):=by
  unfold ksL gX;rw[List.map_cons,aLS,hn];rfl
 refine ⟨⟨hks,?_,fun q hq => ?_⟩,aDp h,by unfold mV;rw[if_pos h];rfl⟩
 ·rw[aLz,aLy];unfold GU;simp;omega
 ·obtain ⟨c,hc,rfl⟩:=aMf.1 hq;have hw:c∈gX t:=List.mem_cons_of_mem _ (List.mem_append_left _ hc);have hlt:=DL hok (nO c) (aMf.2 ⟨c,hw,rfl⟩);rcases Nat.lt_or_ge (nO c) 43 with h2|h2
  ·exact h2
  ·exfalso;have h3:=PI c (tR hok c hw);rw[show nO c=43 by omega] at h3;have h42:c=42:=h3.symm.trans (by decide);rw[h42] at hc;exact XU hok hc
end Go.Proofs.YtllefinciimffaaGreatDoor
namespace Go.Proofs.YtllefinciimffaaGreatDoor
theorem NM {ls:List Ltr} {ht gap sp:Nat} {t:List UInt8} (h:jN ls ht gap sp t=0):aE (nH ls gap sp t) ht=0:=by
 unfold jN at h;split at h
 ·exact h
 ·rename_i hn;exact absurd h hn
structure BoxOk (x:Fld) (W H:Nat):Prop where
 inW:∃X Y w h:Nat,x.box=⟨X,Y,w,h⟩∧1≤w∧1≤h∧X+w≤W∧Y+h≤H
theorem NN {b:Bx} {W H:Nat} (h:b.inP W H=true):∃X Y w h:Nat,b=⟨X,Y,w,h⟩∧1≤w∧1≤h∧X+w≤W∧Y+h≤H:=by
 obtain ⟨X,Y,w,hh⟩:=b;have h:=aLY (show decide (0≤X∧X<(W:Int)∧0≤Y∧Y<(H:Int)∧1≤w∧w≤(W:Int)-X∧1≤hh∧hh≤(H:Int)-Y)=true from h);obtain ⟨X',rfl⟩:=Int.eq_ofNat_of_zero_le (show 0≤X by omega);obtain ⟨Y',rfl⟩:=Int.eq_ofNat_of_zero_le (show 0≤Y by omega);obtain ⟨w',rfl⟩:=Int.eq_ofNat_of_zero_le (show 0≤w by omega);obtain ⟨h',rfl⟩:=Int.eq_ofNat_of_zero_le (show 0≤hh by omega);exact ⟨X',Y',w',h',rfl,by omega,by omega,by omega,by omega⟩
theorem KJ {f:Frm} {W H r:Nat} (hf:f.err=0) (cM:Fits f W H r) {x:Fld} (hx:x∈f.lf):(∀b∈x.marks,∃X Y w h:Nat,b=⟨X,Y,w,h⟩∧1≤w∧1≤h∧X+w≤W∧Y+h≤H)∧(bL x.kind=false→BoxOk x W H)∧x.marks.length≤20∧(1≤x.kind∧x.kind≤4):=by
 obtain ⟨-,-,-,hfl⟩:=JU hf;obtain ⟨pv,he⟩:=pS hfl x hx;obtain ⟨h1,h2,h3,h4,h5,h6,h7⟩:=FI he;rw[cM.fW,cM.fH] at h1 h7;refine ⟨fun b hb=>NN (h1 b ?_),fun hm=>⟨NN (h7 hm)⟩,h5,h4⟩;unfold cG;exact List.mem_append_right _ hb
theorem PW {x:Fld} {W H:Nat} (hb:BoxOk x W H) (hW:W≤4000) (hH:H≤4000) (hWH:W*H≤1048576):∃h:Nat,x.box.H=(h:Int)∧(1≤h∧h≤4000)∧x.box.W≤4000∧x.box.W*(h:Int)≤1048576:=by
 obtain ⟨X,Y,w,h,e,h1,h2,h3,h4⟩:=hb.inW;rw[e];refine ⟨h,rfl,⟨h2,by omega⟩,show (w:Int)≤4000 by omega,?_⟩;have:=aMa (show w≤W by omega) (show h≤H by omega);show (w:Int)*(h:Int)≤1048576;have e2:=aL9 w h;omega
theorem YM {ls:List Ltr} {ht gap sp:Nat} {x:Fld} {t:List UInt8} {h:Nat} (hb:x.kind≠1→x.box.H=(h:Int)):iP ls ht gap sp x t=if mY ls ht gap sp x t=0 then aF (decide (x.box.W<(fF ls gap sp x t:Int))||decide (x.box.H<(gQ ht x:Int))) 15 else mY ls ht gap sp x t:=by
 unfold iP mY fF gQ;by_cases hk:x.kind=1
 ·simp only[if_pos hk]
 ·simp only[if_neg hk];by_cases hc:iK t=0
  ·simp only[if_pos hc];rw[hb hk,aL8,aLW (show ¬(h:Int)<(h:Int) by omega),Bool.or_false];cases decide (x.box.W<((lV t).length:Int))<;>simp[aF]
  ·simp only[if_neg hc]
theorem TU {ls:List Ltr} {ht gap sp:Nat} {x:Fld} {t:List UInt8} {W H:Nat} (hb:BoxOk x W H) (hW:W≤4000) (hH:H≤4000) (hWH:W*H≤1048576) (h0:mY ls ht gap sp x t=0):aE (fF ls gap sp x t:Int) (gQ ht x:Int)=0:=by
 unfold mY at h0;unfold fF gQ;by_cases hk:x.kind=1
 ·rw[if_pos hk] at h0 ⊢;rw[if_pos hk];exact NM h0
 ·rw[if_neg hk] at h0 ⊢;rw[if_neg hk];by_cases hc:iK t=0
  ·rw[if_pos hc] at h0;obtain ⟨c1,c2,c3⟩:=PM hc;have hw:=iB (by decide) h0;obtain ⟨h,e1,e2,e3,e4⟩:=PW hb hW hH hWH;have hd:=vD c1 c2 (h:=h) (bW:=x.box.W) (by simpa using hw) e3 e2 e4;unfold jT at hd;rw[if_neg c2,if_neg (by rw[c1];decide)] at hd;split at hd
   ·exact absurd hd (by decide)
   ·rw[show ((2:Int)*0+1*((lV t).length:Int))=((lV t).length:Int) by omega] at hd;rw[e1,aL8];exact hd
  ·rw[if_neg hc] at h0;exact absurd h0 hc
theorem mQ {fs:List Fld} {tw:Bool} {v:Vlu} (h:cP fs tw v=0):∃x,lT fs v.field=some x∧eU x v=false∧(∀m∈v.marks,0≤m∧m<(x.marks.length:Int))∧tw=false:=by
 unfold cP at h;split at h
 ·exact absurd h (by decide)
 ·rename_i x hx
  have hz:=bA h;have h1:=iB (by decide) (hz (aF tw 6) (by simp));have h2:=iB (by decide) (hz (aF (bB x v) 2) (by simp));have h3:=iB (by decide) (hz (mN x v.marks) (by simp));refine ⟨x,hx,?_,fun m hm => ?_,h1⟩
  ·cases hw:eU x v with
   |false=>rfl
   |true=>have:=fD (w0:=eU x v) (l:=v.marks) (j:=0) hw (max 1 v.marks.length) (Nat.zero_le _);unfold bB at h2;rw[this] at h2;cases h2
  ·have:=List.any_eq_false.1 h3 m hm;have hi:inB m 0 ((x.marks.length:Int)-1)=true:=(by simpa using this);have:=aR.1 hi;omega
theorem vH {x:Fld} {v:Vlu} (h:eU x v=false) (ht:v.text≠[]):bL x.kind=false:=by
 unfold eU rM at h;simp only[Bool.or_eq_false_iff] at h;have h1:=h.2.1;cases hm:bL x.kind with
 |false=>rfl
 |true=>
  rw[hm] at h1;cases hv:v.text with
  |nil=>exact absurd hv ht
  |cons=>rw[hv] at h1;cases h1
theorem YN {ls:List Ltr} {ht gap sp W H:Nat} {fs:List Fld} {tw:Bool} {v:Vlu} {pg:List Bool} (h:cP fs tw v≠0):lA ls ht gap sp W H fs tw v pg=(cP fs tw v,if lT fs v.field=none then [] else []):=by
 unfold lA;cases hf:lT fs v.field with
 |none=>simp only;unfold cP;rw[hf];rfl
 |some x=>simp only[if_neg h];rfl
theorem KK {ls:List Ltr} {ht gap sp W H:Nat} {fs:List Fld} {tw:Bool} {v:Vlu} {pg:List Bool} (h:cP fs tw v≠0):(lA ls ht gap sp W H fs tw v pg).1=cP fs tw v:=by rw[YN h]
theorem D3 {ls:List Ltr} {ht gap sp W H:Nat} {fs:List Fld} {tw:Bool} {v:Vlu} {pg:List Bool} {x:Fld} (h:cP fs tw v=0) (hx:lT fs v.field=some x) (ht0:v.text=[]):lA ls ht gap sp W H fs tw v pg=(0,dB W H x v.marks pg v.marks.length):=by
 unfold lA;rw[hx];simp only[if_pos h,if_pos ht0]
theorem D4 {ls : List Ltr} {ht gap sp W H : Nat} {fs : List Fld} {tw : Bool} {v : Vlu} {pg : List Bool} {x : Fld} (h : cP fs tw v = 0) (hx : lT fs v.field = some x) (ht0 : v.text ≠ []) : lA ls ht gap sp W H fs tw v pg =
 if iP ls ht gap sp x v.text=0 then (0,eS W H (fZ (dB W H x v.marks pg v.marks.length) (oX ls ht gap sp x v.text) W H (fF ls gap sp x v.text) (gQ ht x) x.box.X x.box.Y)) else (iP ls ht gap sp x v.text,[]):=by
 unfold lA;rw[hx];simp only[if_pos h,if_neg ht0]
end Go.Proofs.YtllefinciimffaaGreatDoor
namespace Go.Proofs.YtllefinciimffaaGreatDoor
open Go.RowKit Go.Shelf
theorem P3 (f : Frm) (L : Option Addr) (n c : Nat) (fnm : List UInt8) (ht gap sp : Int) (A : Option Addr) (lc : Nat) (ls : List Ltr) (E : Int) (W H : Nat) (bs : List Bool) (w : World) (hF : FrmAt w f) (hS : f.small 1048576) (hN : NumOk w) (hC : SplitOk w)
 (hLs:LtrsAt w A ls) (UW:fnm.length≤9223372036854775807) (UX:ls.length≤9223372036854775807) (hE:E=if f.err=0 then bN (dA fnm) ht gap sp ls else f.err) (hz:E≠0) :
 Calls Tryz.prog 31 #[f.val,.slice L n c,.agg #[fnm,ht,gap,sp,.slice A ls.length lc]] w fun e w'=>DrawnRes w.heap.size E W H bs e w'∧Bl w w':=by
 have hck:=fun wx hF hN hC=>nK f wx hF hS hN hC;have hfc:=fun wx hL=>nG fnm ht gap sp A lc ls wx hL UW UX;obtain ⟨FE,hFE⟩:=aLt f.err;obtain ⟨GE,hGE⟩:=aLt (bN (dA fnm) ht gap sp ls);rw[←hFE] at hck hE;rw[←hGE] at hfc hE;obtain ⟨nm,fW,fH,reach,dark,AL,ac,la,FL,fc,lf,RL,rc,lr⟩:=f;let w1:=(((w).alloc (.cells #[nm,fW,fH,reach,dark,.slice AL la.length ac,.slice FL lf.length fc,.slice RL lr.length rc] 26)).alloc (.cells #[fnm,ht,gap,sp,.slice A ls.length lc] 46)).alloc (.cells #[.int .i64 0,.int .i64 0,.slice none 0 0] 43);obtain ⟨w1b,w11,w12,w13⟩:=aLj (x:=w1) w _ _ _ _ _ _ rfl;have sz1:w1.heap.size=w.heap.size+1+1+1:=(by simp[w1]);unfold Frm.val at hck;obtain ⟨Hck,Hfc,HLs,HE,Hz⟩:=aLd (hck w1 (hF.bl w1b) (hN.bl w1b) (hC.bl w1b)) hfc (hLs.bl w1b) hE hz;have k1:=w11.all8;have dV:=aLa w1b;unfold Frm.val;clear hF hLs hck hfc hN hC w1b hS hFE hGE hE hz
 go_in
 go_upto_region 1 with fail;rw[show ((w.alloc (.cells #[nm,fW,fH,reach,dark,.slice AL la.length ac,.slice FL lf.length fc,.slice RL lr.length rc] 26)).alloc (.cells #[fnm,ht,gap,sp,.slice A ls.length lc] 46)).alloc (.cells #[.int .i64 0,.int .i64 0,.slice none 0 0] 43)=w1 from rfl];clear_value w1;go_upto_region 2 with (go_at_call 39;refine Hck.out.mono ?_;rintro e w2 ⟨rfl,hb2⟩);have Hb2:=aLa hb2;have aFY:=hb2.le;clear k1;by_cases h0:FE≠0
 ·have hq:(FE != 0)=true:=(by simp[h0]);have HX:=aLa (show E=FE by rw[HE.out,if_neg h0]);have B3:=aLa (w13.bl hb2);have k3:=B3.out.all3;clear hb2 h0;go_wp2_with fail;obtain ⟨wS,hwS⟩:=aLt (((w2.setCell ⟨w.heap.size+1+1,0,none⟩ (.int .i64 0)).setCell ⟨w.heap.size+1+1,1,none⟩ (.int .i64 0)).setCell ⟨w.heap.size+1+1,2,none⟩ (.slice none 0 0));have bS:Blk wS (w.heap.size+1+1) 43 #[.int .i64 0,.int .i64 0,.slice none 0 0]:=(by rw[hwS];exact ((B3.out.set_ 0 _).set_ 1 _).set_ 2 _);have hS:Bl w wS:=(by rw[hwS];exact (((dV.out.trans Hb2.out).setCell (by show w.heap.size≤w.heap.size+1+1;omega) _).setCell (by show w.heap.size≤w.heap.size+1+1;omega) _).setCell (by show w.heap.size≤w.heap.size+1+1;omega) _);rw[←hwS];have kF:=bS.all3;refine aL0 (v:=.tuple #[.agg #[.int .i64 0,.int .i64 0,.slice none 0 0],FE]) (by simp[results,Tryz.results31,go_sem,kF]) rfl ⟨⟨0,0,none,0,0,by rw[HX.out],Res.zero _ _ _ _ _ Hz.out⟩,hS⟩
 have h00:FE=0:=Classical.not_not.1 h0;have HX:=aLa (show E=GE by rw[HE.out,if_pos h00]);have k2:=(w12.bl hb2).all5;subst h00;clear h0 hb2;go_upto_region 5 with (go_at_call 79;refine (Hfc.out _ (HLs.out.bl Hb2.out)).mono ?_;rintro e w3 ⟨rfl,hb3⟩);have Hb3:=aLa (Hb2.out.trans hb3);have hq:(GE != 0)=true:=(by have:=Hz.out;rw[HX.out] at this;simpa using this);have B3:=aLa (w13.bl Hb3.out);have k3:=B3.out.all3;have N2:=Hb3.out.le;clear hb3 k2;go_wp2_with fail;obtain ⟨wS,hwS⟩:=aLt (((w3.setCell ⟨w.heap.size+1+1,0,none⟩ (.int .i64 0)).setCell ⟨w.heap.size+1+1,1,none⟩ (.int .i64 0)).setCell ⟨w.heap.size+1+1,2,none⟩ (.slice none 0 0));have bS:Blk wS (w.heap.size+1+1) 43 #[.int .i64 0,.int .i64 0,.slice none 0 0]:=(by rw[hwS];exact ((B3.out.set_ 0 _).set_ 1 _).set_ 2 _);have hS:Bl w wS:=(by rw[hwS];exact (((dV.out.trans Hb3.out).setCell (by show w.heap.size≤w.heap.size+1+1;omega) _).setCell (by show w.heap.size≤w.heap.size+1+1;omega) _).setCell (by show w.heap.size≤w.heap.size+1+1;omega) _);rw[←hwS];have kF:=bS.all3;refine aL0 (v:=.tuple #[.agg #[.int .i64 0,.int .i64 0,.slice none 0 0],GE]) (by simp[results,Tryz.results31,go_sem,kF]) rfl ⟨⟨0,0,none,0,0,by rw[HX.out],Res.zero _ _ _ _ _ Hz.out⟩,hS⟩
end Go.Proofs.YtllefinciimffaaGreatDoor
namespace Go.Proofs.YtllefinciimffaaGreatDoor
open Go.RowKit Go.Shelf Go.Sort Go.Lib
theorem YO {cs:List Bool} {W H:Nat} {t0:List UInt8} (h0:t0≠[32]) {ls:List Ltr} (h:∀l∈ls,l.text≠[32]):(cQ cs W H t0 ls).1≠[32]:=by
 have key:∀(ls:List Ltr) (s:Best),(∀l∈ls,l.text≠[32])→s.1≠[32]→(ls.foldl (cZ cs W H) s).1≠[32]:=by
  intro ls;induction ls with
  |nil=>intro s _ h;exact h
  |cons l ls ih=>
   intro s hl hs;refine ih (cZ cs W H s l) (fun x hx=>hl x (List.mem_cons_of_mem _ hx)) ?_;unfold cZ;split
   ·exact hs
   ·split
    ·exact hl l (List.mem_cons_self ..)
    ·split<;>exact hs
 exact key ls _ h h0
structure SnSays (s:Sn):Prop where
 lost:s.d<0→s.t=[63]
 wide:s.t≠[32]→1≤s.W
theorem P4 {bs:List Bool} {W H:Nat} {ls:List Ltr} {most ht:Int} {p:Piece} (hl:∀l∈ls,l.text≠[32]) (hp:1≤p.2):SnSays (aEz (iR bs W H ls most ht p))∧(aEz (iR bs W H ls most ht p)).t≠[32]:=by
 have hw:=YO (cs:=eS p.2 H (kR bs W p.1 0)) (W:=p.2) (H:=H) (t0:=[]) (by decide) hl;unfold iR dD;split
 ·exact ⟨⟨fun _=>rfl,fun _=>show (1:Int)≤(p.2:Int) by omega⟩,by show ([63]:List UInt8)≠[32];decide⟩
 ·rename_i hf
  have hd:¬(cQ (eS p.2 H (kR bs W p.1 0)) p.2 H [] ls).2.1<0:=fun h=>hf (aLX (Or.inl h));exact ⟨⟨fun h=>absurd h hd,fun _=>show (1:Int)≤(p.2:Int) by omega⟩,hw⟩
theorem KM {bs : List Bool} {W H : Nat} {ls : List Ltr} {most ht gs : Int} {ps : List Piece} (hl : ∀ l ∈ ls, l.text ≠ [32]) (hp : ∀ p ∈ ps, 1 ≤ p.2) : ∀ i, i ≤ ps.length → ∀ row ∈ cC (iR bs W H ls most ht) gs H ps i, SnSays (aEz row)
 |0,_,row,h=>by cases h
 |i+1,hi,row,h=>by
  have hm:bD ps i∈ps:=by
   unfold bD;rw[aLx,aLv (by omega)];exact List.getElem_mem _
  have e2:cC (iR bs W H ls most ht) gs H ps (i+1)=cC (iR bs W H ls most ht) gs H ps i++(if 0<i∧gs≤iX ps i then [d8 (kV ps (i-1)) (iX ps i) H] else [])++[iR bs W H ls most ht (bD ps i)]:=rfl;rw[e2] at h;rcases aLM.1 h with h|h
  ·rcases aLM.1 h with h|h
   ·exact KM hl hp i (by omega) row h
   ·split at h
    ·rw[aLQ.1 h];exact ⟨fun h=>absurd (show (0:Int)<0 from h) (by decide),fun h=>absurd rfl h⟩
    ·cases h
  ·rw[aLQ.1 h];exact (P4 hl (hp _ hm)).1
theorem KN {bs : List Bool} {W H : Nat} {ls : List Ltr} {most ht gs : Int} {ps : List Piece} : ∀ i, (cC (iR bs W H ls most ht) gs H ps (i + 1))[0]? = some (iR bs W H ls most ht (bD ps 0))
 |0=>rfl
 |i+1=>by
  have ih:=KN (bs:=bs) (W:=W) (H:=H) (ls:=ls) (most:=most) (ht:=ht) (gs:=gs) (ps:=ps) i;have e2:cC (iR bs W H ls most ht) gs H ps (i+1+1)=cC (iR bs W H ls most ht) gs H ps (i+1)++((if 0<i+1∧gs≤iX ps (i+1) then [d8 (kV ps (i+1-1)) (iX ps (i+1)) H] else [])++[iR bs W H ls most ht (bD ps (i+1))]):=by
   rw[←aLL];rfl
  rw[e2,aLE (aLw.1 ih).1];exact ih
structure LineSays (ss:List Sn):Prop where
 all:∀s∈ss,SnSays s
 head:∀s,ss[0]? = some s→s.t≠[32]
theorem TW {bs:List Bool} {W H:Nat} {ls:List Ltr} {most ht gs:Int} (hl:∀l∈ls,l.text≠[32]):LineSays (rC bs W H ls most ht gs):=by
 have hp:∀p∈aB (lP bs W H) W,1≤p.2:=fun p h=>(pJ (lP bs W H) W p h).1;refine ⟨fun s hs => ?_,fun s hs => ?_⟩
 ·unfold rC zE at hs;obtain ⟨row,hr,rfl⟩:=aMf.1 hs;exact KM hl hp _ (Nat.le_refl _) row hr
 ·unfold rC zE at hs;rw[aLG] at hs;cases hn:(aB (lP bs W H) W).length with
  |zero=>rw[hn] at hs;cases hs
  |succ n=>rw[hn,KN n] at hs;obtain rfl:=aLZ hs;refine (P4 hl (hp _ ?_)).2;unfold bD;rw[aLx,aLv (by omega)];exact List.getElem_mem _
theorem TX {t:List UInt8} (h:o0 t=true):t≠[32]:=by
 intro e;unfold o0 at h;rw[aLV,decide_eq_true_eq] at h;have:=h.1 32 (by rw[e];simp);simp at this
theorem NO {ss:List Sn} (hs:∀s∈ss,SnLine s):∀i,jO ss i≤jO ss (i+1):=fun i=>by
 cases hg:ss[i]? with
 |none=>show _≤_+(match ss[i]? with|none=>(0:Int)|some s=>if gU s=true then 0 else s.W);rw[hg];simp
 |some s=>have h:=(hs s (List.mem_of_getElem? hg)).W;rw[oG hg];split<;>omega
theorem D5 {ss : List Sn} (h : LineSays ss) (hs : ∀ s ∈ ss, SnLine s) (hn : ss ≠ []) : ∀ i, 1 ≤ jO ss (i + 1)
 |0=>by
  obtain ⟨s,hg⟩:∃s,ss[0]? = some s:=by
   cases ss with
   |nil=>exact absurd rfl hn
   |cons s ss=>exact ⟨s,rfl⟩
  rw[oG hg,show gU s=false from aLW (h.head s hg)];have:=(h.all s (List.mem_of_getElem? hg)).wide (h.head s hg);show 1≤(0:Int)+_;simpa using this
 |i+1=>Int.le_trans (D5 h hs hn i) (NO hs (i+1))
theorem NP {ss:List Sn} (h:LineSays ss) (hs:∀s∈ss,SnLine s) (h0:jO ss ss.length=0):ss=[]:=by
 cases ss with
 |nil=>rfl
 |cons s l=>have:=D5 h hs (by simp) l.length;rw[aLB] at h0;omega
theorem sL {out:List Cd} {h:∀e∈out,CdIn e}:∀c∈iA out h,c∈out:=by
 intro c hc;obtain ⟨hsz,-,hp⟩:=(pdq_sorts (ltOf UO) xL (toS out h).toArray 0 (toS out h).toArray.size (Lib.bitLen (toS out h).toArray.size) true true (Nat.zero_le _) (Nat.le_refl _) (Or.inl rfl)).1;unfold iA at hc;obtain ⟨x,hx,rfl⟩:=aMf.1 hc;generalize pdq (ltOf UO) (toS out h).toArray 0 (toS out h).toArray.size (Lib.bitLen (toS out h).toArray.size) true true=d' at hsz hp hx;have e1:(d'.extract 0 (toS out h).toArray.size).toList=d'.toList:=by
  rw[Array.toList_extract,List.extract_eq_take_drop,List.drop_zero,Nat.sub_zero,aL6 (by rw[Array.length_toList,hsz];exact Nat.le_refl _)]
 have e2:((toS out h).toArray.extract 0 (toS out h).toArray.size).toList=toS out h:=by
  rw[Array.toList_extract,List.extract_eq_take_drop,List.drop_zero,Nat.sub_zero,aL6 (by simp)]
 rw[e1,e2] at hp;have hx2:=hp.subset hx;unfold toS at hx2;obtain ⟨a,ha,rfl⟩:=List.mem_pmap.1 hx2;exact ha
instance (e:Cd):Decidable (CdIn e):=by unfold CdIn;infer_instance
def jP (bs:List Bool) (W H:Nat):List Cd:=if h:dW (aO bs W 1 H)=0∧∀e∈cS (aO bs W 1 H),CdIn e then iA (cS (aO bs W 1 H)) h.2 else []
theorem qA {bs:List Bool} {W H:Nat} (h:∀e∈cS (aO bs W 1 H),CdIn e) (h0:dW (aO bs W 1 H)=0):jP bs W H=iA (cS (aO bs W 1 H)) h:=by
 unfold jP;rw[dif_pos ⟨h0,h⟩]
theorem oL {bs:List Bool} {W H:Nat} (h0:dW (aO bs W 1 H)≠0):jP bs W H=[]:=by
 unfold jP;rw[dif_neg (fun h=>h0 h.1)]
theorem aBt (H:Nat):NH H 1=H:=by unfold NH;simp
theorem NQ {bs:List Bool} {W H:Nat} (hW:W≤4000) (hH:H≤4000):∀c∈aO bs W 1 H,CdOk 1 c:=fun c hc=>by
 have h:=qY (bs:=bs) (W:=W) (step:=1) (H:=H) hW hH H (fun i hi=>by omega) c hc;exact yQ h.1 (by omega)
theorem P5 {bs:List Bool} {W H:Nat} (hW:W≤4000) (hH:H≤4000):dW (aO bs W 1 H)=0↔(aO bs W 1 H).length≤10000:=by
 rw[YC (fun c hc=>(qY (bs:=bs) (W:=W) (step:=1) (H:=H) hW hH H (fun i hi=>by omega) c hc).1)];constructor
 ·intro h;apply Classical.byContradiction;intro hn;rw[aLX (by omega)] at h;exact absurd h (by decide)
 ·intro h;rw[aLW (by omega)];rfl
theorem tY {bs:List Bool} {W H:Nat} (hW:W≤4000) (hH:H≤4000):(∀e∈cS (aO bs W 1 H),CdOk (aO bs W 1 H).length e)∧(cS (aO bs W 1 H)).length≤(aO bs W 1 H).length:=by
 have h:=yR (NQ (bs:=bs) hW hH) (aO bs W 1 H).length (Nat.le_refl _)
 rwa [aLC] at h
theorem KO {bs:List Bool} {W H:Nat} (hW:W≤4000) (hH:H≤4000):(∀c∈jP bs W H,(1≤c.n∧c.n≤10000000000))∧(jP bs W H).length≤10000:=by
 by_cases h0:dW (aO bs W 1 H)=0
 ·have hg:=tY (bs:=bs) hW hH;have hl:=(P5 (bs:=bs) hW hH).1 h0;have hin:∀e∈cS (aO bs W 1 H),CdIn e:=fun e he=>(hg.1 e he).in_;rw[qA hin h0];refine ⟨fun c hc => ?_,by rw[kL];omega⟩;have:=hg.1 c (sL c hc);obtain ⟨-,-,-,-,-,-,-,h1,h2,-⟩:=this;omega
 ·rw[oL h0];exact ⟨(fun c hc=>by cases hc),Nat.zero_le _⟩
def fB (cs : List Cd) : Nat → List UInt8 × Int
 |0=>([],0)
 |i+1=>match cs[i]? with|none=>fB cs i|some c=>if (fB cs i).2<c.n then (c.t,c.n) else fB cs i
theorem q9 {cs:List Cd} {i:Nat} {c:Cd} (h:cs[i]? = some c):fB cs (i+1)=if (fB cs i).2<c.n then (c.t,c.n) else fB cs i:=by
 show (match cs[i]? with|none=>fB cs i|some c=>if (fB cs i).2<c.n then (c.t,c.n) else fB cs i)=_;rw[h]
theorem P6 {cs : List Cd} (h : ∀ c ∈ cs, (1 ≤ c.n ∧ c.n ≤ 10000000000)) : ∀ i, 0 ≤ (fB cs i).2 ∧ (fB cs i).2 ≤ 10000000000 ∧ ((fB cs i).2 = 0 → (fB cs i).1 = [])
 |0=>by simp[fB]
 |i+1=>by
  have ih:=P6 h i;cases hg:cs[i]? with
  |none=>
   have e:fB cs (i+1)=fB cs i:=by
    show (match cs[i]? with|none=>fB cs i|some c=>if (fB cs i).2<c.n then (c.t,c.n) else fB cs i)=_;rw[hg]
   rw[e];exact ih
  |some c=>
   have hc:=h c (List.mem_of_getElem? hg);rw[q9 hg];split
   ·exact ⟨by omega,by omega,fun h=>absurd (show c.n=0 from h) (by omega)⟩
   ·exact ih
theorem D6 {cs : List Cd} {M : Nat} (h : ∀ c ∈ cs, c.t.length ≤ M) : ∀ i, (fB cs i).1.length ≤ M
 |0=>Nat.zero_le _
 |i+1=>by
  have ih:=D6 h i;cases hg:cs[i]? with
  |none=>
   have e:fB cs (i+1)=fB cs i:=by
    show (match cs[i]? with|none=>fB cs i|some c=>if (fB cs i).2<c.n then (c.t,c.n) else fB cs i)=_;rw[hg]
   rw[e];exact ih
  |some c=>
   rw[q9 hg];split
   ·exact h c (List.mem_of_getElem? hg)
   ·exact ih
theorem NR {bs:List Bool} {W H:Nat} (hW:W≤4000) (hH:H≤4000):∀c∈jP bs W H,c.t.length≤9223372036854775807:=by
 by_cases h0:dW (aO bs W 1 H)=0
 ·have hg:=tY (bs:=bs) hW hH;have hin:∀e∈cS (aO bs W 1 H),CdIn e:=fun e he=>(hg.1 e he).in_;rw[qA hin h0];intro c hc;obtain ⟨-,-,-,-,-,-,-,-,-,h⟩:=hg.1 c (sL c hc);exact h
 ·rw[oL h0];intro c hc;cases hc
theorem KP {α : Type} {f : α → Nat} {c : Nat} : ∀ {l : List α}, (∀ a ∈ l, f a ≤ c) → (l.map f).sum ≤ c * l.length
 |[],_=>Nat.zero_le _
 |a :: l,h=>by
  have ih:=KP (l:=l) fun x hx=>h x (List.mem_cons_of_mem _ hx);have ha:=h a (List.mem_cons_self ..);rw[List.map_cons,List.sum_cons,aLB,Nat.mul_add,Nat.mul_one];omega
def KQ (H:Int) (cs:List Cd) (ink:Bool):List UInt8 × Int:=
 ((fB cs cs.length).1,if (fB cs cs.length).2=0∧ink=false then 1000 else 1000*(fB cs cs.length).2 / H)
end Go.Proofs.YtllefinciimffaaGreatDoor
namespace Go.Proofs.YtllefinciimffaaGreatDoor
open Go.RowKit Go.Shelf
theorem rA {see : Piece → List Value} {gs : Int} {H : Nat} {ps : List Piece} {ls : List Ltr} {gap sp : Nat} (hg1 : (gap : Int) < gs) (hg2 : gs ≤ (sp : Int)) : ∀ (l : List (Option Nat)) (s : Spot) (i : Nat) (ss0 : List Sn), yZ s.2 l → i ≤ ps.length →
 ps.drop i=(cJ ls gap sp s l).map (MI ls)→cC see gs H ps i=ss0.map Sn.cells→(i=0∧s=(0,false)∨0<i∧kV ps (i-1)=if s.2=true then (s.1:Int) else (s.1:Int)-(sp:Int)) →
 (∀p∈cJ ls gap sp s l,∃sn:Sn,see (MI ls p)=sn.cells∧sn.t=gL ls p.1∧sn.d=0) →
 ∃ss:List Sn,cC see gs H ps ps.length=(ss0++ss).map Sn.cells∧gF ss=(if 0<i∧s.2=false then [32] else [])++dN ls l∧∀x∈ss,x.d=0
 |[],s,i,ss0,hok,hi,hd,hl,_,_=>by
  have hd':ps.drop i=[]:=hd;have h1:ps.length≤i:=List.drop_eq_nil_iff.1 hd';have h2:i=ps.length:=(by omega);have h3:s.2=true:=hok;refine ⟨[],by rw[←h2,hl,aMj],?_,fun x hx=>absurd hx (by simp)⟩;rw[if_neg (by rw[h3];simp)];rfl
 |none :: l,s,i,ss0,hok,hi,hd,hl,uD,QM=>by
  have h3:s.2=true:=hok.1;have aBD:0<i∧kV ps (i-1)=(s.1:Int):=by
   rcases uD with ⟨-,h⟩|⟨h1,h2⟩
   ·rw[h] at h3;cases h3
   ·rw[if_pos h3] at h2;exact ⟨h1,h2⟩
  obtain ⟨ss,h4,h5,h6⟩:=rA hg1 hg2 l (s.1+sp,false) i ss0 hok.2 hi hd hl (.inr ⟨aBD.1,by rw[if_neg (by simp),aBD.2];show (s.1:Int)=((s.1+sp:Nat):Int)-(sp:Int);omega⟩) QM;refine ⟨ss,h4,?_,h6⟩;rw[h5,if_pos ⟨aBD.1,rfl⟩,if_neg (by rw[h3];simp)];rfl
 |some k :: l,s,i,ss0,hok,hi,hd,hl,uD,QM=>by
  obtain ⟨a,haa⟩:=aLt (dU gap s);have e2:cJ ls gap sp s (some k :: l)=(k,a) :: cJ ls gap sp (a+eZ ls k,true) l:=(by rw[haa];rfl);rw[e2] at hd QM;rw[List.map_cons] at hd;have hlt:i<ps.length:=by
   rcases Nat.lt_or_ge i ps.length with h|h
   ·exact h
   ·rw[List.drop_eq_nil_of_le h] at hd;cases hd
  rw[aL7 hlt] at hd;injection hd with hd1 hd2;have hpa:bD ps i=(a,eZ ls k):=by
   unfold bD;rw[aLx,aLv hlt,hd1];rfl
  obtain ⟨sn,hs1,hs2,hs3⟩:=QM (k,a) (List.mem_cons_self ..);have aIW:see (bD ps i)=sn.cells:=(by rw[hpa];exact hs1);have BX:kV ps (i+1-1)=((a+eZ ls k:Nat):Int):=by
   unfold kV;rw[Nat.add_sub_cancel,hpa];show (a:Int)+(eZ ls k:Int)=_;omega
  have GM:i+1=0∧((a+eZ ls k,true):Spot)=(0,false)∨0<i+1∧kV ps (i+1-1)=if ((a+eZ ls k,true):Spot).2=true then (((a+eZ ls k,true):Spot).1:Int) else (((a+eZ ls k,true):Spot).1:Int)-(sp:Int):=
   .inr ⟨by omega,by rw[if_pos rfl];exact BX⟩
  have aEY:iX ps i=(a:Int)-kV ps (i-1):=(by unfold iX;rw[hpa]);have e3:cC see gs H ps (i+1)=cC see gs H ps i++(if 0<i∧gs≤iX ps i then [d8 (kV ps (i-1)) (iX ps i) H] else [])++[see (bD ps i)]:=rfl;by_cases hc:0<i∧s.2=false
  ·have hge:gs≤iX ps i:=by
    rcases uD with ⟨h,-⟩|⟨-,h⟩
    ·omega
    ·rw[if_neg (by rw[hc.2];simp)] at h;have h7:a=s.1:=(by rw[haa];unfold dU;rw[hc.2];rfl);rw[aEY,h,h7];omega
   rw[if_pos ⟨hc.1,hge⟩,hl,aIW] at e3;obtain ⟨ss,h4,h5,h6⟩:=rA hg1 hg2 l (a+eZ ls k,true) (i+1) (ss0++[⟨[32],kV ps (i-1),0,iX ps i,H,0,-1⟩]++[sn]) hok (by omega) hd2 (by rw[e3,aLS,aLS];rfl) GM (fun p hp=>QM p (List.mem_cons_of_mem _ hp));refine ⟨⟨[32],kV ps (i-1),0,iX ps i,H,0,-1⟩ :: sn :: ss,by rw[h4];simp,?_,?_⟩
   ·rw[if_neg (by simp)] at h5;rw[if_pos hc];show [32]++(sn.t++gF ss)=[32]++(gL ls k++dN ls l);rw[h5,hs2];rfl
   ·intro x hx;rcases aLN.1 hx with rfl|hx
    ·rfl
    ·rcases aLN.1 hx with rfl|hx
     ·exact hs3
     ·exact h6 x hx
  ·have hge:¬(0<i∧gs≤iX ps i):=by
    rintro ⟨h0,h1⟩;have h2:s.2=true:=by
     cases h:s.2
     ·exact absurd ⟨h0,h⟩ hc
     ·rfl
    rcases uD with ⟨h,-⟩|⟨-,h⟩
    ·omega
    ·rw[if_pos h2] at h;have h7:a=s.1+gap:=(by rw[haa];unfold dU;rw[if_pos h2]);rw[aEY,h,h7] at h1;omega
   rw[if_neg hge,hl,aIW,aMj] at e3;obtain ⟨ss,h4,h5,h6⟩:=rA hg1 hg2 l (a+eZ ls k,true) (i+1) (ss0++[sn]) hok (by omega) hd2 (by rw[e3,aLS];rfl) GM (fun p hp=>QM p (List.mem_cons_of_mem _ hp));refine ⟨sn :: ss,by rw[h4];simp,?_,?_⟩
   ·rw[if_neg (by simp)] at h5;rw[if_neg hc];show sn.t++gF ss=[]++(gL ls k++dN ls l);rw[h5,hs2];rfl
   ·intro x hx;rcases aLN.1 hx with rfl|hx
    ·exact hs3
    ·exact h6 x hx
theorem YP {ht gap sp:Nat} {ls:List Ltr} (hR:Right ht gap sp ls) (hI:Inked ht ls) (hT:Told ls) {t:List UInt8} {l:List (Option Nat)} (hl:fT ls t=some l) (hn:t≠[]) (hf:lR t=false) {W:Nat} (hW:(dT ls gap sp (0,false) l).1≤W) {most:Int} (hmo:0≤most) {bs:List Bool} (hbs:bs=eS W ht (sO ls (cJ ls gap sp (0,false) l))) :
 ∃ss:List Sn,cC (iR bs W ht ls most ht) (((gap:Int)+(sp:Int)+1) / 2) ht (aB (lP bs W ht) W) (aB (lP bs W ht) W).length=ss.map Sn.cells∧gF ss=t∧∀x∈ss,x.d=0:=by
 have hin:=OL hl;have BX:=pM (ls:=ls) (gap:=gap) (sp:=sp) l (0,false);have aDF:∀x,0≤x→x<(dT ls gap sp (0,false) l).1→(0<lP bs W ht x↔∃p∈cJ ls gap sp (0,false) l,p.2≤x∧x<p.2+eZ ls p.1):=fun x _ hx=>by
  rw[gZ];constructor
  ·rintro ⟨y,hy,hp⟩;rw[hbs,iS W ht _ x y (by omega) hy] at hp;unfold sO at hp;obtain ⟨p,hp1,hp2⟩:=aLP.1 hp;refine ⟨p,hp1,?_⟩;unfold BD at hp2;simp only[aLV,decide_eq_true_eq] at hp2;exact ⟨hp2.1,hp2.2.1⟩
  ·rintro ⟨p,hp,h1,h2⟩;obtain ⟨y,hy,hpx⟩:=hI.col p.1 (hin _ (kX l _ p hp)) (x-p.2) (by omega);refine ⟨y,hy,?_⟩;rw[hbs,iS W ht _ x y (by omega) hy];have h3:=xK l (0,false) p hp (x-p.2) y (by omega);rw[show p.2+(x-p.2)=x by omega] at h3;rw[h3];exact hpx
 have hps:aB (lP bs W ht) W=(cJ ls gap sp (0,false) l).map (MI ls):=by
  have h:=uX (ls:=ls) (gap:=gap) (sp:=sp) (f:=lP bs W ht) hR.gap1.1 hR.sp1.1 l (0,false) (fun k hk=>(hR.wd k (hin k hk)).2.1) rfl aDF;have hbl:∀x,(dT ls gap sp (0,false) l).1≤x→x<(dT ls gap sp (0,false) l).1+(W-(dT ls gap sp (0,false) l).1)→lP bs W ht x=0:=fun x h1 h2=>by
   rcases Nat.eq_zero_or_pos (lP bs W ht x) with h0|h0
   ·exact h0
   ·exfalso;obtain ⟨y,hy,hp⟩:=(gZ bs W ht x).1 h0;rw[hbs,iS W ht _ x y (by omega) hy] at hp;unfold sO at hp;obtain ⟨p,hp1,hp2⟩:=aLP.1 hp;unfold BD at hp2;simp only[aLV,decide_eq_true_eq] at hp2;have:=BX p hp1;omega
  have h2:=kJ (W-(dT ls gap sp (0,false) l).1) hbl;rw[show (dT ls gap sp (0,false) l).1+(W-(dT ls gap sp (0,false) l).1)=W by omega] at h2;rw[h2,h];rfl
 obtain ⟨ps,aKE⟩:=aLt (aB (lP bs W ht) W);rw[←aKE] at hps ⊢;have hlr:∀l∈ls,l.W≤64∧l.H≤4000∧0≤l.W:=fun x hx=>by
  obtain ⟨k,hk,rfl⟩:=List.mem_iff_getElem.1 hx;have h1:=hR.wd k hk;have h2:=hR.hts k hk;have h3:=hR.ht1;omega
 obtain ⟨ss, h1, h2, h3⟩ := rA (see := iR bs W ht ls most ht) (gs := ((gap : Int) + (sp : Int) + 1) / 2) (H := ht) (ps := ps) (ls := ls) (gap := gap) (sp := sp) (by have := hR.wide; omega) (by have := hR.wide; omega) l (0, false) 0 []
  (aC8 hl hn hf) (Nat.zero_le _) (by rw[List.drop_zero];exact hps) rfl (.inl ⟨rfl,rfl⟩) (fun p hp=>by
    have hk:=hin _ (kX l _ p hp);have hg:ls[p.1]? = some ls[p.1]:=aLv hk;have hWk:(ls[p.1]).W.toNat=eZ ls p.1:=(LT hg).symm;have hHk:(ls[p.1]).H.toNat=ht:=(by rw[hR.hts p.1 hk];rfl);have hcs:eS (eZ ls p.1) ht (kR bs W p.2 0)=(ls[p.1]).bs:=by
     have hb:=N8 (eZ ls p.1) ht (Q6 ls p.1) (hI.len p.1 hk);rw[←EY hg];conv=>rhs;rw[←hb]
     refine qC _ _ _ _ fun x y hx hy => ?_;unfold kR;have he:=BX p hp;rw[Nat.zero_add,hbs,iS W ht _ _ _ (by omega) hy];exact xK l (0,false) p hp x y hx
    obtain ⟨h4,h5⟩:=(O1 hT hlr hg ls.length (Nat.le_refl _)).1 hk;rw[aLC,hWk,hHk] at h4 h5;have hse:iR bs W ht ls most ht (MI ls p)=dD (cQ (ls[p.1]).bs (eZ ls p.1) ht [] ls) p.2 (eZ ls p.1) ht most ht:=by
     show dD (cQ (eS (eZ ls p.1) ht (kR bs W p.2 0)) (eZ ls p.1) ht [] ls) p.2 (eZ ls p.1) ht most ht=_;rw[hcs]
    have hfo:CN (cQ (ls[p.1]).bs (eZ ls p.1) ht [] ls) most ht (eZ ls p.1)=false:=by
     unfold CN;rw[h5];refine aLW ?_;have:=Int.mul_nonneg (Int.mul_nonneg hmo (show (0:Int)≤(ht:Int) by omega)) (show (0:Int)≤((eZ ls p.1:Nat):Int) by omega);omega
    refine ⟨⟨(cQ (ls[p.1]).bs (eZ ls p.1) ht [] ls).1,p.2,0,eZ ls p.1,ht,(cQ (ls[p.1]).bs (eZ ls p.1) ht [] ls).2.1,(cQ (ls[p.1]).bs (eZ ls p.1) ht [] ls).2.2⟩,?_,?_,?_⟩
    ·rw[hse];unfold dD;rw[hfo];rfl
    ·show (cQ (ls[p.1]).bs (eZ ls p.1) ht [] ls).1=gL ls p.1;rw[h4,tB hg]
    ·exact h5)
 refine ⟨ss,h1,?_,h3⟩;rw[h2,if_neg (by simp),List.nil_append,C5 hl]
theorem YQ {ht gap sp:Nat} {ls:List Ltr} (hR:Right ht gap sp ls) (hI:Inked ht ls) (hT:Told ls) {t:List UInt8} {l:List (Option Nat)} (hl:fT ls t=some l) (hn:t≠[]) (hf:lR t=false) {W:Nat} (hW:(dT ls gap sp (0,false) l).1≤W) {most:Int} (hmo:0≤most) {bs:List Bool} (hbs:bs=eS W ht (sO ls (cJ ls gap sp (0,false) l))) :
 gF (rC bs W ht ls most ht (((gap:Int)+(sp:Int)+1) / 2))=t∧∀x∈rC bs W ht ls most ht (((gap:Int)+(sp:Int)+1) / 2),x.d=0:=by
 obtain ⟨ss,h1,h2,h3⟩:=YP hR hI hT hl hn hf hW hmo hbs;have e:rC bs W ht ls most ht (((gap:Int)+(sp:Int)+1) / 2)=ss:=by
  unfold rC zE;rw[h1,aMg];exact List.map_id'' (fun s=>DA s) ss
 rw[e];exact ⟨h2,h3⟩
theorem P7 {ss : List Sn} (h : ∀ x ∈ ss, x.d = 0) : ∀ i, mJ ss i = 0 ∧ oT ss i = false
 |0=>⟨rfl,rfl⟩
 |i+1=>by
  obtain ⟨h1,h2⟩:=P7 h i;cases hg:ss[i]? with
  |none=>
   refine ⟨?_,?_⟩
   ·show mJ ss i+(match ss[i]? with|none=>0|some s=>if gU s=true then 0 else 1000*max s.d 0)=0;rw[hg,h1];rfl
   ·show (oT ss i||(match ss[i]? with|none=>false|some s => !gU s&&decide (s.d<0)))=false;rw[hg,h2];rfl
  |some s=>have h0:=h s (List.mem_of_getElem? hg);rw[rZ hg,zF hg,h1,h2,h0];refine ⟨?_,by simp⟩;split<;>simp
theorem YR {ht:Int} {ss:List Sn} {t:List UInt8} (hs:∀x∈ss,x.d=0) (ht1:gF ss=t) (aKF:LineSays ss) (hl:∀s∈ss,SnLine s):JH ht ss=(t,1000):=by
 obtain ⟨h1,h2⟩:=P7 hs ss.length;unfold JH;rw[h1,h2];by_cases hw:jO ss ss.length=0
 ·rw[if_pos hw];have:=NP aKF hl hw;subst this;rw[←ht1];rfl
 ·rw[if_neg hw,if_neg (by simp),ht1,Int.zero_ediv];rfl
end Go.Proofs.YtllefinciimffaaGreatDoor
