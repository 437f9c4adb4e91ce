import Derived.Test.YtllefinciimffaaGreatDoorMClaimTopForms32
set_option maxHeartbeats 20000000
namespace Go.Proofs.YtllefinciimffaaGreatDoor
open Go.RowKit Go.Shelf
theorem QB {f:Frm} (h:f.err=0):1≤f.dark∧f.dark≤1000:=by
 unfold Frm.err oD at h;have hh:=bA h (jZ (dA f.name) f.W f.H f.reach f.dark f.la.length) (by simp);unfold jZ at hh;have hr:=bA hh (aF (!inB f.reach 0 40||!inB f.dark 1 1000) 3) (by simp);have hi:inB f.dark 1 1000=true:=by
  cases hc:inB f.dark 1 1000 with
  |true=>rfl
  |false=>rw[hc] at hr;exact absurd hr (by simp[aF])
 exact aR.1 hi
structure FldOk (x:Fld) (W H:Nat):Prop where
 marks:MarksOk x.marks W H
 box:bL x.kind=false→BoxOk x W H
 m20:x.marks.length≤20
 kind:1≤x.kind∧x.kind≤4
 most:0≤x.most∧x.most≤1000
theorem wQ {f:Frm} {W H r:Nat} (hf:f.err=0) (cM:Fits f W H r) {x:Fld} (hx:x∈f.lf):FldOk x W H:=by
 obtain ⟨h1,h2,h3,h4⟩:=KJ hf cM hx;refine ⟨h1,h2,h3,h4,?_⟩;obtain ⟨-,-,-,hfl⟩:=JU hf;obtain ⟨pv,he⟩:=pS hfl x hx;unfold oR qP at he;have hr:=bA he (aF (!inB x.most 0 1000) 3) (by simp);have hi:inB x.most 0 1000=true:=by
  cases hc:inB x.most 0 1000 with
  |true=>rfl
  |false=>rw[hc] at hr;exact absurd hr (by simp[aF])
 exact aR.1 hi
theorem KS {f:Frm} {W H r:Nat} (h:Fits f W H r):aE (W:Int) (H:Int)=0:=by
 have h1:=h.hW;have h2:=h.hH;have h3:=h.hWH;have:=aL9 W H;unfold aE;rw[if_pos (by omega),if_neg (by omega)]
theorem D7 {f : Nat → Bool} (h0 : f 0 = true) : ∀ k, ∃ l, (aV f (k + 1)).1 = 0 :: l ∧ (∀ n ∈ l, 1 ≤ n) ∧ 1 ≤ (aV f (k + 1)).2
 |0=>by
  have hs:f 0≠tD f 0:=(by rw[h0];exact fun h=>by cases h);rw[tF hs];exact ⟨[],rfl,(fun n hn=>by cases hn),Nat.le_refl _⟩
 |k+1=>by
  obtain ⟨l,h1,h2,h3⟩:=D7 h0 k;by_cases hs:f (k+1)=tD f (k+1)
  ·rw[pN hs];exact ⟨l,h1,h2,by show 1≤(aV f (k+1)).2+1;omega⟩
  ·rw[tF hs];refine ⟨l++[(aV f (k+1)).2],by rw[h1];rfl,fun n hn => ?_,Nat.le_refl _⟩;rcases aLM.1 hn with hn|hn
   ·exact h2 n hn
   ·rw[aLQ.1 hn];exact h3
theorem QC {f:Nat→Bool} {k:Nat} {rs:List Nat} (h0:f 0=true) (hk:1≤k) (hp:∀n∈rs,1≤n) (h:(List.range k).map (fun x=>pA (f x))=aI 0 rs):iW f k=0 :: rs:=by
 obtain ⟨j,rfl⟩:∃j,k=j+1:=⟨k-1,by omega⟩;obtain ⟨l,h1,h2,h3⟩:=D7 h0 j;have e:iW f (j+1)=0 :: (l++[(aV f (j+1)).2]):=(by unfold iW;rw[h1];rfl);rw[←(tW f (j+1)).1,e] at h;have h4:aI 0 (l++[(aV f (j+1)).2])=aI 0 rs:=by
  rw[←h,←jR 0];rfl
 rw[e]
 congr 1
 refine qG (fun n hn => ?_) hp h4;rcases aLM.1 hn with hn|hn
 ·exact h2 n hn
 ·rw[aLQ.1 hn];exact h3
theorem YU {f : Nat → Bool} : ∀ {k : Nat}, (∀ x, x < k → f x = false) → aV f k = ([], k)
 |0,_=>rfl
 |k+1,h=>by
  have ih:=YU (k:=k) fun x hx=>h x (by omega);have hs:f k=tD f k:=by
   rw[h k (by omega)];cases k with
   |zero=>rfl
   |succ k=>exact (h k (by omega)).symm
  rw[pN hs,ih]
theorem YV {bs:List Bool} {W y:Nat} (h:∀x,x<W→pix bs W x y=false):iQ bs W y=[]:=by
 unfold iQ;have e:iW (fun x=>pix bs W x y) W=[W]:=(by unfold iW;rw[YU h];rfl);rw[e,←z6,z7 (by rw[pZ];exact Nat.le_refl _)]
theorem tZ {bs : List Bool} {W H : Nat} (h : ∀ x y, x < W → y < H → pix bs W x y = false) : ∀ j, j ≤ H → aO bs W 1 j = []
 |0,_=>rfl
 |j+1,hj=>by
  show aO bs W 1 j++iQ bs W (j*1)=[];rw[tZ h j (by omega),YV fun x hx=>h x (j*1) hx (by omega)];rfl
theorem KT {bs:List Bool} {W H:Nat} (hW:W≤4000) (hH:H≤4000) (h:∀x y,x<W→y<H→pix bs W x y=false):jP bs W H=[]:=by
 have h0:=tZ h H (Nat.le_refl _);have hl:=(KO (bs:=bs) hW hH);by_cases hv:dW (aO bs W 1 H)=0
 ·have hg:=tY (bs:=bs) hW hH;have hin:∀e∈cS (aO bs W 1 H),CdIn e:=fun e he=>(hg.1 e he).in_;rw[qA hin hv];refine List.eq_nil_of_length_eq_zero ?_;have:=hg.2;rw[h0] at this;rw[kL,h0];exact Nat.le_zero.1 this
 ·exact oL hv
theorem aBu {P c:Cd} (hk:c.k=P.k) (ht:c.t=P.t):UL [P] c=[v7 P c]:=by
 have hf:([P]:List Cd).findIdx? (eL c)=some 0:=by
  simp[List.findIdx?_cons,eL,hk,ht]
 rw[yS hf rfl];rfl
theorem NS (a:List Cd) (c:Cd):cS (a++[c])=UL (cS a) c:=by unfold cS;rw[List.foldl_append];rfl
theorem D8 {bs : List Bool} {W H : Nat} {k : Int} {t : List UInt8} (hr : ∀ y, y < H → ∃ X V, iQ bs W y = [⟨k, t, X, y, V, 1⟩]) : ∀ j, j + 1 ≤ H → ∃ c : Cd, cS (aO bs W 1 (j + 1)) = [c] ∧ c.k = k ∧ c.t = t ∧ c.n = ((j + 1 : Nat) : Int) ∧ (aO bs W 1 (j + 1)).length = j + 1
 |0,hj=>by
  obtain ⟨X,V,e⟩:=hr 0 (by omega);have e2:aO bs W 1 1=[⟨k,t,X,((0:Nat):Int),V,1⟩]:=by
   show []++iQ bs W (0*1)=_;rw[show 0*1=0 from rfl,e];rfl
  rw[e2];exact ⟨⟨k,t,X,((0:Nat):Int),V,1⟩,rfl,rfl,rfl,rfl,rfl⟩
 |j+1,hj=>by
  obtain ⟨c,h1,h2,h3,h4,h5⟩:=D8 hr j (by omega);obtain ⟨X,V,e⟩:=hr (j+1) (by omega);have e2:aO bs W 1 (j+1+1)=aO bs W 1 (j+1)++[⟨k,t,X,((j+1:Nat):Int),V,1⟩]:=by
   show aO bs W 1 (j+1)++iQ bs W ((j+1)*1)=_;rw[Nat.mul_one,e]
  rw[e2,NS,h1,aBu h2.symm h3.symm];refine ⟨_,rfl,h2,h3,?_,by rw[aLy,h5];rfl⟩;show c.n+1=_;rw[h4];omega
theorem TY {bs:List Bool} {W H:Nat} {k:Int} {t:List UInt8} (hW:W≤4000) (hH:1≤H∧H≤4000) (hr:∀y,y<H→∃X V,iQ bs W y=[⟨k,t,X,y,V,1⟩]):∃c:Cd,jP bs W H=[c]∧c.t=t∧c.n=(H:Int):=by
 obtain ⟨j,rfl⟩:∃j,H=j+1:=⟨H-1,by omega⟩;obtain ⟨c,h1,h2,h3,h4,h5⟩:=D8 hr j (Nat.le_refl _);have hv:dW (aO bs W 1 (j+1))=0:=(by rw[P5 hW hH.2,h5];omega);have hg:=tY (bs:=bs) hW hH.2;have hin:∀e∈cS (aO bs W 1 (j+1)),CdIn e:=fun e he=>(hg.1 e he).in_;rw[qA hin hv];have hsl:=kL _ hin;have hsm:=fun c hc=>sL (h:=hin) c hc;generalize iA (cS (aO bs W 1 (j+1))) hin=S at hsl hsm;rw[h1] at hsl hsm
 match S,hsl with
 |[d],_=>obtain rfl:d=c:=aLQ.1 (hsm d (aLQ.2 rfl));exact ⟨d,rfl,h3,h4⟩
theorem YW {cs:List Cd} {c:Cd} {H:Nat} {ink:Bool} (hc:cs=[c]) (hn:c.n=(H:Int)) (hH:1≤H):KQ H cs ink=(c.t,1000):=by
 subst hc;have e:fB [c] ([c]:List Cd).length=(c.t,c.n):=by
  show fB [c] (0+1)=_;rw[q9 (show ([c]:List Cd)[0]? = some c from rfl),if_pos (by show (0:Int)<c.n;omega)]
 unfold KQ;rw[e];show (c.t,if c.n=0∧ink=false then (1000:Int) else 1000*c.n / (H:Int))=_;rw[if_neg (by omega),hn,Int.mul_ediv_cancel _ (by omega)]
theorem QD {zs a rest:List Int} {y:Int} {k:Int} {t:List UInt8} (hz:zs=[0]++(a++rest)) (hr:rest.length≤1) (h1:gJ (a++rest)=some (k,t,a.length)) (ha:1≤a.length):∃X V,LA zs y=[⟨k,t,X,y,V,1⟩]:=by
 have hl:zs.length=a.length+rest.length+1:=(by rw[hz];simp);refine ⟨wZ zs 1,wZ zs (1+a.length)-wZ zs 1,?_⟩;rw[←z6,DP (by omega) (show gJ (zs.drop 1)=_ by rw[hz];exact h1),z7 (by omega)]
theorem D9 : ∀ m : List UInt8, KI 1 m = m
 |[]=>rfl
 |b :: m=>by
  show List.replicate 1 b++KI 1 m=b :: m;rw[D9 m];rfl
theorem vI {m:List UInt8} (hm:∀b∈m,b=48∨b=49) (y:Nat):(List.range m.length).map (fun x=>pA (oC m 1 0 x y))=m:=by
 have h:=aBs (m:=m) (u:=1) (q:=0) y (by omega) hm;rw[show 2*0+1*m.length=m.length by omega] at h;rw[h];show []++(KI 1 m++[])=m;rw[aMj,List.nil_append,D9]
theorem YX (rs:List Nat):xA 1 rs=rs:=by unfold xA;simp
theorem YY {m : List UInt8} {R : List Nat} {w y : Nat} {f : Nat → Bool} {k : Int} {t : List UInt8} (hR : aI 0 R = m) (hp : ∀ n ∈ R, 1 ≤ n) (aI7 : R.length % 2 = 1) (hw : m.length ≤ w) (hf : ∀ x, x < w → f x = (decide (x < m.length) && oC m 1 0 x y))
 (hc:∀rest,gJ (dP 1 R++rest)=some (k,t,R.length)):∃X V,LA (jM (iW f w)) (y:Int)=[⟨k,t,X,y,V,1⟩]:=by
 have GQ:∀b∈m,b=48∨b=49:=(by rw[←hR];exact AJ 0 R);have hne:1≤R.length:=(by omega);have hm1:1≤m.length:=by
  rw[←hR,nS];cases R with
  |nil=>simp at aI7
  |cons n R=>have:=hp n (List.mem_cons_self ..);rw[List.sum_cons];omega
 have xC:(List.range w).map (fun x=>pA (f x))=m++List.replicate (w-m.length) 48:=by
  obtain ⟨d,hd⟩:∃d,w=m.length+d:=⟨w-m.length,by omega⟩;subst hd;rw[lB,Nat.add_sub_cancel_left]
  congr 1
  ·rw[←vI GQ y];rw[vI GQ y];refine (List.map_congr_left fun x hx => ?_).trans (vI GQ y);have hx':=List.mem_range.1 hx;rw[hf x (by omega),aLX hx',Bool.true_and]
  ·refine oK d fun i hi => ?_;rw[hf _ (by omega),aLW (by omega)];rfl
 have h0:f 0=true:=by
  have h1:((List.range w).map (fun x=>pA (f x)))[0]? = (m++List.replicate (w-m.length) 48)[0]?:=(by rw[xC]);rw[aLG,aMd (by omega),aLE (by omega),←hR] at h1;have h2:(aI 0 R)[0]? = some 49:=by
   cases R with
   |nil=>simp at aI7
   |cons n R=>have:=hp n (List.mem_cons_self ..);obtain ⟨n',rfl⟩:∃n',n=n'+1:=⟨n-1,by omega⟩;show (List.replicate (n'+1) (bZ 0)++aI 1 R)[0]? = some 49;rw[List.replicate_succ];rfl
  rw[h2] at h1;have h3:pA (f 0)=49:=aLZ h1;cases hx:f 0 with
  |true=>rfl
  |false=>rw[hx] at h3;exact absurd h3 (by decide)
 have hzw:dP 1 R=jM R:=(by unfold dP;rw[YX]);by_cases hd:w=m.length
 ·have e:iW f w=0 :: R:=QC h0 (by omega) hp (by rw[xC,hR,hd,Nat.sub_self];simp);rw[e];refine QD (a:=dP 1 R) (rest:=[]) ?_ (by simp) ?_ (by rw[fP];exact hne)
  ·rw[hzw,aMj];rfl
  ·rw[fP];exact hc []
 ·have e:iW f w=0 :: (R++[w-m.length]):=by
   refine QC h0 (by omega) (fun n hn => ?_) ?_
   ·rcases aLM.1 hn with hn|hn
    ·exact hp n hn
    ·rw[aLQ.1 hn];omega
   ·rw[xC,bF,hR]
    congr 1
    show List.replicate (w-m.length) 48=List.replicate (w-m.length) (bZ (0+R.length))++[];rw[aMj,Nat.zero_add,show bZ R.length=48 by unfold bZ;rw[if_neg (by omega)]]
  rw[e];refine QD (a:=dP 1 R) (rest:=jM [w-m.length]) ?_ (by rw[pZ];simp) ?_ (by rw[fP];exact hne)
  ·rw[hzw,←KB];rfl
  ·rw[fP];exact hc _
theorem YZ {t:List UInt8} (he:iK t=0) {w y:Nat} {f:Nat→Bool} (hw:(lV t).length≤w) (hf:∀x,x<w→f x=(decide (x<(lV t).length)&&oC (lV t) 1 0 x y)):∃X V,LA (jM (iW f w)) (y:Int)=[⟨if uR t 13=true then 1 else 2,t,X,y,V,1⟩]:=by
 unfold iK at he;unfold lV at hw hf;by_cases hd:uR t 13=true
 ·rw[if_pos hd] at he ⊢;rw[if_pos hd] at hw hf;obtain ⟨hok,-⟩:=YL he;obtain ⟨e1,e2,e3,e4⟩:=PS (mB hok.2.1);refine YY e1 (fun n hn=>(e3 n hn).1) (by rw[e2]) hw hf fun rest => ?_;rw[e2];exact tU (aDw hok (by omega) (by omega) rest).1
 ·rw[if_neg hd] at he ⊢;rw[if_neg hd] at hw hf;obtain ⟨hks,aFF,-⟩:=TS he;have hg:=PU hks.lt;have hl:=p6 (bs:=bsF (ksL t)) (by rw[hks.1];simp[bsF]) fun b hb=>(hg b hb).1;have hl2:(bsF (ksL t)).length=(ksL t).length:=aLz ..;have hq:=hks.len;refine YY (m:=mO t) (R:=cK (bsF (ksL t))) (aGF hks.lt) (fun n hn=>by rcases tX hg n hn with rfl|rfl<;>omega) (by omega) hw hf fun rest => ?_;rw[show (cK (bsF (ksL t))).length=10*(ksL t).length-1 by omega];exact aEM hks aFF (by omega) (by omega)
end Go.Proofs.YtllefinciimffaaGreatDoor
