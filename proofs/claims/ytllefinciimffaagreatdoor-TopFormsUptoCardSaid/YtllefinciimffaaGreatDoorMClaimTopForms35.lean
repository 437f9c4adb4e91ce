import Derived.Test.YtllefinciimffaaGreatDoorMClaimTopForms34
import Derived.Test.YtllefinciimffaaGreatDoorMClaimTopForms33
set_option maxHeartbeats 20000000
set_option maxRecDepth 100000
namespace Go.Proofs.YtllefinciimffaaGreatDoor
open Go.RowKit Go.Shelf
theorem TZ {a b:Bx} {u v:Nat} (h1:pU a u v=true) (h2:pU b u v=true):a.over b=true:=by
 unfold pU at h1 h2;rw[decide_eq_true_eq] at h1 h2;unfold Bx.over;rw[aLV,aLV,aLV,decide_eq_true_eq,decide_eq_true_eq,decide_eq_true_eq,decide_eq_true_eq];omega
def Apart2 (a b:Bx):Prop:=∀u v:Nat,¬(pU a u v=true∧pU b u v=true)
theorem Apart2.symm {a b:Bx} (h:Apart2 a b):Apart2 b a:=fun u v hh=>h u v ⟨hh.2,hh.1⟩
theorem GF {a b:Bx} (h:a.over b=false):Apart2 a b:=fun u v hh=>by rw[TZ hh.1 hh.2] at h;cases h
theorem QE : ∀ {l prev : List Bx}, pQ prev l = false → l.Pairwise Apart2 ∧ ∀ p ∈ prev, ∀ q ∈ l, Apart2 p q
 |[],_,_=>⟨List.Pairwise.nil,fun _ _ q hq=>by cases hq⟩
 |b :: l,prev,h=>by
  have h':((prev.any fun p=>b.over p)||pQ (prev++[b]) l)=false:=h;rw[Bool.or_eq_false_iff] at h';obtain ⟨h1,h2⟩:=h';obtain ⟨h3,h4⟩:=QE h2;have hb:∀p∈prev,Apart2 p b:=fun p hp=>(GF (by
   have:=List.any_eq_false.1 h1 p hp;cases hx:b.over p
   ·rfl
   ·exact absurd hx this)).symm
  refine ⟨List.Pairwise.cons (fun q hq=>h4 b (List.mem_append_right _ (aLQ.2 rfl)) q hq) h3,fun p hp q hq => ?_⟩;rcases aLN.1 hq with rfl|hq
  ·exact hb p hp
  ·exact h4 p (List.mem_append_left _ hp) q hq
theorem Y3 {α : Type} {R : α → α → Prop} : ∀ {l : List α}, l.Pairwise R → ∀ a ∈ l, ∀ b ∈ l, a = b ∨ R a b ∨ R b a
 |[],_,a,ha,_,_=>by cases ha
 |x :: l,h,a,ha,b,hb=>by
  cases h with
  |cons h1 h2=>
   rcases aLN.1 ha with ea|ha2
   ·rcases aLN.1 hb with eb|hb2
    ·exact .inl (ea.trans eb.symm)
    ·exact .inr (.inl (by rw[ea];exact h1 b hb2))
   ·rcases aLN.1 hb with eb|hb2
    ·exact .inr (.inr (by rw[eb];exact h1 a ha2))
    ·exact Y3 h2 a ha2 b hb2
theorem aEN {α : Type} {R : α → α → Prop} (hs : ∀ a b, R a b → R b a) : ∀ {l : List α}, l.Pairwise R → ∀ {i j : Nat} {a b : α}, l[i]? = some a → l[j]? = some b → i ≠ j → R a b
 |[],_,i,_,_,_,h,_,_=>by simp at h
 |x :: l,h,i,j,a,b,hi,hj,hne=>by
  cases h with
  |cons h1 h2=>
   cases i with
   |zero=>
    cases j with
    |zero=>exact absurd rfl hne
    |succ j=>obtain rfl:x=a:=(by simpa using hi);exact h1 b (List.mem_of_getElem? (by simpa using hj))
   |succ i=>
    cases j with
    |zero=>obtain rfl:x=b:=(by simpa using hj);exact hs _ _ (h1 a (List.mem_of_getElem? (by simpa using hi)))
    |succ j=>exact aEN hs h2 (i:=i) (j:=j) (by simpa using hi) (by simpa using hj) (by omega)
theorem QF {W H : Int} : ∀ {l : List Fld} {prev : List (List UInt8)}, fN W H prev l = 0 → l.Pairwise (fun x y => x.name ≠ y.name) ∧ ∀ p ∈ prev, ∀ x ∈ l, p ≠ x.name
 |[],_,_=>⟨List.Pairwise.nil,fun _ _ q hq=>by cases hq⟩
 |f :: l,prev,h=>by
  have h':(if oR W H prev f=0 then fN W H (prev++[f.name]) l else oR W H prev f)=0:=h;by_cases h0:oR W H prev f=0
  ·rw[if_pos h0] at h';obtain ⟨h1,h2⟩:=QF h';unfold oR at h0;obtain ⟨-,-,htw,-⟩:=FI h0;have hn:=of_decide_eq_false htw;refine ⟨List.Pairwise.cons (fun q hq=>h2 f.name (List.mem_append_right _ (aLQ.2 rfl)) q hq) h1,fun p hp x hx => ?_⟩;rcases aLN.1 hx with rfl|hx
   ·intro e;exact hn (by rw[←e];exact hp)
   ·exact h2 p (List.mem_append_left _ hp) x hx
  ·rw[if_neg h0] at h';exact absurd h' h0
structure Laid (f:Frm):Prop where
 anc:∀a∈f.la,∀x∈f.lf,∀b∈cG x,Apart2 a.box b
 own:∀x∈f.lf,(cG x).Pairwise Apart2
 two:∀x∈f.lf,∀y∈f.lf,x.name≠y.name→∀b∈cG x,∀c∈cG y,Apart2 b c
 one:∀x∈f.lf,∀y∈f.lf,x.name=y.name→x=y
theorem NT {f:Frm} (hf:f.err=0):Laid f:=by
 have hfl:=(JU hf).2.2.2;have hnm:=(QF hfl).1;unfold Frm.err oD at hf;have ho:=iB (by decide) (bA hf (aF (pQ [] (oS f.la f.lf)) 11) (by simp));obtain ⟨hp,-⟩:=QE ho;unfold oS at hp;rw[List.pairwise_append] at hp;obtain ⟨-,h2,h3⟩:=hp;rw[List.pairwise_flatMap] at h2;obtain ⟨h4,h5⟩:=h2;refine ⟨fun a ha x hx b hb=>h3 a.box (List.mem_map_of_mem ha) b (List.mem_flatMap.2 ⟨x,hx,hb⟩),h4,fun x hx y hy hne b hb c hc => ?_,fun x hx y hy he => ?_⟩
 ·rcases Y3 h5 x hx y hy with rfl|h|h
  ·exact absurd rfl hne
  ·exact h b hb c hc
  ·exact (h c hc b hb).symm
 ·rcases Y3 hnm x hx y hy with h|h|h
  ·exact h
  ·exact absurd he h
  ·exact absurd he.symm h
theorem xQ {b:Bx} {X Y w h p q:Nat} (hb:b=⟨X,Y,w,h⟩) (hp:p<w) (hq:q<h):pU b (X+p) (Y+q)=true:=by
 subst hb;unfold pU;rw[decide_eq_true_eq];simp only;omega
def dQ (l:List Vlu) (nm:List UInt8):Option Vlu:=l.find? fun v=>decide (v.field=nm)
theorem sM {l:List Vlu} {nm:List UInt8} (h:nm∉l.map Vlu.field):dQ l nm=none:=by
 unfold dQ;rw[List.find?_eq_none];intro v hv hc;exact h (by rw[←aLY hc];exact List.mem_map_of_mem hv)
theorem rP {l:List Vlu} {v:Vlu} {nm:List UInt8} (h:v.field≠nm):dQ (l++[v]) nm=dQ l nm:=by
 unfold dQ;rw[List.find?_append];simp[h]
theorem rQ {l:List Vlu} {v:Vlu} (h:v.field∉l.map Vlu.field):dQ (l++[v]) v.field=some v:=by
 have h0:=sM h;unfold dQ at h0 ⊢;rw[List.find?_append,h0];simp
theorem T2 {l:List Vlu} {nm:List UInt8} {v:Vlu} (h:dQ l nm=some v):v∈l∧v.field=nm:=by
 unfold dQ at h;have h2:=List.find?_some h;exact ⟨List.mem_of_find?_eq_some h,by simpa using h2⟩
section
variable (ls:List Ltr) (ht gap sp:Nat)
def KU (x:Fld) (o:Option Vlu) (p q:Nat):Bool:=match o with
 |none=>false
 |some v=>if v.text=[] then false else decide (p<fF ls gap sp x v.text)&&(decide (q<gQ ht x)&&pix (oX ls ht gap sp x v.text) (fF ls gap sp x v.text) p q)
def Y4 (o:Option Vlu) (n:Nat):Bool:=match o with
 |none=>false
 |some v=>decide ((n:Int)∈v.marks)
structure FillInv (W H:Nat) (lf:List Fld) (dn:List Vlu) (pg:List Bool):Prop where
 len:pg.length=W*H
 box:∀x∈lf,bL x.kind=false→∀X Y w h:Nat,x.box=⟨X,Y,w,h⟩→∀p q,p<w→q<h→pix pg W (X+p) (Y+q)=KU ls ht gap sp x (dQ dn x.name) p q
 mark:∀x∈lf,bL x.kind=true→∀(n:Nat) (b:Bx),x.marks[n]? = some b→∀X Y w h:Nat,b=⟨X,Y,w,h⟩→∀p q,p<w→q<h→pix pg W (X+p) (Y+q)=Y4 (dQ dn x.name) n
end
theorem aBv {pg cs:List Bool} {W H cw ch u v:Nat} {X Y:Int} (h:fZ pg cs W H cw ch X Y u v=true):pix pg W u v=true∨(X≤(u:Int)∧(u:Int)<X+(cw:Int)∧Y≤(v:Int)∧(v:Int)<Y+(ch:Int)):=by
 unfold fZ at h;rw[Bool.or_eq_true,aLV] at h;rcases h with h|⟨-,h⟩
 ·exact .inl h
 ·refine .inr ?_;apply Classical.byContradiction;intro hn;rw[uG _ _ _ _ _ (by omega)] at h;cases h
theorem GG {W H : Nat} {la : List Anc} (hl : ∀ a ∈ la, ∃ BW BH : Nat, a.W = (BW : Int) ∧ a.H = (BH : Int)) {u v : Nat} (hu : u < W) (hv : v < H) : ∀ i, pix (cO W H la i) W u v = true → ∃ a ∈ la, pU a.box u v = true
 |0,h=>by
  have:pix (List.replicate (W*H) false) W u v=true:=h;unfold pix at this;rw[aLx,List.getElem?_replicate] at this;split at this<;>cases this
 |i+1,h=>by
  cases hg:la[i]? with
  |none=>refine GG hl hu hv i ?_;have h':pix (match la[i]? with|none=>cO W H la i|some a=>eS W H (fZ (cO W H la i) a.bs W H a.W.toNat a.H.toNat a.X a.Y)) W u v=true:=h;rw[hg] at h';exact h'
  |some a=>
   have ha:=List.mem_of_getElem? hg;obtain ⟨BW,BH,e1,e2⟩:=hl a ha;rw[wG hg e1 e2,iS W H _ u v hu hv] at h;rcases aBv h with h|h
   ·exact GG hl hu hv i h
   ·refine ⟨a,ha,?_⟩;unfold pU Anc.box;rw[decide_eq_true_eq,e1,e2];exact h
theorem KV (W H : Nat) (la : List Anc) : ∀ i, (cO W H la i).length = W * H
 |0=>by show (List.replicate (W*H) false).length=_;simp
 |i+1=>by
  show (match la[i]? with|none=>cO W H la i|some a=>eS W H (fZ (cO W H la i) a.bs W H a.W.toNat a.H.toNat a.X a.Y)).length=_;split
  ·exact KV W H la i
  ·exact fI _ _ _
theorem Y5 {f:Frm} {W H r:Nat} {ls:List Ltr} {ht gap sp:Nat} (hf:f.err=0) (cM:Fits f W H r):FillInv ls ht gap sp W H f.lf [] (cO W H f.la f.la.length):=by
 have hL:=NT hf;have hl:∀a∈f.la,∃BW BH:Nat,a.W=(BW:Int)∧a.H=(BH:Int):=fun a ha=>by
  obtain ⟨BW,BH,e1,e2,-⟩:=cM.at_ ha;exact ⟨BW,BH,e1,e2⟩
 have key:∀x∈f.lf,∀b∈cG x,∀X Y w h:Nat,b=⟨X,Y,w,h⟩→X+w≤W→Y+h≤H→∀p q,p<w→q<h→pix (cO W H f.la f.la.length) W (X+p) (Y+q)=false:=fun x hx b hb X Y w h hbe hX hY p q hp hq=>by
  cases hc:pix (cO W H f.la f.la.length) W (X+p) (Y+q) with
  |false=>rfl
  |true=>obtain ⟨a,ha,hin⟩:=GG hl (by omega) (by omega) _ hc;exact absurd ⟨hin,xQ hbe hp hq⟩ (hL.anc a ha x hx b hb _ _)
 refine ⟨KV _ _ _ _,fun x hx hm X Y w h hb p q hp hq => ?_,fun x hx hm n b hn X Y w h hb p q hp hq => ?_⟩
 ·obtain ⟨X',Y',w',h',e,-,-,h3,h4⟩:=((wQ hf cM hx).box hm).inW;rw[hb] at e;injection e with e1 e2 e3 e4;refine (key x hx x.box ?_ X Y w h hb (by omega) (by omega) p q hp hq).trans rfl;unfold cG;rw[hm];exact List.mem_append_left _ (aLQ.2 rfl)
 ·obtain ⟨X',Y',w',h',e,-,-,h3,h4⟩:=(wQ hf cM hx).marks b (List.mem_of_getElem? hn);rw[hb] at e;injection e with e1 e2 e3 e4;refine (key x hx b ?_ X Y w h hb (by omega) (by omega) p q hp hq).trans rfl;unfold cG;exact List.mem_append_right _ (List.mem_of_getElem? hn)
def jK (x:Fld) (l:List Int) (u v:Nat):Bool:=l.any fun n=>match x.marks[n.toNat]? with|none=>false|some b=>pU b u v
theorem AK {W H : Nat} {x : Fld} {l : List Int} {pg : List Bool} {u v : Nat} (hu : u < W) (hv : v < H) : ∀ i, pix (dB W H x l pg i) W u v = (pix pg W u v || jK x (l.take i) u v)
 |0=>by show pix pg W u v=_;rw[List.take_zero];simp[jK]
 |i+1=>by
  have ih:=AK (x:=x) (l:=l) (pg:=pg) hu hv i;cases hg:l[i]? with
  |none=>
   have e1:dB W H x l pg (i+1)=dB W H x l pg i:=by
    show (match l[i]? with|none=>dB W H x l pg i|some n=>match x.marks[n.toNat]? with|none=>dB W H x l pg i|some b=>BL W H (dB W H x l pg i) b)=_;rw[hg]
   have e2:l.take (i+1)=l.take i:=(by rw[aMc,hg];simp);rw[e1,e2,ih]
  |some n=>
   have e2:l.take (i+1)=l.take i++[n]:=eI hg;have e1:dB W H x l pg (i+1)=match x.marks[n.toNat]? with|none=>dB W H x l pg i|some b=>BL W H (dB W H x l pg i) b:=by
    show (match l[i]? with|none=>dB W H x l pg i|some n=>match x.marks[n.toNat]? with|none=>dB W H x l pg i|some b=>BL W H (dB W H x l pg i) b)=_;rw[hg]
   rw[e1,e2];unfold jK;rw[List.any_append];cases hb:x.marks[n.toNat]? with
   |none=>simp only[List.any_cons,hb,List.any_nil,Bool.or_false];rw[ih];rfl
   |some b=>simp only[List.any_cons,hb,List.any_nil,Bool.or_false];unfold BL;rw[iS W H _ u v hu hv];unfold aA2;rw[ih,Bool.or_assoc];rfl
theorem EA {x:Fld} {l:List Int} {u v:Nat} (h:jK x l u v=true):∃n∈l,∃b,x.marks[n.toNat]? = some b∧pU b u v=true:=by
 unfold jK at h;obtain ⟨n,hn,h2⟩:=aLP.1 h;cases hb:x.marks[n.toNat]? with
 |none=>rw[hb] at h2;cases h2
 |some b=>rw[hb] at h2;exact ⟨n,hn,b,hb,h2⟩
theorem AM {ls:List Ltr} {ht gap sp:Nat} {x:Fld} {t:List UInt8} {X Y w h:Nat} (he:iP ls ht gap sp x t=0) (hb:x.box=⟨X,Y,w,h⟩):fF ls gap sp x t≤w∧gQ ht x≤h:=by
 unfold iP at he;unfold fF gQ;rw[hb] at he ⊢;simp only at he ⊢;by_cases hk:x.kind=1
 ·rw[if_pos hk] at he;rw[if_pos hk,if_pos hk];by_cases hs:jN ls ht gap sp t=0
  ·rw[if_pos hs] at he;have h1:=iB (by decide) he;rw[Bool.or_eq_false_iff] at h1;have h2:=of_decide_eq_false h1.1;have h3:=of_decide_eq_false h1.2;omega
  ·rw[if_neg hs] at he;exact absurd he hs
 ·rw[if_neg hk] at he;rw[if_neg hk,if_neg hk];by_cases hc:iK t=0
  ·rw[if_pos hc] at he;have h1:=of_decide_eq_false (iB (by decide) he);refine ⟨by omega,?_⟩;show ((h:Nat):Int).toNat≤h;omega
  ·rw[if_neg hc] at he;exact absurd he hc
theorem AN {x:Fld} {v:Vlu} (h:eU x v=false) (hm:bL x.kind=false):v.marks=[]:=by
 unfold eU rM at h;simp only[Bool.or_eq_false_iff] at h;have h1:=h.2.2.1;rw[hm] at h1;have h2:decide (0<v.marks.length)=false:=h1;exact List.eq_nil_of_length_eq_zero (by have:=of_decide_eq_false h2;omega)
def kQ (ls:List Ltr) (ht gap sp W H:Nat) (x:Fld) (t:List UInt8) (u v:Nat):Bool:=if t=[] then false else (!gD W H (fF ls gap sp x t) (gQ ht x) x.box.X x.box.Y&&atI (oX ls ht gap sp x t) (fF ls gap sp x t) (gQ ht x) ((u:Int)-x.box.X) ((v:Int)-x.box.Y))
theorem T3 {ls:List Ltr} {ht gap sp W H:Nat} {fs:List Fld} {tw:Bool} {v:Vlu} {pg:List Bool} (hpg:pg.length=W*H) (hE:(lA ls ht gap sp W H fs tw v pg).1=0) :
 ∃ x, lT fs v.field = some x ∧ cP fs tw v = 0 ∧ (v.text ≠ [] → iP ls ht gap sp x v.text = 0) ∧ (lA ls ht gap sp W H fs tw v pg).2.length = W * H ∧
  ∀u u2,u<W→u2<H→pix (lA ls ht gap sp W H fs tw v pg).2 W u u2=(pix pg W u u2||jK x v.marks u u2||kQ ls ht gap sp W H x v.text u u2):=by
 have hz:cP fs tw v=0:=by
  apply Classical.byContradiction;intro h;rw[KK h] at hE;exact h hE
 obtain ⟨x,hx,-⟩:=mQ hz;have hmp:∀u u2,u<W→u2<H→pix (dB W H x v.marks pg v.marks.length) W u u2=(pix pg W u u2||jK x v.marks u u2):=fun u u2 hu hv=>by
  rw[AK hu hv,aLC]
 refine ⟨x,hx,hz,?_⟩;by_cases ht0:v.text=[]
 ·rw[D3 hz hx ht0];refine ⟨fun h=>absurd ht0 h,sC hpg _,fun u u2 hu hv => ?_⟩;rw[hmp u u2 hu hv];unfold kQ;rw[if_pos ht0,Bool.or_false]
 ·have h2:=D4 (ls:=ls) (ht:=ht) (gap:=gap) (sp:=sp) (W:=W) (H:=H) (pg:=pg) hz hx ht0;by_cases hd:iP ls ht gap sp x v.text=0
  ·rw[if_pos hd] at h2;rw[h2];refine ⟨fun _=>hd,fI _ _ _,fun u u2 hu hv => ?_⟩;rw[iS W H _ u u2 hu hv];unfold fZ kQ;rw[hmp u u2 hu hv,if_neg ht0]
  ·rw[if_neg hd] at h2;rw[h2] at hE;exact absurd hE hd
theorem KW {fs:List Fld} {nm:List UInt8} {x:Fld} (h:lT fs nm=some x):x∈fs∧x.name=nm:=by
 unfold lT at h;have h2:=List.find?_some h;unfold lJ at h2;exact ⟨List.mem_of_find?_eq_some h,by simpa using h2⟩
theorem Y6 {x:Fld} (hm:bL x.kind=false):x.box∈cG x:=by
 unfold cG;rw[hm];exact List.mem_append_left _ (aLQ.2 rfl)
theorem QG {x:Fld} {b:Bx} (h:b∈x.marks):b∈cG x:=by
 unfold cG;exact List.mem_append_right _ h
theorem T4 {ls:List Ltr} {ht gap sp W H:Nat} {x:Fld} {t:List UInt8} {u v X Y w h:Nat} (hb:x.box=⟨X,Y,w,h⟩) (he:t≠[]→iP ls ht gap sp x t=0) (hh:kQ ls ht gap sp W H x t u v=true):pU x.box u v=true:=by
 unfold kQ at hh;by_cases ht0:t=[]
 ·rw[if_pos ht0] at hh;cases hh
 ·rw[if_neg ht0,aLV] at hh;obtain ⟨h1,h2⟩:=AM (he ht0) hb;unfold pU;rw[decide_eq_true_eq];apply Classical.byContradiction;intro hn;rw[uG _ _ _ _ _ (by rw[hb] at hn ⊢;simp only at hn ⊢;omega)] at hh;cases hh.2
theorem aBw {f:Frm} {W H r:Nat} {ls:List Ltr} {ht gap sp:Nat} (hf:f.err=0) (cM:Fits f W H r) {dn:List Vlu} {v:Vlu} {pg:List Bool} (hI:FillInv ls ht gap sp W H f.lf dn pg) (hE:(lA ls ht gap sp W H f.lf (decide (v.field∈dn.map Vlu.field)) v pg).1=0) :
 FillInv ls ht gap sp W H f.lf (dn++[v]) (lA ls ht gap sp W H f.lf (decide (v.field∈dn.map Vlu.field)) v pg).2∧∃x,lT f.lf v.field=some x∧cP f.lf (decide (v.field∈dn.map Vlu.field)) v=0∧(v.text≠[]→iP ls ht gap sp x v.text=0):=by
 have hL:=NT hf;obtain ⟨x,hx,hz,hd,cL,aHI⟩:=T3 hI.len hE;refine ⟨?_,x,hx,hz,hd⟩;obtain ⟨x',hx',hw,hr,htw⟩:=mQ hz;obtain rfl:x=x':=aLZ (hx.symm.trans hx');have hnd:v.field∉dn.map Vlu.field:=of_decide_eq_false htw;obtain ⟨hxm,hxn⟩:=KW hx;generalize (lA ls ht gap sp W H f.lf (decide (v.field∈dn.map Vlu.field)) v pg).2=pg' at cL aHI ⊢;have aHJ:bL x.kind=false→∃X Y w h:Nat,x.box=⟨X,Y,w,h⟩:=fun hm=>by
  obtain ⟨X,Y,w,h,e,-⟩:=((wQ hf cM hxm).box hm).inW;exact ⟨X,Y,w,h,e⟩
 have aHK:∀u u2,kQ ls ht gap sp W H x v.text u u2=true→bL x.kind=false∧pU x.box u u2=true:=fun u u2 hh=>by
  have ht0:v.text≠[]:=by
   intro e;unfold kQ at hh;rw[if_pos e] at hh;cases hh
  have hm:=vH hw ht0;obtain ⟨X,Y,w,h,e⟩:=aHJ hm;exact ⟨hm,T4 e hd hh⟩
 have hno:∀y∈f.lf,y.name≠v.field→∀b∈cG y,∀u u2,pU b u u2=true→jK x v.marks u u2=false∧kQ ls ht gap sp W H x v.text u u2=false:=fun y hy hne b hb u u2 hin=>by
  have aFO:x.name≠y.name:=(by rw[hxn];exact fun e=>hne e.symm);constructor
  ·cases hc:jK x v.marks u u2 with
   |false=>rfl
   |true=>obtain ⟨n,-,b',hb',aFG⟩:=EA hc;exact absurd ⟨aFG,hin⟩ (hL.two x hxm y hy aFO b' (QG (List.mem_of_getElem? hb')) b hb u u2)
  ·cases hc:kQ ls ht gap sp W H x v.text u u2 with
   |false=>rfl
   |true=>obtain ⟨hm,aFG⟩:=aHK u u2 hc;exact absurd ⟨aFG,hin⟩ (hL.two x hxm y hy aFO x.box (Y6 hm) b hb u u2)
 refine ⟨cL,fun y hy hm X Y w h hb p q hp hq => ?_,fun y hy hm n b hn X Y w h hb p q hp hq => ?_⟩
 ·obtain ⟨X',Y',w',h',e,-,-,h3,h4⟩:=((wQ hf cM hy).box hm).inW;have e0:=e;rw[hb] at e;injection e with e1 e2 e3 e4;have hu:X+p<W:=(by omega);have hv:Y+q<H:=(by omega);rw[aHI _ _ hu hv,hI.box y hy hm X Y w h hb p q hp hq];by_cases hyn:y.name=v.field
  ·obtain rfl:y=x:=hL.one y hy x hxm (hyn.trans hxn.symm);rw[hyn,sM hnd,rQ hnd,AN hw hm];show (false||jK y [] _ _||kQ ls ht gap sp W H y v.text _ _)=KU ls ht gap sp y (some v) p q;unfold KU kQ jK;simp only[List.any_nil,Bool.or_false,Bool.false_or];by_cases ht0:v.text=[]
   ·rw[if_pos ht0,if_pos ht0]
   ·rw[if_neg ht0,if_neg ht0,hb];simp only;rw[show ((X+p:Nat):Int)-(X:Int)=(p:Int) by omega,show ((Y+q:Nat):Int)-(Y:Int)=(q:Int) by omega];by_cases hin:p<fF ls gap sp y v.text∧q<gQ ht y
    ·rw[CC _ _ _ _ _ hin.1 hin.2,aLX hin.1,aLX hin.2];have ha:gD W H (fF ls gap sp y v.text) (gQ ht y) X Y=false:=by
      unfold gD;simp;omega
     rw[ha];rfl
    ·rw[uG _ _ _ _ _ (by omega),Bool.and_false];by_cases hp2:p<fF ls gap sp y v.text
     ·rw[aLW (show ¬q<gQ ht y from fun h=>hin ⟨hp2,h⟩)];simp
     ·rw[aLW hp2];rfl
  ·obtain ⟨n1,n2⟩:=hno y hy hyn y.box (Y6 hm) _ _ (xQ hb hp hq);rw[n1,n2,rP (fun e=>hyn e.symm),Bool.or_false,Bool.or_false]
 ·obtain ⟨X',Y',w',h',e,-,-,h3,h4⟩:=(wQ hf cM hy).marks b (List.mem_of_getElem? hn);have e0:=e;rw[hb] at e;injection e with e1 e2 e3 e4;have hu:X+p<W:=(by omega);have hv:Y+q<H:=(by omega);rw[aHI _ _ hu hv,hI.mark y hy hm n b hn X Y w h hb p q hp hq];by_cases hyn:y.name=v.field
  ·obtain rfl:y=x:=hL.one y hy x hxm (hyn.trans hxn.symm);have ht0:v.text=[]:=by
    apply Classical.byContradiction;intro h;rw[vH hw h] at hm;cases hm
   have hin:=xQ hb hp hq;rw[hyn,sM hnd,rQ hnd];unfold kQ;rw[if_pos ht0,Bool.or_false];show (false||jK y v.marks _ _)=decide ((n:Int)∈v.marks);rw[Bool.false_or];by_cases aD0:(n:Int)∈v.marks
   ·rw[aLX aD0];unfold jK;refine aLP.2 ⟨(n:Int),aD0,?_⟩;rw[aL8,hn];exact hin
   ·rw[aLW aD0];cases hc:jK y v.marks (X+p) (Y+q) with
    |false=>rfl
    |true=>
     exfalso;obtain ⟨n',hn',b',hb',aFG⟩:=EA hc;have hr':=hr n' hn';by_cases hnn:n'.toNat=n
     ·exact aD0 (by rw[show (n:Int)=n' by omega];exact hn')
     ·have cA:=hL.own y hxm;unfold cG at cA;rw[hm] at cA;have UG:y.marks.Pairwise Apart2:=(by simpa using cA);exact aEN (fun a b h=>h.symm) UG hb' hn hnn _ _ ⟨aFG,hin⟩
  ·obtain ⟨n1,n2⟩:=hno y hy hyn b (QG (List.mem_of_getElem? hn)) _ _ (xQ hb hp hq);rw[n1,n2,rP (fun e=>hyn e.symm),Bool.or_false,Bool.or_false]
theorem Y7 {f : Frm} {W H r : Nat} {ls : List Ltr} {ht gap sp : Nat} (hf : f.err = 0) (cM : Fits f W H r) : ∀ {l : List Vlu} {dn : List Vlu} {pg : List Bool}, FillInv ls ht gap sp W H f.lf dn pg → (sH ls ht gap sp W H f.lf (dn.map Vlu.field) l pg).1 = 0 →
 FillInv ls ht gap sp W H f.lf (dn++l) (sH ls ht gap sp W H f.lf (dn.map Vlu.field) l pg).2∧∀v∈l,∃x tw,lT f.lf v.field=some x∧cP f.lf tw v=0∧(v.text≠[]→iP ls ht gap sp x v.text=0)
 |[],dn,pg,hI,_=>by
  rw[aMj];exact ⟨hI,fun v hv=>by cases hv⟩
 |v :: l,dn,pg,hI,hE=>by
  have hu:sH ls ht gap sp W H f.lf (dn.map Vlu.field) (v :: l) pg=if (lA ls ht gap sp W H f.lf (decide (v.field∈dn.map Vlu.field)) v pg).1=0 then sH ls ht gap sp W H f.lf (dn.map Vlu.field++[v.field]) l (lA ls ht gap sp W H f.lf (decide (v.field∈dn.map Vlu.field)) v pg).2 else ((lA ls ht gap sp W H f.lf (decide (v.field∈dn.map Vlu.field)) v pg).1,[]):=rfl;rw[hu] at hE ⊢;by_cases h0:(lA ls ht gap sp W H f.lf (decide (v.field∈dn.map Vlu.field)) v pg).1=0
  ·rw[if_pos h0] at hE ⊢;obtain ⟨hI2,x,hx,hz,hd⟩:=aBw hf cM hI h0;have em:dn.map Vlu.field++[v.field]=(dn++[v]).map Vlu.field:=(by rw[aLS];rfl);rw[em] at hE ⊢;obtain ⟨h1,h2⟩:=Y7 hf cM hI2 hE;rw[aLL] at h1;refine ⟨h1,fun v' hv' => ?_⟩;rcases aLN.1 hv' with rfl|hv'
   ·exact ⟨x,_,hx,hz,hd⟩
   ·exact h2 v' hv'
  ·rw[if_neg h0] at hE;exact absurd hE h0
theorem T5 {t:List UInt8} (h:o0 t=true):t.length≤4:=by
 unfold o0 at h;simp only[aLV,decide_eq_true_eq] at h;omega
def oY (cs:List Bool) (W X Y BW ht:Nat) (ls:List Ltr) (most gs:Int):List Sn:=rC (eS BW ht (kR cs W X Y)) BW ht ls most ht gs
structure FieldSeen (ht:Nat) (SS:List Sn):Prop where
 line:∀s∈SS,SnLine s
 len:SS.length≤8000
 says:LineSays SS
theorem AO {nm:List UInt8} {ht gap sp:Nat} {ls:List Ltr} (hfe:bN (dA nm) ht gap sp ls=0) {cs:List Bool} {W X Y BW:Nat} {most:Int} (hBW:BW≤4000) :
 FieldSeen ht (oY cs W X Y BW ht ls most (((gap : Int) + (sp : Int) + 1) / 2)) ∧ (zE (eS BW ht (kR cs W X Y)) BW ht ls most ht (((gap : Int) + (sp : Int) + 1) / 2)).flatten = n8 (oY cs W X Y BW ht ls most (((gap : Int) + (sp : Int) + 1) / 2)) ∧
  (zE (eS BW ht (kR cs W X Y)) BW ht ls most ht (((gap:Int)+(sp:Int)+1) / 2)).length=(oY cs W X Y BW ht ls most (((gap:Int)+(sp:Int)+1) / 2)).length:=by
 obtain ⟨⟨-,-,-,-,-,aIf,aIg⟩,aDI⟩:=kD hfe;obtain ⟨h1,h2,h3,h4⟩:=MS (bs:=eS BW ht (kR cs W X Y)) (W:=BW) (H:=ht) (ls:=ls) (most:=most) (ht:=ht) (gs:=((gap:Int)+(sp:Int)+1) / 2) hBW (by omega) (fun l hl=>by
  have h:=aDI l hl;have:=(fC h.2.1).1;exact ⟨⟨h.2.2.2,by have:=aL this;omega⟩,T5 h.1⟩) (by omega)
 exact ⟨⟨h3,h4,TW fun l hl=>TX (aDI l hl).1⟩,h1,h2⟩
theorem aDy {a b A B:Int} (h1:0≤a∧a≤A) (h2:0≤b∧b≤B) (hA:0≤A):0≤a*b∧a*b≤A*B:=⟨Int.mul_nonneg h1.1 h2.1,Int.mul_le_mul h1.2 h2.2 h2.1 hA⟩
theorem aDz {a b A:Int} (h1:0≤a∧a≤A) (h2:1≤b):0≤a / b∧a / b≤A:=⟨Int.ediv_nonneg h1.1 (by omega),Int.le_trans (Int.ediv_le_self b h1.1) h1.2⟩
theorem KX (x : Fld) (fnm : List UInt8) (ht gap sp : Nat) (L : Option Addr) (lc : Nat) (ls : List Ltr) (W H : Nat) (C : Option Addr) (cc : Nat) (cs : List Bool) (X Y BW BH : Nat) (w : World) (hx : x.box = ⟨X, Y, BW, BH⟩) (hmo : 0 ≤ x.most ∧ x.most ≤ 1000) (hL : LtrsAt w L ls) (hnm : fnm.length ≤ 9223372036854775807) (hn : ls.length ≤ 9223372036854775807) (hfe : bN (dA fnm) ht gap sp ls = 0)
 (hC:Reads w 1 C (W*H) (cs.map .bool)) (hs:aE (W:Int) (H:Int)=0) (hbx:X+BW≤W∧Y+BH≤H∧1≤BW∧1≤BH) (hh:ht≤BH) :
 Calls Tryz.prog 81 #[x.val, .agg #[W, H, .slice C (W * H) cc], .agg #[fnm, ht, gap, sp, .slice L ls.length lc]] w
  fun e w'=>e=.returned (.tuple #[.string ⟨(JH ht (oY cs W X Y BW ht ls x.most (((gap:Int)+(sp:Int)+1) / 2))).1.toArray⟩,.int .i64 (JH ht (oY cs W X Y BW ht ls x.most (((gap:Int)+(sp:Int)+1) / 2))).2])∧Bl w w':=by
 have hz:=aL hs;obtain ⟨⟨-,-,-,-,-,aIf,aIg⟩,aDI⟩:=kD hfe;have hht:1≤ht∧ht≤64:=(by omega);have hBW:BW≤4000:=(by omega);obtain ⟨gs,hgs⟩:=aLt ((((gap:Int)+(sp:Int)+1) / 2):Int);have hok:=AO hfe (cs:=cs) (W:=W) (X:=X) (Y:=Y) (BW:=BW) (most:=x.most) hBW;rw[←hgs] at hok ⊢;obtain ⟨SS,hSS⟩:=aLt (oY cs W X Y BW ht ls x.most gs);rw[←hSS] at hok ⊢;obtain ⟨aBV,hfl,cL⟩:=hok;obtain ⟨PB,hPB⟩:=aLt (eS BW ht (kR cs W X Y));have hcu:=fun wx (hx:Reads wx 1 C (W*H) (cs.map .bool))=>QA W H X Y BW ht C cc cs wx hx hs (by omega) (by omega) (by omega) (by omega);rw[←hPB] at hfl cL;simp only[←hPB] at hcu;have hsz:aE (BW:Int) (ht:Int)=0:=by
  have:=aL9 BW ht;have:=aMa hBW hht.2;unfold aE;rw[if_pos (by omega),if_neg (by omega)]
 have hrd:=fun (A:Option Addr) (ac:Nat) (wx:World) (hA:Reads wx 1 A (BW*ht) (PB.map .bool)) (hLx:LtrsAt wx L ls)=>show Calls Tryz.prog 139 #[.agg #[fnm,ht,gap,sp,.slice L ls.length lc],.agg #[BW,ht,.slice A (BW*ht) ac],x.most] wx fun e w'=>∃R d,e=.returned (.tuple #[.slice R SS.length d,.int .i64 0])∧Reads w' 7 R SS.length (n8 SS)∧Bl wx w' from
  (VO fnm ht gap sp L lc ls BW ht A (BW*ht) ac PB x.most wx hLx hA hnm hn).mono fun e w' ⟨R,m,d,err,he,hr,hb⟩=>by
    obtain ⟨⟨h1,-,h3⟩,-⟩:=hr;have hp:aD (BW:Int) (ht:Int) (BW*ht)=0:=(by unfold aD;rw[if_pos hsz,if_pos (by simp)]);have aBG:err=0:=by
     rw[h1,hfe,hp,tH (by simp),show inB x.most 0 1000=true from aR.2 hmo];rfl
    subst aBG;obtain ⟨hm1,h5⟩:=h3 rfl;simp only[aL8] at hm1 h5;rw[←hgs] at hm1 h5;have hm2:m=SS.length:=(by rw[←cL];exact hm1);rw[show (cC (iR PB BW ht ls x.most ht) gs ht (aB (lP PB BW ht) BW) (aB (lP PB BW ht) BW).length).flatten=n8 SS from hfl] at h5;subst hm2;exact ⟨R,d,he,h5,hb⟩
 have htx:=fun A d wx hr=>aAu A d SS wx hr (by have:=aBV.len;omega) (fun s hs=>(aBV.line s hs).ok.1);obtain ⟨xn,xk,xb,M,mc,ms,xm,xd⟩:=x;obtain rfl:xb=⟨X,Y,BW,BH⟩:=hx;obtain ⟨TV,hTV⟩:=aLt (JH ht SS);rw[←hTV];unfold Fld.val;let w1:=(((w).alloc (.cells #[xn,xk,X,Y,BW,BH,.slice M ms.length mc,xm,.bool xd] 61)).alloc (.cells #[W,H,.slice C (W*H) cc] 43)).alloc (.cells #[fnm,ht,gap,sp,.slice L ls.length lc] 46);obtain ⟨w1b,w11,w12,w13⟩:=aLj (x:=w1) w _ _ _ _ _ _ rfl;obtain ⟨HL,HC,Hcu,Hrd,Htx,HTV,HSn⟩:=aLf (hL.bl w1b) (hC.bl w1b) hcu hrd htx hTV aBV;have k1:=w11.all9;have k2:=w12.all3;have k3:=w13.all5;have dV:=aLa w1b;clear hL hC hcu hrd htx hTV aBV hfl cL hPB hSS hgs w1b hfe aDI hsz hs hz hnm hn
 go_in
 go_upto_region 1 with fail;rw[show ((w.alloc (.cells #[xn,xk,X,Y,BW,BH,.slice M ms.length mc,xm,.bool xd] 61)).alloc (.cells #[W,H,.slice C (W*H) cc] 43)).alloc (.cells #[fnm,ht,gap,sp,.slice L ls.length lc] 46)=w1 from rfl];clear_value w1;go_upto_region 2 with fail;obtain ⟨o2,ho2⟩:=aLt w1.heap.size;obtain ⟨w2,hw2⟩:=aLt (w1.alloc (.cells #[X,Y,BW,BH] 58));have b2:=aLp hw2 ho2;have hb2:=aLn hw2;rw[←hw2,←ho2];have k1:=(w11.bl hb2).all9;have k2:=(w12.bl hb2).all3;have k3:=(w13.bl hb2).all5;have k4:=b2.all4;obtain ⟨B2,Hb2,Ho2⟩:=aLb b2 hb2 ho2;clear hw2 b2 hb2 ho2;go_upto_region 3 with fail;obtain ⟨w3,hw3⟩:=aLt (w2.setCell ⟨o2,3,none⟩ (.int .i64 ht));have b3:Blk w3 o2 58 #[X,Y,BW,ht]:=(by rw[hw3];exact B2.out.set_ 3 _);have hb3:Bl w1 w3:=(by rw[hw3];exact Hb2.out.setCell (by rw[Ho2.out];exact Nat.le_refl _) _);rw[←hw3];have k1:=(w11.bl hb3).all9;have k2:=(w12.bl hb3).all3;have k3:=(w13.bl hb3).all5;have k4:=b3.all4;have Hb3:=aLa hb3;clear hw3 b3 hb3;go_upto_region 4 with (go_at_call 138;refine (Hcu.out _ (HC.out.bl Hb3.out)).mono ?_;rintro e w4 ⟨v4,rfl,⟨g4,rfl,hg4,aCv,aFl⟩,hb4⟩);obtain ⟨o5,ho5⟩:=aLt w4.heap.size;obtain ⟨w5,hw5⟩:=aLt (w4.alloc (.cells #[BW,ht,.slice (some ⟨g4,0,none⟩) (BW*ht) (BW*ht)] 43));have b5:=aLp hw5 ho5;have hb5:=aLn hw5;rw[←hw5,←ho5];have Hb5:=aLa (Hb3.out.trans (hb4.trans hb5));have hr5:Reads w5 1 (some ⟨g4,0,none⟩) (BW*ht) (PB.map .bool):=(by have:=(hg4.bl hb5).reads (BW*ht) 1 (by simp[aCv]);simpa using this);have Hrc:=aLa (Hrd.out _ (BW*ht) w5 hr5 (HL.out.bl Hb5.out));have k1:=(w11.bl Hb5.out).all9;have k3:=(w13.bl Hb5.out).all5;have k5:=b5.all3;clear hw5 ho5 b5 hb5 hb4 hr5 hg4 aCv aFl k2 k4;go_upto_region 5 with (go_at_call 139;refine Hrc.out.mono ?_;rintro e w6 ⟨R6,d6,rfl,hr6,hb6⟩);have Hb6:=aLa (Hb5.out.trans hb6);have HR6:=aLa hr6;have hln:=HSn.out.len;clear k1 k3 k5 hb6 hr6;go_wp2_with fail;go_loopw [13,14,15,39] (fun a b c u wr=>∃i:Nat,i≤SS.length∧u=.int .i64 i∧a=.int .i64 (mJ SS i)∧b=.int .i64 (jO SS i)∧c=.bool (oT SS i)∧Bl w6 wr) (fun _ _ _ u _=>SS.length-(RowKit.intOf u).toNat);case atStart=>exact ⟨0,Nat.zero_le _,rfl,rfl,rfl,rfl,Bl.refl _⟩
 case round=>
  obtain ⟨i,hi,rfl,rfl,rfl,rfl,hbr⟩:=hrel;have hfb:=JG HSn.out.line i;have hwb:=JF HSn.out.line i;by_cases hlt:i<SS.length
  ·have hg:SS[i]? = some SS[i]:=aLv hlt;obtain ⟨s,hs0⟩:=aLt (SS[i]);rw[←hs0] at hg;have hsl:=HSn.out.line s (List.mem_of_getElem? hg);have hsd:=hsl.ok.2.1;have hsW:=hsl.W;obtain ⟨HF,HW,HLo⟩:=aLb (rZ hg) (oG hg) (zF hg);obtain ⟨F0,hF0⟩:=aLt (mJ SS i);obtain ⟨V0,hV0⟩:=aLt (jO SS i);obtain ⟨L0,hL0⟩:=aLt (oT SS i);rw[←hF0] at HF hfb ⊢;rw[←hV0] at HW hwb ⊢;rw[←hL0] at HLo ⊢;obtain ⟨ad,rfl,x0,x1,x2,x3,x4,x5,x6⟩:=aEs (HR6.out.bl hbr) hg;clear hs0 hg hsl hF0 hV0 hL0;go_upto_region 10 with fail;obtain ⟨q,hq⟩:=aLt wr.heap.size;obtain ⟨w7,hw7⟩:=aLt (wr.alloc (.cells #[.string ⟨s.t.toArray⟩,.int .i64 s.X,.int .i64 s.Y,.int .i64 s.W,.int .i64 s.H,.int .i64 s.d,.int .i64 s.e] 157));have bq:=aLp hw7 hq;have hb7:=aLn hw7;rw[←hw7,←hq];have Hb7:=aLa (hbr.trans hb7);have k1:=bq.all7';clear hw7 hq x0 x1 x2 x3 x4 x5 x6 bq hb7 hbr;obtain ⟨isp,aHL⟩:=aLu (gU s);have aI8:=aLa (show decide (s.t=[32])=isp from aHL);go_cut [45] from 43 to 45 (fun s45 wx=>s45=.bool isp∧w7=wx);case first=>
    go_wp2_with fail;go_meet;case rel=>exact ⟨by rw[←aI8.out];by_cases h:s.t=[32]<;>simp[h],rfl⟩
   case rest=>
   obtain ⟨rfl,rfl⟩:=hcut;have hsp:=aHL;rw[hsp] at HF HW HLo;clear aI8 aHL;cases isp with
   |true=>rw[if_pos rfl,Int.add_zero] at HF HW;have hlo:oT SS (i+1)=L0:=(by rw[HLo.out];simp);have aFH:=aLa hlo;clear hsp HLo hlo;go_wp2_with fail;exact ⟨⟨i+1,hlt,by go_num,by rw[HF.out],by rw[HW.out],by rw[aFH.out],Hb7.out⟩,by simp[RowKit.intOf];omega⟩
   |false=>
    rw[if_neg (by simp)] at HF HW;obtain ⟨dm,hdm⟩:=aLu (max s.d 0);have hdb:0≤dm∧dm≤32000000:=(by omega);rw[hdm] at HF;have hdm2:max 0 s.d=dm:=(by omega);clear hsp;by_cases e2:s.d<0
    ·have hlo:oT SS (i+1)=true:=(by rw[HLo.out,aLX e2];simp);have aFH:=aLa hlo;clear HLo hlo;go_wp2_with fail;exact ⟨⟨i+1,hlt,by go_num,by rw[HF.out],by rw[HW.out],by rw[aFH.out],Hb7.out⟩,by simp[RowKit.intOf];omega⟩
    ·have hlo:oT SS (i+1)=L0:=(by rw[HLo.out,aLW e2];simp);have aFH:=aLa hlo;clear HLo hlo;go_wp2_with fail;exact ⟨⟨i+1,hlt,by go_num,by rw[HF.out],by rw[HW.out],by rw[aFH.out],Hb7.out⟩,by simp[RowKit.intOf];omega⟩
  ·obtain rfl:i=SS.length:=(by omega);obtain ⟨F0,hF0⟩:=aLt (mJ SS SS.length);obtain ⟨V0,hV0⟩:=aLt (jO SS SS.length);obtain ⟨L0,hL0⟩:=aLt (oT SS SS.length);have htv:TV=if V0=0 then ([],1000) else if L0=true then (gF SS,0) else (gF SS,max (1000-F0 / ((ht:Int)*V0)) 0):=(by rw[HTV.out,hF0,hV0,hL0];rfl);rw[←hF0] at hfb ⊢;rw[←hV0] at hwb ⊢;rw[←hL0];have Hbr:=aLa hbr;have Htc:=aLa (fun wx (hb:Bl w6 wx)=>Htx.out R6 d6 wx (HR6.out.bl hb));have k3:=(w13.bl (Hb6.out.trans hbr)).all5;by_cases hv:V0=0
   ·rw[if_pos hv] at htv;have HT:=aLa htv;clear htv hF0 hV0 hL0 hbr;go_wp2_with fail
    go_ret2
    exact ⟨by rw[HT.out]<;>rfl,dV.out.trans (Hb6.out.trans Hbr.out)⟩
   ·rw[if_neg hv] at htv;cases L0 with
    |true=>
     rw[if_pos rfl] at htv;have HT:=aLa htv;clear htv hF0 hV0 hL0 hbr;go_wp2_with fail;refine (Htc.out _ Hbr.out).mono ?_;rintro e w7 ⟨rfl,hb7⟩;go_wp2_with fail
     go_ret2
     exact ⟨by rw[HT.out]<;>rfl,dV.out.trans (Hb6.out.trans (Hbr.out.trans hb7))⟩
    |false=>
     rw[if_neg (by simp)] at htv;have hV1:1≤V0:=(by omega);obtain ⟨D,hD⟩:=aLu ((ht:Int)*V0);have hDb:=aDy (a:=(ht:Int)) (b:=V0) (A:=64) (B:=4000*8000) (by omega) (by omega) (by decide);have hD1:1≤D:=by
      have:(1:Int)*1≤(ht:Int)*V0:=Int.mul_le_mul (by omega) hV1 (by decide) (by omega);omega
     rw[hD] at hDb htv;have hD0:D≠0:=(by omega);obtain ⟨Q,hQ⟩:=aLu (F0 / D);have hQb:=aDz (a:=F0) (b:=D) (A:=32000000000*8000) (by omega) hD1;rw[hQ] at hQb htv;obtain ⟨Z,hZ⟩:=aLu (max (1000-Q) 0);have hZ2:max 0 (1000-Q)=Z:=(by omega);rw[hZ] at htv;have HT:=aLa htv;clear htv hF0 hV0 hL0 hbr;go_upto_region 20 with fail;refine aLs [aLq 0,aLq 2,aLq 3,aLq 4,aLq 5,aLq 6,aLq 7,aLq 8,aLq 9,aLr 1,aLq 10,aLq 11] (by kernel_rfl) ?_
     iterate 2
      apply Flow.mv _ rfl
      ·intro a b;simp only[sqA,Act.eval,sqC];exact b
     iterate 2
      apply Flow.calm2 _ _ rfl rfl
      ·intro a b c d;obtain ⟨e,f⟩:=b.rule;go_simp;(try go_ints);exact d
      ·intro a b;simp only[sqA];exact b
     apply Flow.mv _ rfl
     ·intro a b;simp only[sqA,Act.eval,sqC];exact b
     iterate 4
      apply Flow.calm2 _ _ rfl rfl
      ·intro a b c d;obtain ⟨e,f⟩:=b.rule;go_simp;(try go_ints);exact d
      ·intro a b;simp only[sqA];exact b
     apply Flow.move rfl;go_wp2_with fail;refine (Htc.out _ (Hbr.out.drew)).mono ?_;rintro e w7 ⟨rfl,HB1⟩;obtain ⟨hc7,hf7⟩:=HB1.rule;go_wp2_with fail;refine ⟨fun _=>(by first|exact HB1|exact Bl.refl _),?_⟩
     iterate 2
      apply Flow.asg _ rfl
      ·intro a b;simp only[sqA,Act.eval,sqC];exact b
     refine Flow.done ?_;have hb7:Bl _ w7:=Bl.ofDrew HB1;go_wp2_with fail
     go_ret2
     exact ⟨by rw[HT.out]<;>rfl,dV.out.trans (Hb6.out.trans (Hbr.out.trans hb7))⟩
theorem KY (x:Fld) (W H:Nat) (C:Option Addr) (cc:Nat) (cs:List Bool) (X Y BW BH:Nat) (w:World) (hx:x.box=⟨X,Y,BW,BH⟩) (hC:Reads w 1 C (W*H) (cs.map .bool)) (hs:aE (W:Int) (H:Int)=0) (hbx:X+BW≤W∧Y+BH≤H∧1≤BW∧1≤BH) (hT:SpOk w) :
 Calls Tryz.prog 82 #[x.val, .agg #[W, H, .slice C (W * H) cc]] w
  fun e w'=>e=.returned (.tuple #[.string ⟨(KQ BH (jP (eS BW BH (kR cs W X Y)) BW BH) (decide (true∈eS BW BH (kR cs W X Y)))).1.toArray⟩,.int .i64 (KQ BH (jP (eS BW BH (kR cs W X Y)) BW BH) (decide (true∈eS BW BH (kR cs W X Y)))).2])∧Bl w w':=by
 have hz:=aL hs;have hBW:BW≤4000:=(by omega);have hBH:BH≤4000:=(by omega);have cL:=fI BW BH (kR cs W X Y);obtain ⟨PB,hPB⟩:=aLt (eS BW BH (kR cs W X Y));have hcu:=fun wx (hx:Reads wx 1 C (W*H) (cs.map .bool))=>QA W H X Y BW BH C cc cs wx hx hs (by omega) (by omega) (by omega) (by omega);simp only[←hPB] at hcu cL ⊢;have hWH:W*H≤1048576:=(by have:=aL9 W H;omega);have hsz:aE (BW:Int) (BH:Int)=0:=by
  have:=aL9 BW BH;have:=aMa (show BW≤W by omega) (show BH≤H by omega);unfold aE;rw[if_pos (by omega),if_neg (by omega)]
 have hp:aD (BW:Int) (BH:Int) (BW*BH)=0:=(by unfold aD;rw[if_pos hsz,if_pos (by simp)]);have hfi:=fun (A:Option Addr) (wx:World) (hA:Reads wx 1 A (BW*BH) (PB.map .bool)) hT=>YT BW BH A (BW*BH) PB wx hA (Nat.le_refl _) hsz hT;have aFF:=KO (bs:=PB) (W:=BW) (H:=BH) hBW hBH;obtain ⟨CS,hCS⟩:=aLt (jP PB BW BH);rw[←hCS] at aFF ⊢;simp only[←hCS] at hfi;have hbo:=fun (A:Option Addr) (wx:World) (hA:Reads wx 1 A (BW*BH) (PB.map .bool))=>show Calls Tryz.prog 33 #[.agg #[BW,BH,.slice A (BW*BH) (BW*BH)]] wx fun e w'=>∃X Y a b,e=.returned (.tuple #[.agg #[.int .i64 X,.int .i64 Y,.int .i64 a,.int .i64 b],.int .i64 (aF (!decide (true∈PB)) 10)])∧Bl wx w' from
  (uH BW BH A (BW*BH) (BW*BH) PB wx hA).mono fun e w' ⟨X,Y,a,b,err,he,_,h2,hb⟩=>by
    obtain ⟨is,hbi,aBG⟩:=h2 hp;simp only[aL8] at hbi;rw[V8 hbi cL] at aBG;subst aBG;exact ⟨X,Y,a,b,he,hb⟩
 obtain ⟨ink,aHM⟩:=aLt (decide (true∈PB));rw[←aHM] at ⊢;simp only[←aHM] at hbo;obtain ⟨xn,xk,xb,M,mc,ms,xm,xd⟩:=x;obtain rfl:xb=⟨X,Y,BW,BH⟩:=hx;obtain ⟨TV,hTV⟩:=aLt (KQ BH CS ink);rw[←hTV];unfold Fld.val;let w1:=((w).alloc (.cells #[xn,xk,.int .i64 X,.int .i64 Y,BW,BH,.slice M ms.length mc,xm,.bool xd] 61)).alloc (.cells #[W,H,.slice C (W*H) cc] 43);obtain ⟨w1b,w11,w12⟩:=aLi (x:=w1) w _ _ _ _ rfl;obtain ⟨HC,Hcu,Hfi,Hbo,HTV,aFu,HT⟩:=aLf (hC.bl w1b) hcu hfi hbo hTV aFF (hT.bl w1b);have k1:=w11.all9;have k2:=w12.all3;have dV:=aLa w1b;clear hC hcu hfi hbo hTV aFF hCS aHM w1b hsz hs hz hp hT hPB cL
 go_in
 go_upto_region 1 with fail;rw[show (w.alloc (.cells #[xn,xk,.int .i64 X,.int .i64 Y,BW,BH,.slice M ms.length mc,xm,.bool xd] 61)).alloc (.cells #[W,H,.slice C (W*H) cc] 43)=w1 from rfl];clear_value w1;go_upto_region 2 with (go_at_call 138;refine (Hcu.out _ HC.out).mono ?_;rintro e w4 ⟨v4,rfl,⟨g4,rfl,hg4,aCv,aFl⟩,hb4⟩);obtain ⟨o5,ho5⟩:=aLt w4.heap.size;obtain ⟨w5,hw5⟩:=aLt (w4.alloc (.cells #[BW,BH,.slice (some ⟨g4,0,none⟩) (BW*BH) (BW*BH)] 43));have b5:=aLp hw5 ho5;have hb5:=aLn hw5;rw[←hw5,←ho5];have Hb5:=aLa (hb4.trans hb5);have hr5:Reads w5 1 (some ⟨g4,0,none⟩) (BW*BH) (PB.map .bool):=(by have:=(hg4.bl hb5).reads (BW*BH) 1 (by simp[aCv]);simpa using this);have HR5:=aLa hr5;have B5:=aLa b5;have k1:=(w11.bl Hb5.out).all9;have k5:=b5.all3;clear hw5 ho5 b5 hb5 hb4 hr5 hg4 aCv aFl k2;go_upto_region 3 with (go_at_call 141;refine (Hfi.out _ _ HR5.out (HT.out.bl Hb5.out)).mono ?_;rintro e w6 ⟨R6,d6,E6,rfl,hr6,hb6⟩);obtain ⟨Hb6,HR6,aI9⟩:=aLb (Hb5.out.trans hb6) hr6 hb6;have hln:=aFu.out.2;clear k1 k5 hb6 hr6;go_wp2_with fail;go_loopw [4,10,29] (fun a b u wr=>∃i:Nat,i≤CS.length∧u=.int .i64 i∧a=.string ⟨(fB CS i).1.toArray⟩∧b=.int .i64 (fB CS i).2∧Bl w6 wr) (fun _ _ u _=>CS.length-(RowKit.intOf u).toNat);case atStart=>exact ⟨0,Nat.zero_le _,rfl,rfl,rfl,Bl.refl _⟩
 case round=>
  obtain ⟨i,hi,rfl,rfl,rfl,hbr⟩:=hrel;have hbb:=P6 aFu.out.1 i;by_cases hlt:i<CS.length
  ·have hg:CS[i]? = some CS[i]:=aLv hlt;obtain ⟨s,hs0⟩:=aLt (CS[i]);rw[←hs0] at hg;have HS:=aLa (q9 hg);obtain ⟨T0,hT0⟩:=aLt ((fB CS i).1);obtain ⟨N0,hN0⟩:=aLt ((fB CS i).2);rw[←hN0] at HS hbb ⊢;rw[←hT0] at ⊢;obtain ⟨ad,rfl,x0,x1,x2,x3,x4,x5⟩:=aCV (HR6.out.bl hbr) hg;have HT0:=aLa hT0;have HN0:=aLa hN0;clear hs0 hg hT0 hN0;go_upto_region 7 with fail;obtain ⟨q,hq⟩:=aLt wr.heap.size;obtain ⟨w7,hw7⟩:=aLt (wr.alloc (.cells #[s.k,s.t,s.X,s.Y,s.W,s.n] 161));have bq:=aLp hw7 hq;have hb7:=aLn hw7;rw[←hw7,←hq];have Hb7:=aLa (hbr.trans hb7);have k1:=bq.all6';clear hw7 hq x0 x1 x2 x3 x4 x5 bq hb7 hbr;by_cases e1:N0<s.n
   ·have hst:fB CS (i+1)=(s.t,s.n):=(by rw[HS.out,if_pos e1]);have HSt:=aLa hst;clear HS hst;go_upto_region 8 with fail;refine aLs [aLq 0,aLq 1,aLq 2,aLq 3,aLq 4,aLq 5] (by kernel_rfl) ?_
    iterate 4
     apply Flow.calm2 _ _ rfl rfl
     ·intro a b c d;obtain ⟨e,f⟩:=b.rule;go_simp;(try go_ints);exact d
     ·intro a b;simp only[sqA];exact b
    iterate 2
     apply Flow.asg _ rfl
     ·intro a b;simp only[sqA,Act.eval,sqC];exact b
    refine Flow.done ?_;go_wp2_with fail;exact ⟨⟨i+1,hlt,by go_num,by rw[HSt.out],by rw[HSt.out],Hb7.out.drew⟩,by simp[RowKit.intOf];omega⟩
   ·have hst:fB CS (i+1)=fB CS i:=(by rw[HS.out,if_neg e1]);have HSt:=aLa hst;clear HS hst;go_wp2_with fail;exact ⟨⟨i+1,hlt,by go_num,by rw[HSt.out,HT0.out],by rw[HSt.out,HN0.out],Hb7.out⟩,by simp[RowKit.intOf];omega⟩
  ·obtain rfl:i=CS.length:=(by omega);obtain ⟨T0,hT0⟩:=aLt ((fB CS CS.length).1);obtain ⟨N0,hN0⟩:=aLt ((fB CS CS.length).2);have htv:TV=(T0,if N0=0∧ink=false then 1000 else 1000*N0 / (BH:Int)):=(by rw[HTV.out,hT0,hN0];rfl);rw[←hT0,←hN0] at hbb;rw[←hT0,←hN0];have Hbr:=aLa (Hb6.out.trans hbr);have k1:=(w11.bl Hbr.out).all9;have k5:=(B5.out.bl (aI9.out.trans hbr)).all3;have HRb:=aLa (HR5.out.bl (aI9.out.trans hbr));obtain ⟨Q,hQ⟩:=aLu (1000*N0 / (BH:Int));rw[hQ] at htv;have hBH1:1≤(BH:Int):=(by omega);have hBH0:BH≠0:=(by omega);have Htv:=aLa htv;clear hT0 hN0 hbr htv;by_cases hv:N0=0
   ·have hT1:=hbb.2.2 hv;subst hv;have HT1:=aLa hT1;clear hbb hT1;go_upto_region 11 with fail;go_upto_region 12 with (go_at_call 33;refine (Hbo.out _ _ HRb.out).mono ?_;rintro e w7 ⟨Xb,Yb,ab,bb,rfl,hb7⟩);obtain ⟨w8,hw8⟩:=aLt (w7.alloc (.cells #[Xb,Yb,ab,bb] 58));have hb8:=aLn hw8;rw[←hw8];have Hb8:=aLa (Hbr.out.trans (hb7.trans hb8));have k1:=(w11.bl Hb8.out).all9;clear hw8 hb8 hb7 k5;cases ink with
    |false=>
     have HX:=aLa (show TV=([],1000) by rw[Htv.out,HT1.out];rfl);have hwi:aF (!false) 10=10:=rfl;go_wp2_with fail
     go_ret2
     exact ⟨by rw[HX.out]<;>rfl,dV.out.trans Hb8.out⟩
    |true=>
     have HX:=aLa (show TV=(T0,0) by rw[Htv.out,if_neg (by simp),←hQ];simp);have hwi:aF (!true) 10=0:=rfl;clear hQ;go_upto_region 14 with fail;refine aLs [aLq 0,aLq 1,aLq 2,aLq 3,aLq 4,aLq 5,aLq 6,aLq 7,aLq 8] (by kernel_rfl) ?_
     iterate 2
      apply Flow.mv _ rfl
      ·intro a b;simp only[sqA,Act.eval,sqC];exact b
     iterate 5
      apply Flow.calm2 _ _ rfl rfl
      ·intro a b c d;obtain ⟨e,f⟩:=b.rule;go_simp;(try go_ints);exact d
      ·intro a b;simp only[sqA];exact b
     iterate 2
      apply Flow.asg _ rfl
      ·intro a b;simp only[sqA,Act.eval,sqC];exact b
     refine Flow.done ?_;go_wp2_with fail
     go_ret2
     exact ⟨by rw[HX.out]<;>rfl,(dV.out.trans Hb8.out).drew⟩
   ·have HX:=aLa (show TV=(T0,1000*N0 / (BH:Int)) by rw[Htv.out,if_neg (by simp[hv]),hQ]);clear hQ;go_upto_region 14 with fail;refine aLs [aLq 0,aLq 1,aLq 2,aLq 3,aLq 4,aLq 5,aLq 6,aLq 7,aLq 8] (by kernel_rfl) ?_
    iterate 2
     apply Flow.mv _ rfl
     ·intro a b;simp only[sqA,Act.eval,sqC];exact b
    iterate 5
     apply Flow.calm2 _ _ rfl rfl
     ·intro a b c d;obtain ⟨e,f⟩:=b.rule;go_simp;(try go_ints);exact d
     ·intro a b;simp only[sqA];exact b
    iterate 2
     apply Flow.asg _ rfl
     ·intro a b;simp only[sqA,Act.eval,sqC];exact b
    refine Flow.done ?_;go_wp2_with fail
    go_ret2
    exact ⟨by rw[HX.out]<;>rfl,(dV.out.trans Hbr.out).drew⟩
end Go.Proofs.YtllefinciimffaaGreatDoor
