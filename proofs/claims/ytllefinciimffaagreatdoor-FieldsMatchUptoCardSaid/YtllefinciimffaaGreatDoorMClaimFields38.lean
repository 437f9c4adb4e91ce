import Derived.Test.YtllefinciimffaaGreatDoorMClaimFields18
import Derived.Test.YtllefinciimffaaGreatDoorMClaimFields37
import Derived.Test.YtllefinciimffaaGreatDoorMClaimFields36
set_option maxHeartbeats 20000000
set_option maxRecDepth 100000
namespace Go.Proofs.YtllefinciimffaaGreatDoor
structure BoxOk (x:Fld) (W H:Nat):Prop where
 inW:∃X Y w h:Nat,x.box=⟨X,Y,w,h⟩∧1≤w∧1≤h∧X+w≤W∧Y+h≤H
theorem U7 {b:Bx} {W H:Nat} (h:b.inP W H=true):∃X Y w h:Nat,b=⟨X,Y,w,h⟩∧1≤w∧1≤h∧X+w≤W∧Y+h≤H:=by
 obtain ⟨X,Y,w,hh⟩:=b;have h:=aIv (show decide (0≤X∧X<(W:Int)∧0≤Y∧Y<(H:Int)∧1≤w∧w≤(W:Int)-X∧1≤hh∧hh≤(H:Int)-Y)=true from h);obtain ⟨X',rfl⟩:=Int.eq_ofNat_of_zero_le (show 0≤X by omega);obtain ⟨Y',rfl⟩:=Int.eq_ofNat_of_zero_le (show 0≤Y by omega);obtain ⟨w',rfl⟩:=Int.eq_ofNat_of_zero_le (show 0≤w by omega);obtain ⟨h',rfl⟩:=Int.eq_ofNat_of_zero_le (show 0≤hh by omega);exact ⟨X',Y',w',h',rfl,by omega,by omega,by omega,by omega⟩
theorem U8 {f:Frm} {W H r:Nat} (hf:f.err=0) (dW:Fits f W H r) {x:Fld} (hx:x∈f.lf):(∀b∈x.marks,∃X Y w h:Nat,b=⟨X,Y,w,h⟩∧1≤w∧1≤h∧X+w≤W∧Y+h≤H)∧(cC x.kind=false→BoxOk x W H)∧x.marks.length≤20∧(1≤x.kind∧x.kind≤4):=by
 obtain ⟨-,-,-,hfl⟩:=NB hf;obtain ⟨pv,he⟩:=lX hfl x hx;obtain ⟨h1,h2,h3,h4,h5,h6,h7⟩:=DM he;rw[dW.fW,dW.fH] at h1 h7;refine ⟨fun b hb=>U7 (h1 b ?_),fun hm=>⟨U7 (h7 hm)⟩,h5,h4⟩;unfold gH;exact List.mem_append_right _ hb
end Go.Proofs.YtllefinciimffaaGreatDoor
namespace Go.Proofs.YtllefinciimffaaGreatDoor
open Go.RowKit Go.Shelf Go.Sort Go.Lib
theorem U9 {cs:List Bool} {W H:Nat} {t0:List UInt8} (h0:t0≠[32]) {ls:List Ltr} (h:∀l∈ls,l.text≠[32]):(cS cs W H t0 ls).1≠[32]:=by
 have key:∀(ls:List Ltr) (s:Best),(∀l∈ls,l.text≠[32])→s.1≠[32]→(ls.foldl (cD cs W H) s).1≠[32]:=by
  intro ls;induction ls with
  |nil=>intro s _ h;exact h
  |cons l ls ih=>
   intro s hl hs;refine ih (cD cs W H s l) (fun x hx=>hl x (List.mem_cons_of_mem _ hx)) ?_;unfold cD;split
   ·exact hs
   ·split
    ·exact hl l (List.mem_cons_self ..)
    ·split<;>exact hs
 exact key ls _ h h0
structure SnSays (s:Sn):Prop where
 lost:s.d<0→s.t=[63]
 wide:s.t≠[32]→1≤s.W
theorem NP {bs:List Bool} {W H:Nat} {ls:List Ltr} {most ht:Int} {p:Piece} (hl:∀l∈ls,l.text≠[32]) (hp:1≤p.2):SnSays (aBA (gN bs W H ls most ht p))∧(aBA (gN bs W H ls most ht p)).t≠[32]:=by
 have hw:=U9 (cs:=fS p.2 H (iU bs W p.1 0)) (W:=p.2) (H:=H) (t0:=[]) (by decide) hl;unfold gN cF;split
 ·exact ⟨⟨fun _=>rfl,fun _=>show (1:Int)≤(p.2:Int) by omega⟩,by show ([63]:List UInt8)≠[32];decide⟩
 ·rename_i hf
  have hd:¬(cS (fS p.2 H (iU bs W p.1 0)) p.2 H [] ls).2.1<0:=fun h=>hf (aIu (Or.inl h));exact ⟨⟨fun h=>absurd h hd,fun _=>show (1:Int)≤(p.2:Int) by omega⟩,hw⟩
theorem IX {bs : List Bool} {W H : Nat} {ls : List Ltr} {most ht gs : Int} {ps : List Piece} (hl : ∀ l ∈ ls, l.text ≠ [32]) (hp : ∀ p ∈ ps, 1 ≤ p.2) : ∀ i, i ≤ ps.length → ∀ row ∈ bK (gN bs W H ls most ht) gs H ps i, SnSays (aBA row)
 |0,_,row,h=>by cases h
 |i+1,hi,row,h=>by
  have hm:bJ ps i∈ps:=by
   unfold bJ;rw[aH4,aH2 (by omega)];exact List.getElem_mem _
  have e2:bK (gN bs W H ls most ht) gs H ps (i+1)=bK (gN bs W H ls most ht) gs H ps i++(if 0<i∧gs≤jB ps i then [cU (nQ ps (i-1)) (jB ps i) H] else [])++[gN bs W H ls most ht (bJ ps i)]:=rfl;rw[e2] at h;rcases aIj.1 h with h|h
  ·rcases aIj.1 h with h|h
   ·exact IX hl hp i (by omega) row h
   ·split at h
    ·rw[aIn.1 h];exact ⟨fun h=>absurd (show (0:Int)<0 from h) (by decide),fun h=>absurd rfl h⟩
    ·cases h
  ·rw[aIn.1 h];exact (NP hl (hp _ hm)).1
theorem IY {bs : List Bool} {W H : Nat} {ls : List Ltr} {most ht gs : Int} {ps : List Piece} : ∀ i, (bK (gN bs W H ls most ht) gs H ps (i + 1))[0]? = some (gN bs W H ls most ht (bJ ps 0))
 |0=>rfl
 |i+1=>by
  have ih:=IY (bs:=bs) (W:=W) (H:=H) (ls:=ls) (most:=most) (ht:=ht) (gs:=gs) (ps:=ps) i;have e2:bK (gN bs W H ls most ht) gs H ps (i+1+1)=bK (gN bs W H ls most ht) gs H ps (i+1)++((if 0<i+1∧gs≤jB ps (i+1) then [cU (nQ ps (i+1-1)) (jB ps (i+1)) H] else [])++[gN bs W H ls most ht (bJ ps (i+1))]):=by
   rw[←aIi];rfl
  rw[e2,aIb (aH3.1 ih).1];exact ih
structure LineSays (ss:List Sn):Prop where
 all:∀s∈ss,SnSays s
 head:∀s,ss[0]? = some s→s.t≠[32]
theorem QW {bs:List Bool} {W H:Nat} {ls:List Ltr} {most ht gs:Int} (hl:∀l∈ls,l.text≠[32]):LineSays (zY bs W H ls most ht gs):=by
 have hp:∀p∈aD (kH bs W H) W,1≤p.2:=fun p h=>(kS (kH bs W H) W p h).1;refine ⟨fun s hs => ?_,fun s hs => ?_⟩
 ·unfold zY DT at hs;obtain ⟨row,hr,rfl⟩:=aIK.1 hs;exact IX hl hp _ (Nat.le_refl _) row hr
 ·unfold zY DT at hs;rw[aId] at hs;cases hn:(aD (kH bs W H) W).length with
  |zero=>rw[hn] at hs;cases hs
  |succ n=>rw[hn,IY n] at hs;obtain rfl:=aIw hs;refine (NP hl (hp _ ?_)).2;unfold bJ;rw[aH4,aH2 (by omega)];exact List.getElem_mem _
theorem QX {t:List UInt8} (h:iJ t=true):t≠[32]:=by
 intro e;unfold iJ at h;rw[aIs,decide_eq_true_eq] at h;have:=h.1 32 (by rw[e];simp);simp at this
theorem LE {ss:List Sn} (hs:∀s∈ss,SnLine s):∀i,eY ss i≤eY ss (i+1):=fun i=>by
 cases hg:ss[i]? with
 |none=>show _≤_+(match ss[i]? with|none=>(0:Int)|some s=>if fN s=true then 0 else s.W);rw[hg];simp
 |some s=>have h:=(hs s (List.mem_of_getElem? hg)).W;rw[kY hg];split<;>omega
theorem CF {ss : List Sn} (h : LineSays ss) (hs : ∀ s ∈ ss, SnLine s) (hn : ss ≠ []) : ∀ i, 1 ≤ eY ss (i + 1)
 |0=>by
  obtain ⟨s,hg⟩:∃s,ss[0]? = some s:=by
   cases ss with
   |nil=>exact absurd rfl hn
   |cons s ss=>exact ⟨s,rfl⟩
  rw[kY hg,show fN s=false from aIt (h.head s hg)];have:=(h.all s (List.mem_of_getElem? hg)).wide (h.head s hg);show 1≤(0:Int)+_;simpa using this
 |i+1=>Int.le_trans (CF h hs hn i) (LE hs (i+1))
theorem LF {ss:List Sn} (h:LineSays ss) (hs:∀s∈ss,SnLine s) (h0:eY ss ss.length=0):ss=[]:=by
 cases ss with
 |nil=>rfl
 |cons s l=>have:=CF h hs (by simp) l.length;rw[aH8] at h0;omega
def tW (ss : List Sn) : Nat → Bool
 |0=>false
 |i+1=>tW ss i||(match ss[i]? with|none=>false|some s=>decide (s.t=[63])&&decide (s.d<0))
theorem CG {ss:List Sn} {i:Nat} {s:Sn} (h:ss[i]? = some s):tW ss (i+1)=(tW ss i||(decide (s.t=[63])&&decide (s.d<0))):=by
 show (_||(match ss[i]? with|none=>false|some s=>decide (s.t=[63])&&decide (s.d<0)))=_;rw[h]
theorem NQ {ss : List Sn} (h : LineSays ss) : ∀ i, tW ss i = mX ss i
 |0=>rfl
 |i+1=>by
  have ih:=NQ h i;cases hg:ss[i]? with
  |none=>show (tW ss i||(match ss[i]? with|none=>false|some s=>decide (s.t=[63])&&decide (s.d<0)))=(mX ss i||(match ss[i]? with|none=>false|some s => !fN s&&decide (s.d<0)));rw[hg,ih]
  |some s=>
   rw[CG hg,x9 hg,ih]
   congr 1
   have hs:=(h.all s (List.mem_of_getElem? hg)).lost;by_cases hd:s.d<0
   ·have ht:=hs hd;have:fN s=false:=aIt (by rw[ht];decide);rw[this,aIu ht];rfl
   ·rw[aIt hd,Bool.and_false,Bool.and_false]
def VA (ht:Int) (ss:List Sn):List UInt8 × Int:=
 (eV ss,if 0<ht*eY ss ss.length∧tW ss ss.length=false then max 0 (1000-jX ss ss.length / (ht*eY ss ss.length)) else if tW ss ss.length=true then 0 else 1000)
theorem X4 {ht:Int} {ss:List Sn} (h:LineSays ss) (hs:∀s∈ss,SnLine s) (hh:1≤ht):VA ht ss=KM ht ss:=by
 unfold VA KM;rw[NQ h];by_cases hw:eY ss ss.length=0
 ·rw[if_pos hw];have:=LF h hs hw;subst this;show (([]:List UInt8),if 0<ht*(0:Int)∧false=false then max 0 (1000-(0:Int) / (ht*0)) else if false=true then (0:Int) else 1000)=([],1000);rw[Int.mul_zero,if_neg (by simp),if_neg (by simp)]
 ·rw[if_neg hw];have hp:1≤eY ss ss.length:=(by have:=(r7 hs ss.length).1;omega);have hm:0<ht*eY ss ss.length:=Int.mul_pos (by omega) (by omega);cases hl:mX ss ss.length with
  |true=>rw[if_neg (by simp),if_pos rfl,if_pos rfl]
  |false=>rw[if_pos ⟨hm,rfl⟩,if_neg (by simp),Int.max_comm]
theorem y9 {out:List Cd} {h:∀e∈out,CdIn e}:∀c∈fB out h,c∈out:=by
 intro c hc;obtain ⟨hsz,-,hp⟩:=(pdq_sorts (ltOf M1) vW (toS out h).toArray 0 (toS out h).toArray.size (Lib.bitLen (toS out h).toArray.size) true true (Nat.zero_le _) (Nat.le_refl _) (Or.inl rfl)).1;unfold fB at hc;obtain ⟨x,hx,rfl⟩:=aIK.1 hc;generalize pdq (ltOf M1) (toS out h).toArray 0 (toS out h).toArray.size (Lib.bitLen (toS out h).toArray.size) true true=d' at hsz hp hx;have e1:(d'.extract 0 (toS out h).toArray.size).toList=d'.toList:=by
  rw[Array.toList_extract,List.extract_eq_take_drop,List.drop_zero,Nat.sub_zero,aID (by rw[Array.length_toList,hsz];exact Nat.le_refl _)]
 have e2:((toS out h).toArray.extract 0 (toS out h).toArray.size).toList=toS out h:=by
  rw[Array.toList_extract,List.extract_eq_take_drop,List.drop_zero,Nat.sub_zero,aID (by simp)]
 rw[e1,e2] at hp;have hx2:=hp.subset hx;unfold toS at hx2;obtain ⟨a,ha,rfl⟩:=List.mem_pmap.1 hx2;exact ha
instance (e:Cd):Decidable (CdIn e):=by unfold CdIn;infer_instance
def iF (bs:List Bool) (W H:Nat):List Cd:=if h:eS (aP bs W 1 H)=0∧∀e∈cB (aP bs W 1 H),CdIn e then fB (cB (aP bs W 1 H)) h.2 else []
theorem sK {bs:List Bool} {W H:Nat} (h:∀e∈cB (aP bs W 1 H),CdIn e) (h0:eS (aP bs W 1 H)=0):iF bs W H=fB (cB (aP bs W 1 H)) h:=by
 unfold iF;rw[dif_pos ⟨h0,h⟩]
theorem qV {bs:List Bool} {W H:Nat} (h0:eS (aP bs W 1 H)≠0):iF bs W H=[]:=by
 unfold iF;rw[dif_neg (fun h=>h0 h.1)]
theorem NR (H:Nat):EI H 1=H:=by unfold EI;simp
theorem LG {bs:List Bool} {W H:Nat} (hW:W≤4000) (hH:H≤4000):∀c∈aP bs W 1 H,CdOk 1 c:=fun c hc=>by
 have h:=nB (bs:=bs) (W:=W) (step:=1) (H:=H) hW hH H (fun i hi=>by omega) c hc;exact qK h.1 (by omega)
theorem NS {bs:List Bool} {W H:Nat} (hW:W≤4000) (hH:H≤4000):eS (aP bs W 1 H)=0↔(aP bs W 1 H).length≤10000:=by
 rw[U5 (fun c hc=>(nB (bs:=bs) (W:=W) (step:=1) (H:=H) hW hH H (fun i hi=>by omega) c hc).1)];constructor
 ·intro h;apply Classical.byContradiction;intro hn;rw[aIu (by omega)] at h;exact absurd h (by decide)
 ·intro h;rw[aIt (by omega)];rfl
theorem IZ {bs:List Bool} {W H:Nat} (hW:W≤4000) (hH:H≤4000):(∀e∈cB (aP bs W 1 H),CdOk (aP bs W 1 H).length e)∧(cB (aP bs W 1 H)).length≤(aP bs W 1 H).length:=by
 have h:=rW (LG (bs:=bs) hW hH) (aP bs W 1 H).length (Nat.le_refl _)
 rwa [aH9] at h
theorem I0 {bs:List Bool} {W H:Nat} (hW:W≤4000) (hH:H≤4000):(∀c∈iF bs W H,(1≤c.n∧c.n≤10000000000))∧(iF bs W H).length≤10000:=by
 by_cases h0:eS (aP bs W 1 H)=0
 ·have hg:=IZ (bs:=bs) hW hH;have hl:=(NS (bs:=bs) hW hH).1 h0;have hin:∀e∈cB (aP bs W 1 H),CdIn e:=fun e he=>(hg.1 e he).in_;rw[sK hin h0];refine ⟨fun c hc => ?_,by rw[jJ];omega⟩;have:=hg.1 c (y9 c hc);obtain ⟨-,-,-,-,-,-,-,h1,h2,-⟩:=this;omega
 ·rw[qV h0];exact ⟨(fun c hc=>by cases hc),Nat.zero_le _⟩
def d4 (cs : List Cd) : Nat → List UInt8 × Int
 |0=>([],0)
 |i+1=>match cs[i]? with|none=>d4 cs i|some c=>if (d4 cs i).2<c.n then (c.t,c.n) else d4 cs i
theorem pR {cs:List Cd} {i:Nat} {c:Cd} (h:cs[i]? = some c):d4 cs (i+1)=if (d4 cs i).2<c.n then (c.t,c.n) else d4 cs i:=by
 show (match cs[i]? with|none=>d4 cs i|some c=>if (d4 cs i).2<c.n then (c.t,c.n) else d4 cs i)=_;rw[h]
theorem EK {cs : List Cd} (h : ∀ c ∈ cs, (1 ≤ c.n ∧ c.n ≤ 10000000000)) : ∀ i, 0 ≤ (d4 cs i).2 ∧ (d4 cs i).2 ≤ 10000000000 ∧ ((d4 cs i).2 = 0 → (d4 cs i).1 = [])
 |0=>by simp[d4]
 |i+1=>by
  have ih:=EK h i;cases hg:cs[i]? with
  |none=>
   have e:d4 cs (i+1)=d4 cs i:=by
    show (match cs[i]? with|none=>d4 cs i|some c=>if (d4 cs i).2<c.n then (c.t,c.n) else d4 cs i)=_;rw[hg]
   rw[e];exact ih
  |some c=>
   have hc:=h c (List.mem_of_getElem? hg);rw[pR hg];split
   ·exact ⟨by omega,by omega,fun h=>absurd (show c.n=0 from h) (by omega)⟩
   ·exact ih
theorem tX {cs : List Cd} {M : Nat} (h : ∀ c ∈ cs, c.t.length ≤ M) : ∀ i, (d4 cs i).1.length ≤ M
 |0=>Nat.zero_le _
 |i+1=>by
  have ih:=tX h i;cases hg:cs[i]? with
  |none=>
   have e:d4 cs (i+1)=d4 cs i:=by
    show (match cs[i]? with|none=>d4 cs i|some c=>if (d4 cs i).2<c.n then (c.t,c.n) else d4 cs i)=_;rw[hg]
   rw[e];exact ih
  |some c=>
   rw[pR hg];split
   ·exact h c (List.mem_of_getElem? hg)
   ·exact ih
theorem zA {bs:List Bool} {W H:Nat} (hW:W≤4000) (hH:H≤4000):∀c∈iF bs W H,c.t.length≤9223372036854775807:=by
 by_cases h0:eS (aP bs W 1 H)=0
 ·have hg:=IZ (bs:=bs) hW hH;have hin:∀e∈cB (aP bs W 1 H),CdIn e:=fun e he=>(hg.1 e he).in_;rw[sK hin h0];intro c hc;obtain ⟨-,-,-,-,-,-,-,-,-,h⟩:=hg.1 c (y9 c hc);exact h
 ·rw[qV h0];intro c hc;cases hc
theorem sL {α : Type} {f : α → Nat} {c : Nat} : ∀ {l : List α}, (∀ a ∈ l, f a ≤ c) → (l.map f).sum ≤ c * l.length
 |[],_=>Nat.zero_le _
 |a :: l,h=>by
  have ih:=sL (l:=l) fun x hx=>h x (List.mem_cons_of_mem _ hx);have ha:=h a (List.mem_cons_self ..);rw[List.map_cons,List.sum_cons,aH8,Nat.mul_add,Nat.mul_one];omega
def LH (H:Int) (cs:List Cd) (ink:Bool):List UInt8 × Int:=
 ((d4 cs cs.length).1,if (d4 cs cs.length).2=0∧ink=false then 1000 else 1000*(d4 cs cs.length).2 / H)
end Go.Proofs.YtllefinciimffaaGreatDoor
namespace Go.Proofs.YtllefinciimffaaGreatDoor
open Go.RowKit Go.Shelf
theorem NT (W H X Y BW BH:Nat) (A:Option Addr) (ac:Nat) (bs:List Bool) (w:World) (hA:Reads w 1 A (W*H) (bs.map .bool)) (hs:aM (W:Int) (H:Int)=0) (hX:X+BW≤W) (hY:Y+BH≤H) (h1:1≤BW) (h2:1≤BH) :
 Calls Tryz.prog 138 #[.agg #[W,H,.slice A (W*H) ac],.agg #[X,Y,BW,BH]] w fun e w'=>∃v,e=.returned (.tuple #[v,.int .i64 0])∧BPage w.heap.size w' v BW BH (fS BW BH (iU bs W X Y))∧Bl w w':=by
 have hz:=aR hs;have hp:aF (W:Int) (H:Int) (W*H)=0:=(by unfold aF;rw[if_pos hs,if_pos (by simp)]);have he:fG (W:Int) (H:Int) (W*H) (X:Int) (Y:Int) (BW:Int) (BH:Int)=0:=by
  unfold fG;rw[hp,show dG (X:Int) (Y:Int) (BW:Int) (BH:Int) (W:Int) (H:Int)=true from aIu (by omega)];rfl
 have u1:W≤4000:=(by omega);have u2:H≤4000:=(by omega);have u3:W*H≤1048576:=(by have:=aIG W H;omega);have hsz:BW*BH≤1048576:=aII (aIH (show BW≤W by omega) (show BH≤H by omega)) u3;let w2:=(((w).alloc (.cells #[W,H,.slice A (W*H) ac] 43)).alloc (.cells #[X,Y,BW,BH] 58)).alloc (.cells #[.int .i64 0,.int .i64 0,.slice none 0 0] 43);obtain ⟨w2b,w21,w22,w23⟩:=aHQ (x:=w2) w _ _ _ _ _ _ rfl;have k1:=w21.all3;have k2:=w22.all4;have hA2:=hA.bl w2b;have HA:=aHH hA2;clear hA hA2 hp hs hz
 go_in
 go_wp2_with fail;refine (nJ _ _ _ _ _ _ _ _ _ _).mono ?_;rintro e w3 ⟨rfl,hb3⟩;have k1:=(w21.bl hb3).all3;have k2:=(w22.bl hb3).all4;have hle:=w2b.trans hb3;have hP:Paints Tryz.prog 180 #[.pointer (some ⟨w.heap.size,0,none⟩),.pointer (some ⟨w.heap.size+1,0,none⟩)] Value.bool w3 BW BH (iU bs W X Y):=
  ⟨fT Tryz.func180 (by kernel_rfl) rfl,fun wx x y hb hx hy=>L8 _ _ W H X Y BW BH A ac bs x y wx ((w21.bl hb3).bl hb) ((w22.bl hb3).bl hb) ((HA.out.bl hb3).bl hb) u1 u2 hx hy hX hY⟩
 have HP:=aHH hP;clear hP;go_wp2_with fail;refine (FT BW BH _ _ _ _ (by omega) (by omega) hsz HP.out).mono ?_;rintro e w6 ⟨r,rfl,hpg,hb6⟩;have k3:=(w23.bl (hb3.trans hb6)).all3;have ZG:=hle.trans hb6;have aDv:=(w23.bl hb3).lt;obtain ⟨g,rfl,hg,hgl,hgn⟩:=hpg;have RU:g≠w.heap.size+1+1:=(by omega);have HG:=aHH hg;have HGl:=aHH hgl;have hgw:w.heap.size≤g:=(by have:=w2b.le;have:=hb3.le;omega);clear hg hgl;go_wp2_with fail;refine aIx (v:=.tuple #[.agg #[BW,BH,.slice (some ⟨g,0,none⟩) (BW*BH) (BW*BH)],.int .i64 0]) (by simp[results,Tryz.results138,go_sem,k3]) rfl ⟨_,rfl,⟨g,rfl,?_,HGl.out,hgw⟩,?_⟩
 ·exact ((HG.out.far (by simpa using RU) _).far (by simpa using RU) _).far (by simpa using RU) _
 ·exact (((ZG.setCell (by simp;omega) _).setCell (by simp;omega) _).setCell (by simp;omega) _)
theorem VB (W H:Nat) (A:Option Addr) (ac:Nat) (bs:List Bool) (w:World) (hA:Reads w 1 A (W*H) (bs.map .bool)) (hac:W*H≤ac) (hs:aM (W:Int) (H:Int)=0) (hT:SpOk w) :
 Calls Tryz.prog 141 #[.agg #[W,H,.slice A (W*H) ac],.int .i64 1] w fun e w'=>∃R d E,e=.returned (.tuple #[.slice R (iF bs W H).length d,.int .i64 E])∧Reads w' 6 R (iF bs W H).length (aK (iF bs W H))∧Bl w w':=by
 have hp:aF (W:Int) (H:Int) (W*H)=0:=(by unfold aF;rw[if_pos hs,if_pos (by simp)]);have hf:iT (aF (W:Int) (H:Int) (W*H)) 1=0:=(by rw[hp];rfl);refine (U6 (W:Int) (H:Int) A (W*H) ac bs 1 w hA hac hT).mono ?_;rintro e w' (⟨h0,-⟩|⟨-,h⟩)
 ·exact absurd hf h0
 ·have h2:VoteRes (aP bs W 1 H) w e w':=by
   have h3:VoteRes (aP bs W 1 (EI H 1)) w e w':=by simpa using h
   rwa [NR] at h3
  rcases h2 with ⟨h0,rfl,hb⟩|⟨h0,R,c,hin,rfl,hr,hb⟩
  ·rw[qV h0];exact ⟨none,0,_,rfl,Reads.none_,hb⟩
  ·rw[sK hin h0,jJ];exact ⟨R,c,0,rfl,hr,hb⟩
theorem QY (W H:Nat) (A:Option Addr) (ac:Nat) (bs:List Bool) (w:World) (hA:Reads w 1 A (W*H) (bs.map .bool)) (hW:W≤4000) (hH:H≤4000) (hHW:H*(W+1)≤60000) (hT:SpOk w) :
 Calls Tryz.prog 95 #[.agg #[W,H,.slice A (W*H) ac],.int .i64 1] w fun e w'=>∃R d,e=.returned (.slice R (iF bs W H).length d)∧Reads w' 6 R (iF bs W H).length (aK (iF bs W H))∧Bl w w':=by
 refine (LD W H 1 A ac bs w hA hW hH hHW (by omega) (by omega) hT).mono ?_;rintro e w' ⟨R,c,hin,rfl,hr,hb⟩;have h0:eS (aP bs W 1 H)=0:=by
  rw[NS hW hH];have:=nY bs W 1 H;omega
 have key:∀n,n=H→∀hin:∀e∈cB (aP bs W 1 n),CdIn e,(cB (aP bs W 1 n)).length=(iF bs W H).length∧fB (cB (aP bs W 1 n)) hin=iF bs W H:=by
  rintro n rfl hin;rw[sK hin h0,jJ];exact ⟨rfl,rfl⟩
 obtain ⟨e1,e2⟩:=key _ (NR H) hin;rw[e1,e2] at hr;rw[e1];exact ⟨R,c,rfl,hr,hb⟩
theorem EM {f:Frm} (h:f.err=0):1≤f.dark∧f.dark≤1000:=by
 unfold Frm.err mF at h;have hh:=dX h (fA (cG f.name) f.W f.H f.reach f.dark f.la.length) (by simp);unfold fA at hh;have hr:=dX hh (aE (!inB f.reach 0 40||!inB f.dark 1 1000) 3) (by simp);have hi:inB f.dark 1 1000=true:=by
  cases hc:inB f.dark 1 1000 with
  |true=>rfl
  |false=>rw[hc] at hr;exact absurd hr (by simp[aE])
 exact aQ.1 hi
structure FldOk (x:Fld) (W H:Nat):Prop where
 marks:MarksOk x.marks W H
 box:cC x.kind=false→BoxOk x W H
 m20:x.marks.length≤20
 kind:1≤x.kind∧x.kind≤4
 most:0≤x.most∧x.most≤1000
theorem NU {f:Frm} {W H r:Nat} (hf:f.err=0) (dW:Fits f W H r) {x:Fld} (hx:x∈f.lf):FldOk x W H:=by
 obtain ⟨h1,h2,h3,h4⟩:=U8 hf dW hx;refine ⟨h1,h2,h3,h4,?_⟩;obtain ⟨-,-,-,hfl⟩:=NB hf;obtain ⟨pv,he⟩:=lX hfl x hx;unfold n9 oD at he;have hr:=dX he (aE (!inB x.most 0 1000) 3) (by simp);have hi:inB x.most 0 1000=true:=by
  cases hc:inB x.most 0 1000 with
  |true=>rfl
  |false=>rw[hc] at hr;exact absurd hr (by simp[aE])
 exact aQ.1 hi
theorem zB {f:Frm} {W H r:Nat} (h:Fits f W H r):aM (W:Int) (H:Int)=0:=by
 have h1:=h.hW;have h2:=h.hH;have h3:=h.hWH;have:=aIG W H;unfold aM;rw[if_pos (by omega),if_neg (by omega)]
def tY (f:Frm) (nm:List UInt8):Int:=match tM f.lf nm with|none=>10|some x=>if cC x.kind=true then 0 else 1
def lF (f:Frm) (cs:List Bool) (nm:List UInt8):List Int:=match tM f.lf nm with|none=>[]|some x=>dA (kW f cs) f.W.toNat f.dark x.marks x.marks.length
def EN (f:Frm) (bW bH:Int) (n:Nat) (nm:List UInt8):Int:=if mH f bW bH n=0 then tY f nm else mH f bW bH n
def MarkRes (E:Int) (l:List Int) (e:Ending) (w':World):Prop:=∃A m c,e=.returned (.tuple #[.slice A m c,E])∧(E≠0→m=0)∧(E=0→m=l.length∧Reads w' 1 A m (l.map (.int .i64)))
theorem LI (f:Frm) (bW bH:Int) (C:Option Addr) (n cc:Nat) (nm:List UInt8) (l:List Int) (w:World) (hF:FrmAt w f) (hS:f.small 1048576) (hN:NumOk w) (hC:SplitOk w) (mK:mH f bW bH n≠0) :
 Calls Tryz.prog 15 #[f.val,.agg #[bW,bH,.slice C n cc],nm] w fun e w'=>MarkRes (mH f bW bH n) l e w'∧Bl w w':=by
 have hck:=fun wx hF hN hC=>sI f bW bH C n cc wx hF hS hN hC;obtain ⟨E,hE⟩:=aH0 (mH f bW bH n);rw[←hE] at hck mK ⊢;obtain ⟨nm',fW,fH,reach,dark,AL,ac,la,FL,fc,lf,RL,rc,lr⟩:=f;let w1:=((w).alloc (.cells #[nm',fW,fH,reach,dark,.slice AL la.length ac,.slice FL lf.length fc,.slice RL lr.length rc] 26)).alloc (.cells #[bW,bH,.slice C n cc] 43);obtain ⟨w1b,w11,w12⟩:=aHP (x:=w1) w _ _ _ _ rfl;unfold Frm.val at hck;have k1:=w11.all8;have k2:=w12.all3;have dM:=aHH w1b;have Hck:=aHH (hck w1 (hF.bl w1b) (hN.bl w1b) (hC.bl w1b));unfold Frm.val;clear w1b hE hck hF hN hC hS
 go_in
 go_upto_region 1 with fail;rw[show (w.alloc (.cells #[nm',fW,fH,reach,dark,.slice AL la.length ac,.slice FL lf.length fc,.slice RL lr.length rc] 26)).alloc (.cells #[bW,bH,.slice C n cc] 43)=w1 from rfl];clear_value w1;go_upto_region 2 with (go_at_call 74;refine Hck.out.mono ?_;rintro e w2 ⟨rfl,hb2⟩);have q:(E != 0)=true:=(by simp[mK]);have Hz:=aHH mK;clear mK;go_wp2_with fail
 go_ret2
 exact ⟨⟨none,0,0,rfl,fun _=>rfl,fun h=>absurd h Hz.out⟩,dM.out.trans hb2⟩
theorem I1 (f:Frm) (W H r:Nat) (C:Option Addr) (cc:Nat) (cs:List Bool) (nm:List UInt8) (w:World) (hf:f.err=0) (dW:Fits f W H r) (hF:FrmAt w f) (hS:f.small 1048576) (hN:NumOk w) (hC:SplitOk w) (LX:mH f W H (W*H)=0) (hR:Reads w 1 C (W*H) (cs.map .bool)) :
 Calls Tryz.prog 15 #[f.val,.agg #[W,H,.slice C (W*H) cc],nm] w fun e w'=>MarkRes (tY f nm) (lF f cs nm) e w'∧Bl w w':=by
 have hck:=fun wx hF hN hC=>sI f W H C (W*H) cc wx hF hS hN hC;rw[LX] at hck;have hfa:=fun wx hF=>xW f nm wx hF;have hpl:=fun wx hF hR=>IG f C cc cs W H r wx dW hF hR;have hs:=zB dW;have hdk:=EM hf;have hmk:=fun (x:Fld) (hx:x∈f.lf) A c wx hM hR=>BJ f x W H A c (kW f cs) wx hs hM (NU hf dW hx).marks (NU hf dW hx).m20 hdk hR;have e1:=dW.fW;have heW:f.W.toNat=W:=(by rw[e1];simp);have hE:∀x,tM f.lf nm=some x→tY f nm=(if cC x.kind=true then 0 else 1)∧lF f cs nm=dA (kW f cs) W f.dark x.marks x.marks.length:=fun x hx=>by
  unfold tY lF;rw[hx,heW];exact ⟨rfl,rfl⟩
 have hE0:tM f.lf nm=none→tY f nm=10:=fun hx=>(by unfold tY;rw[hx]);obtain ⟨E,hEE⟩:=aH0 (tY f nm);obtain ⟨l,hl⟩:=aH0 (lF f cs nm);obtain ⟨PB,hPB⟩:=aH0 (kW f cs);simp only[←hEE,←hl,←hPB] at hE hE0 hpl hmk ⊢;obtain ⟨nm',fW,fH,reach,dark,AL,ac,la,FL,fc,lf,RL,rc,lr⟩:=f;simp only at e1 hE hE0;let w1:=((w).alloc (.cells #[nm',fW,fH,reach,dark,.slice AL la.length ac,.slice FL lf.length fc,.slice RL lr.length rc] 26)).alloc (.cells #[W,H,.slice C (W*H) cc] 43);obtain ⟨w1b,w11,w12⟩:=aHP (x:=w1) w _ _ _ _ rfl;unfold Frm.val at hck hfa hpl hmk;have k1:=w11.all8;have k2:=w12.all3;obtain ⟨dM,Hck,Hfa,Hpl,Hmk,HF,HR,HE⟩:=aHN w1b (hck w1 (hF.bl w1b) (hN.bl w1b) (hC.bl w1b)) hfa hpl hmk (hF.bl w1b) (hR.bl w1b) hE;have HE0:=aHH hE0;unfold Frm.val;clear w1b hE hE0 hck hfa hpl hmk hF hN hC hS hR hEE hl hPB LX hf dW heW hs hdk e1
 go_in
 go_upto_region 1 with fail;rw[show (w.alloc (.cells #[nm',fW,fH,reach,dark,.slice AL la.length ac,.slice FL lf.length fc,.slice RL lr.length rc] 26)).alloc (.cells #[W,H,.slice C (W*H) cc] 43)=w1 from rfl];clear_value w1;go_upto_region 2 with (go_at_call 74;refine Hck.out.mono ?_;rintro e w2 ⟨rfl,hb2⟩);have k1:=(w11.bl hb2).all8;have Hb2:=aHH hb2;clear hb2 k2;go_upto_region 5 with (go_at_call 75;refine (Hfa.out _ (HF.out.bl Hb2.out)).mono ?_;rintro e w3 ⟨ix,rfl,hix,hb3⟩);have Hb3:=aHH (Hb2.out.trans hb3);have k1:=(w11.bl Hb3.out).all8;have k2:=(w12.bl Hb3.out).all3;clear hb3;rcases BS hix with ⟨h0,hk⟩|⟨j,x,rfl,hjx,hk⟩
 ·have hE:=HE0.out hk;subst hE;clear hk hix;go_wp2_with fail
  go_ret2
  exact ⟨⟨none,0,0,rfl,fun _=>rfl,fun h=>absurd h (by decide)⟩,dM.out.trans Hb3.out⟩
 ·obtain ⟨hE,hlx⟩:=HE.out x hk;have hxm:x∈lf:=List.mem_of_getElem? hjx;obtain ⟨adF,eF,f1,f2,f3,f4,f5,f6,f7,f8,f9⟩:=FldsAt.at_ (HF.out.flds.bl Hb3.out) hjx;simp only at eF;subst eF;have hjl:=(aH3.1 hjx).1;have hln:lf.length≤9223372036854775807:=HF.out.fn.2;have HMx:=aHH (HF.out.flds.2 x hxm).1;obtain ⟨fP,HE2,HLx⟩:=aHI (Hmk.out x hxm) hE hlx;clear hix hk hjx hE hlx;cases hm:cC x.kind with
  |false=>
   have hE:=HE2.out;rw[hm] at hE;have hE':E=1:=hE;subst hE';clear hE;go_wp2_with (go_at_call 76;refine (jH _ _).mono ?_;rintro e w' ⟨rfl,rfl⟩;rw[hm])
   go_ret2
   exact ⟨⟨none,0,0,rfl,fun _=>rfl,fun h=>absurd h (by decide)⟩,dM.out.trans Hb3.out⟩
  |true=>
   have hE:=HE2.out;rw[hm] at hE;have hE':E=0:=hE;subst hE';clear hE HE2 HE HE0;go_upto_region 9 with (go_at_call 76;refine (jH _ _).mono ?_;rintro e w' ⟨rfl,rfl⟩;rw[hm]);refine aHZ [aHX 0,aHX 1,aHX 2,aHX 3,aHX 4,aHX 5,aHX 6,aHX 7,aHY 8,aHY 9,aHX 10,aHX 11] (by kernel_rfl) ?_
   iterate 3
    apply Flow.calm2 _ _ rfl rfl
    ·intro a b c d;obtain ⟨e,f⟩:=b.rule;go_simp;(try go_ints);exact d
    ·intro a b;simp only[sqA];exact b
   apply Flow.mv _ rfl
   ·intro a b;simp only[sqA,Act.eval,sqC];exact b
   iterate 4
    apply Flow.calm2 _ _ rfl rfl
    ·intro a b c d;obtain ⟨e,f⟩:=b.rule;go_simp;(try go_ints);exact d
    ·intro a b;simp only[sqA];exact b
   apply Flow.move rfl;go_wp2_with fail;refine (Hpl.out _ (HF.out.bl Hb3.out.drew) (HR.out.bl Hb3.out.drew)).mono ?_;rintro e w4 ⟨v4,rfl,⟨g,rfl,hg,hgl,hgn⟩,HB1⟩;have hb4:Bl _ w4:=Bl.ofDrew HB1;have hr4:=(BPage.is (B:=0) ⟨g,rfl,hg,hgl,Nat.zero_le _⟩:IsPage w4 (.agg #[W,H,.slice (some ⟨g,0,none⟩) (W*H) (W*H)]) W H (PB.map .bool));obtain ⟨A4,c4,e4,hr4⟩:=hr4;injection e4 with e4;injection e4 with e4;go_wp2_with fail;refine ⟨fun _=>(by first|exact HB1|exact Bl.refl _),?_⟩;apply Flow.move rfl;go_wp2_with fail;refine (fP.out _ _ w4 (HMx.out.bl (Hb3.out.trans hb4)) hr4).mono ?_;rintro e w5 ⟨v5,rfl,aV,HB2⟩;go_wp2_with fail;refine ⟨fun _=>(by first|exact HB2|exact Bl.refl _),?_⟩
   iterate 2
    apply Flow.asg _ rfl
    ·intro a b;simp only[sqA,Act.eval,sqC];exact b
   refine Flow.done ?_;have hb5:=Hb3.out.trans (hb4.trans HB2);obtain ⟨A5,c5,rfl,hr5⟩:=bL aV;go_wp2_with fail
   go_ret2
   exact ⟨⟨A5,_,c5,rfl,fun h=>absurd rfl h,fun _=>⟨by rw[HLx.out],by rw[HLx.out];exact hr5⟩⟩,dM.out.trans hb5⟩
theorem wC (f:Frm) (bW bH:Int) (C:Option Addr) (n cc:Nat) (cs:List Bool) (nm:List UInt8) (w:World) (hF:FrmAt w f) (hS:f.small 1048576) (hN:NumOk w) (hC:SplitOk w) (hR:Reads w 1 C n (cs.map .bool)) :
 Calls Tryz.prog 15 #[f.val,.agg #[bW,bH,.slice C n cc],nm] w fun e w'=>MarkRes (EN f bW bH n nm) (lF f cs nm) e w'∧Bl w w':=by
 unfold EN;by_cases h:mH f bW bH n=0
 ·rw[if_pos h];obtain ⟨hf,W,H,r,dW,rfl,rfl,rfl⟩:=EF h;exact I1 f W H r C cc cs nm w hf dW hF hS hN hC h hR
 ·rw[if_neg h];exact LI f bW bH C n cc nm _ w hF hS hN hC h
end Go.Proofs.YtllefinciimffaaGreatDoor
