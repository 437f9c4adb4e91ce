import Derived.Test.YtllefinciimffaaGreatDoorMClaimTopForms15
set_option maxHeartbeats 20000000
set_option maxRecDepth 100000
namespace Go.Proofs.YtllefinciimffaaGreatDoor
open Go.RowKit
def aEz : List Value → Sn
 |[.string t,.int _ X,.int _ Y,.int _ W,.int _ H,.int _ d,.int _ e]=>⟨t.data.toList,X,Y,W,H,d,e⟩
 |_=>⟨[],0,0,0,0,0,0⟩
theorem DA (s:Sn):aEz s.cells=s:=rfl
def zE (bs:List Bool) (W H:Nat) (ls:List Ltr) (most ht gs:Int):List (List Value):=cC (iR bs W H ls most ht) gs H (aB (lP bs W H) W) (aB (lP bs W H) W).length
def rC (bs:List Bool) (W H:Nat) (ls:List Ltr) (most ht gs:Int):List Sn:=(zE bs W H ls most ht gs).map aEz
structure SnLine (s:Sn):Prop where
 ok:SnOk s
 X:0≤s.X∧s.X≤4000
 Y:s.Y=0
 W:0≤s.W∧s.W≤4000
theorem DC {bs : List Bool} {W H : Nat} {ls : List Ltr} {most ht gs : Int} {ps : List Piece} (hW : W ≤ 4000) (hin : ∀ p ∈ ps, 1 ≤ p.2 ∧ p.1 + p.2 ≤ W) (hgs : 0 ≤ gs) : ∀ i, i ≤ ps.length → ∀ row ∈ cC (iR bs W H ls most ht) gs H ps i, ∃ (t : ByteArray) (X V h d e : Int), row = [.string t, .int .i64 X, .int .i64 0, .int .i64 V, .int .i64 h, .int .i64 d, .int .i64 e] ∧ (0 ≤ X ∧ X ≤ 4000) ∧ (0 ≤ V ∧ V ≤ 4000)
 |0,_,row,h=>by cases h
 |i+1,hi,row,h=>by
  have hm:∀j,j<ps.length→bD ps j∈ps:=fun j hj=>by
   unfold bD;rw[aLx,aLv hj];exact List.getElem_mem _
  have e2:cC (iR bs W H ls most ht) gs H ps (i+1)=cC (iR bs W H ls most ht) gs H ps i++(if 0<i∧gs≤iX ps i then [d8 (kV ps (i-1)) (iX ps i) H] else [])++[iR bs W H ls most ht (bD ps i)]:=rfl;rw[e2] at h;rcases aLM.1 h with h|h
  ·rcases aLM.1 h with h|h
   ·exact DC hW hin hgs i (by omega) row h
   ·split at h
    ·rename_i hc
     rw[aLQ.1 h];have h1:=hin _ (hm (i-1) (by omega));have h2:=hin _ (hm i (by omega));have h3:kV ps (i-1)=(((bD ps (i-1)).1+(bD ps (i-1)).2:Nat):Int):=(by unfold kV;simp);have h4:iX ps i=((bD ps i).1:Int)-kV ps (i-1):=rfl;exact ⟨_,_,_,_,_,_,rfl,by omega,by omega⟩
    ·cases h
  ·rw[aLQ.1 h];have h2:=hin _ (hm i (by omega));obtain ⟨t,d1,d2,hf⟩:=IP (cQ (eS (bD ps i).2 H (kR bs W (bD ps i).1 0)) (bD ps i).2 H [] ls) (bD ps i).1 (bD ps i).2 H most ht;exact ⟨_,_,_,_,_,_,hf,by omega,by omega⟩
theorem MS {bs:List Bool} {W H:Nat} {ls:List Ltr} {most ht gs:Int} (hW:W≤4000) (hH:H≤4000) (hl:∀l∈ls,(l.W≤64∧l.H≤4000)∧l.text.length≤4) (hgs:0≤gs) :
 (zE bs W H ls most ht gs).flatten=n8 (rC bs W H ls most ht gs)∧(zE bs W H ls most ht gs).length=(rC bs W H ls most ht gs).length∧(∀s∈rC bs W H ls most ht gs,SnLine s)∧(rC bs W H ls most ht gs).length≤8000:=by
 have hin:=pJ (lP bs W H) W;have hpl:=qF (lP bs W H) W;obtain ⟨ss,e,hs,hn⟩:=VS (bs:=bs) (W:=W) (H:=H) (most:=most) (ht:=ht) (gs:=gs) (ps:=aB (lP bs W H) W) hH hl (fun p hp=>by have:=hin p hp;omega) _ (Nat.le_refl _);have hS:rC bs W H ls most ht gs=ss:=by
  unfold rC zE;rw[e,aMg];exact List.map_id'' (fun s=>DA s) ss
 have hV:zE bs W H ls most ht gs=ss.map Sn.cells:=e;rw[hS];refine ⟨by rw[hV];exact aAB ss,by rw[hV,aLz],fun s hm => ?_,by omega⟩;obtain ⟨t,X,V,h,d,e',he,h1,h2⟩:=DC (bs:=bs) (H:=H) (ls:=ls) (most:=most) (ht:=ht) (gs:=gs) hW hin hgs _ (Nat.le_refl _) s.cells (by rw[e];exact List.mem_map_of_mem hm);unfold Sn.cells at he;simp only[List.cons.injEq,Value.int.injEq,true_and,and_true] at he;obtain ⟨-,hX,hY,hV',-⟩:=he;exact ⟨hs s hm,by rw[hX];exact h1,hY,by rw[hV'];exact h2⟩
def mG (bs:List Bool) (W:Nat) (dark:Int) (b:Bx):Bool:=decide (dark*b.W*b.H≤(U4 bs W b.X.toNat b.Y.toNat b.W.toNat b.H.toNat:Int)*1000)
def eJ (bs : List Bool) (W : Nat) (dark : Int) (ms : List Bx) : Nat → List Int
 |0=>[]
 |i+1=>eJ bs W dark ms i++(match ms[i]? with|none=>[]|some b=>if mG bs W dark b=true then [(i:Int)] else [])
theorem tL {bs:List Bool} {W:Nat} {dark:Int} {ms:List Bx} {i:Nat} {b:Bx} (h:ms[i]? = some b):eJ bs W dark ms (i+1)=eJ bs W dark ms i++(if mG bs W dark b=true then [(i:Int)] else []):=by
 show eJ bs W dark ms i++(match ms[i]? with|none=>[]|some b=>if mG bs W dark b=true then [(i:Int)] else [])=_;rw[h]
theorem mI (bs : List Bool) (W : Nat) (dark : Int) (ms : List Bx) : ∀ i, (eJ bs W dark ms i).length ≤ i
 |0=>Nat.le_refl _
 |i+1=>by
  have ih:=mI bs W dark ms i;show (eJ bs W dark ms i++(match ms[i]? with|none=>[]|some b=>if mG bs W dark b=true then [(i:Int)] else [])).length≤_;rw[aLy];split
  ·simp;omega
  ·split<;>simp<;>omega
def gU (s:Sn):Bool:=decide (s.t=[32])
def jO (ss : List Sn) : Nat → Int
 |0=>0
 |i+1=>jO ss i+(match ss[i]? with|none=>0|some s=>if gU s=true then 0 else s.W)
def mJ (ss : List Sn) : Nat → Int
 |0=>0
 |i+1=>mJ ss i+(match ss[i]? with|none=>0|some s=>if gU s=true then 0 else 1000*max s.d 0)
def oT (ss : List Sn) : Nat → Bool
 |0=>false
 |i+1=>oT ss i||(match ss[i]? with|none=>false|some s => !gU s&&decide (s.d<0))
theorem oG {ss:List Sn} {i:Nat} {s:Sn} (h:ss[i]? = some s):jO ss (i+1)=jO ss i+if gU s=true then 0 else s.W:=by
 show _+(match ss[i]? with|none=>(0:Int)|some s=>if gU s=true then 0 else s.W)=_;rw[h]
theorem rZ {ss:List Sn} {i:Nat} {s:Sn} (h:ss[i]? = some s):mJ ss (i+1)=mJ ss i+if gU s=true then 0 else 1000*max s.d 0:=by
 show _+(match ss[i]? with|none=>(0:Int)|some s=>if gU s=true then 0 else 1000*max s.d 0)=_;rw[h]
theorem zF {ss:List Sn} {i:Nat} {s:Sn} (h:ss[i]? = some s):oT ss (i+1)=(oT ss i||(!gU s&&decide (s.d<0))):=by
 show (_||(match ss[i]? with|none=>false|some s => !gU s&&decide (s.d<0)))=_;rw[h]
theorem JF {ss : List Sn} (hs : ∀ s ∈ ss, SnLine s) : ∀ i, 0 ≤ jO ss i ∧ jO ss i ≤ 4000 * i
 |0=>by simp[jO]
 |i+1=>by
  have ih:=JF hs i;cases hg:ss[i]? with
  |none=>
   have e:jO ss (i+1)=jO ss i:=by
    show _+(match ss[i]? with|none=>(0:Int)|some s=>if gU s=true then 0 else s.W)=_;rw[hg];simp
   rw[e];omega
  |some s=>have h:=(hs s (List.mem_of_getElem? hg)).W;rw[oG hg];split<;>omega
theorem JG {ss : List Sn} (hs : ∀ s ∈ ss, SnLine s) : ∀ i, 0 ≤ mJ ss i ∧ mJ ss i ≤ 32000000000 * i
 |0=>by simp[mJ]
 |i+1=>by
  have ih:=JG hs i;cases hg:ss[i]? with
  |none=>
   have e:mJ ss (i+1)=mJ ss i:=by
    show _+(match ss[i]? with|none=>(0:Int)|some s=>if gU s=true then 0 else 1000*max s.d 0)=_;rw[hg];simp
   rw[e];omega
  |some s=>have h:=(hs s (List.mem_of_getElem? hg)).ok.2.1;rw[rZ hg];split<;>omega
def JH (ht:Int) (ss:List Sn):List UInt8 × Int:=
 if jO ss ss.length=0 then ([],1000) else if oT ss ss.length=true then (gF ss,0) else (gF ss,max (1000-mJ ss ss.length / (ht*jO ss ss.length)) 0)
end Go.Proofs.YtllefinciimffaaGreatDoor
namespace Go.Proofs.YtllefinciimffaaGreatDoor
open Go.RowKit Go.Shelf
theorem aDe (bs:List Bool) (W X Y BW BH:Nat):U4 bs W X Y BW BH≤BH*BW:=by
 unfold U4;refine rR (c:=BW) (fun j => ?_) BH;have:=rR (f:=fun i=>b1 (pix bs W (X+i) (Y+j))) (c:=1) (fun i=>GX _) BW;omega
def MarksOk (ms:List Bx) (W H:Nat):Prop:=∀b∈ms,∃X Y bw bh:Nat,b=⟨X,Y,bw,bh⟩∧1≤bw∧1≤bh∧X+bw≤W∧Y+bh≤H
theorem JI {cs:List Bool} {W:Nat} {dark:Int} {X Y bw bh:Nat}:mG cs W dark ⟨X,Y,bw,bh⟩=decide (dark*(bw:Int)*(bh:Int)≤(U4 cs W X Y bw bh:Int)*1000):=rfl
theorem aDf {dark:Int} (hd:1≤dark∧dark≤1000) {bw bh W H:Nat} (h1:bw≤W) (h2:bh≤H) (h3:W*H≤1048576) (h4:W≤4000):(0≤dark*(bw:Int)∧dark*(bw:Int)≤4000000)∧(0≤dark*(bw:Int)*(bh:Int)∧dark*(bw:Int)*(bh:Int)≤1048576000):=by
 have hm:bw*bh≤1048576:=aMb (aMa h1 h2) h3;have e:((bw*bh:Nat):Int)=(bw:Int)*(bh:Int):=aL9 ..;refine ⟨⟨Int.mul_nonneg (by omega) (by omega),?_⟩,Int.mul_nonneg (Int.mul_nonneg (by omega) (by omega)) (by omega),?_⟩
 ·exact Int.le_trans (Int.mul_le_mul hd.2 (show (bw:Int)≤4000 by omega) (by omega) (by decide)) (by decide)
 ·rw[Int.mul_assoc,←e];exact Int.le_trans (Int.mul_le_mul hd.2 (show ((bw*bh:Nat):Int)≤1048576 by omega) (by omega) (by decide)) (by decide)
theorem SU (f:Frm) (x:Fld) (W H:Nat) (C:Option Addr) (cc:Nat) (cs:List Bool) (w:World) (hs:aE (W:Int) (H:Int)=0) (hM:BxsAt w x.M x.marks) (hmk:MarksOk x.marks W H) (aDP:x.marks.length≤20) (hd:1≤f.dark∧f.dark≤1000) (hC:Reads w 1 C (W*H) (cs.map .bool)) :
 Calls Tryz.prog 77 #[f.val,x.val,.agg #[W,H,.slice C (W*H) cc]] w fun e w'=>∃v,e=.returned v∧w'.ownsRow w.heap.size 3 1 v (eJ cs W f.dark x.marks x.marks.length).length ((eJ cs W f.dark x.marks x.marks.length).map (.int .i64))∧Bl w w':=by
 have hz:=aL hs;have hW4:W≤4000:=(by omega);have hWH:W*H≤1048576:=(by have:=aL9 W H;omega);have hp:aD (W:Int) (H:Int) (W*H)=0:=(by unfold aD;rw[if_pos hs,if_pos (by simp)]);have hik:=fun (X Y bw bh:Nat) (wx:World) (hx:Reads wx 1 C (W*H) (cs.map .bool)) (h1:1≤bw) (h2:1≤bh) (h3:X+bw≤W) (h4:Y+bh≤H)=>show Calls Tryz.prog 135 #[.agg #[W,H,.slice C (W*H) cc],.agg #[X,Y,bw,bh]] wx fun e w'=>e=.returned (.tuple #[.int .i64 (U4 cs W X Y bw bh),.int .i64 0])∧Bl wx w' from
  (aCH (W:Int) (H:Int) C (W*H) cc cs X Y bw bh wx hx).mono fun e w' ⟨n,he,_,hn,hb⟩=>by
    have h0:fO (W:Int) (H:Int) (W*H) (X:Int) (Y:Int) (bw:Int) (bh:Int)=0:=by
     unfold fO;rw[hp,show eX (X:Int) (Y:Int) (bw:Int) (bh:Int) (W:Int) (H:Int)=true from aLX (by omega)];rfl
    have h5:=hn h0;simp only[aL8] at h5;rw[he,h0,h5];exact ⟨rfl,hb⟩
 obtain ⟨MT,hMT⟩:=aLt (eJ cs W f.dark x.marks);rw[←hMT];have hML:=fun i=>mI cs W f.dark x.marks i;have hMS:=fun i b (h:x.marks[i]? = some b)=>tL (bs:=cs) (W:=W) (dark:=f.dark) h;simp only[←hMT] at hML hMS;have hM0:MT 0=[]:=(by rw[hMT];rfl);obtain ⟨nm,fW,fH,reach,dark,AL,ac,la,FL,fc,lf,RL,rc,lr⟩:=f;obtain ⟨xn,xk,xb,M,mc,ms,xm,xd⟩:=x;simp only at hM hmk aDP hd hMS;show Calls _ _ _ w fun e w'=>∃v,e=.returned v∧w'.ownsRow w.heap.size 3 1 v (MT ms.length).length ((MT ms.length).map (.int .i64))∧Bl w w';unfold Frm.val Fld.val;let w1:=(((w).alloc (.cells #[nm,fW,fH,reach,dark,.slice AL la.length ac,.slice FL lf.length fc,.slice RL lr.length rc] 26)).alloc (.cells #[xn,xk,xb.X,xb.Y,xb.W,xb.H,.slice M ms.length mc,xm,.bool xd] 61)).alloc (.cells #[W,H,.slice C (W*H) cc] 43);obtain ⟨w1b,w11,w12,w13⟩:=aLj (x:=w1) w _ _ _ _ _ _ rfl;obtain ⟨HM,HC,HIk,HML,HMS,HM0,HMk⟩:=aLf (hM.bl w1b) (hC.bl w1b) hik hML hMS hM0 hmk;have k1:=w11.all8;have k2:=w12.all9;have k3:=w13.all3;have dV:=aLa w1b;have aE9:=w1b.le;clear hM hC hik hML hMS hMT hM0 hmk w1b hs hz hp
 go_in
 go_upto_region 1 with fail;rw[show ((w.alloc (.cells #[nm,fW,fH,reach,dark,.slice AL la.length ac,.slice FL lf.length fc,.slice RL lr.length rc] 26)).alloc (.cells #[xn,xk,xb.X,xb.Y,xb.W,xb.H,.slice M ms.length mc,xm,.bool xd] 61)).alloc (.cells #[W,H,.slice C (W*H) cc] 43)=w1 from rfl];clear_value w1;go_wp2_with fail;go_loopw [7,15] (fun s u wr=>∃i:Nat,i≤ms.length∧u=.int .i64 i∧Bl w1 wr∧wr.ownsRow w1.heap.size 3 1 s (MT i).length ((MT i).map (.int .i64))) (fun _ u _=>ms.length-(RowKit.intOf u).toNat);case atStart=>exact ⟨0,Nat.zero_le _,rfl,Bl.refl _,by rw[HM0.out];exact World.ownsRow_nil _ _ _ _⟩
 case round=>
  obtain ⟨i,hi,rfl,hb,cA⟩:=hrel;have k1:=(w11.bl hb).all8;have k2:=(w12.bl hb).all9;have k3:=(w13.bl hb).all3;have Hb:=aLa hb;have HO:=aLa cA;clear hb cA;by_cases hlt:i<ms.length
  ·have hg:ms[i]? = some ms[i]:=aLv hlt;obtain ⟨b,hb0⟩:=aLt (ms[i]);rw[←hb0] at hg;obtain ⟨X,Y,bw,bh,rfl,hw1,hh1,hXW,hYH⟩:=HMk.out b (List.mem_of_getElem? hg);have hst:=HMS.out i _ hg;rw[JI] at hst;obtain ⟨ad,eM,c1,c2,c3,c4⟩:=BxsAt.at_ (HM.out.bl Hb.out) hg;subst eM;simp only at c1 c2 c3 c4;have hbd:=aDf hd (show bw≤W by omega) (show bh≤H by omega) hWH hW4;have aJ5:U4 cs W X Y bw bh≤1048576:=aMb (aDe cs W X Y bw bh) (aMb (aMa (show bh≤H by omega) (show bw≤W by omega)) (by rw[Nat.mul_comm];exact hWH));have dF:=fun wx hx=>HIk.out X Y bw bh wx hx hw1 hh1 hXW hYH;obtain ⟨n,hn⟩:=aLt (U4 cs W X Y bw bh);rw[←hn] at hst aJ5;simp only[←hn] at dF;have m8:=aLa dF;have Hst:=aLa hst;have hni:=HML.out i;have hni1:=HML.out (i+1);clear hg hb0 dF hst hn;go_upto_region 5 with fail;obtain ⟨w2,hw2⟩:=aLt (wr.alloc (.cells #[X,Y,bw,bh] 58));have b2:=aLo hw2;have hb2:=aLn hw2;rw[←hw2];have Hb2:=aLa (Hb.out.trans hb2);have Hr2:=aLa hb2;have k1:=(w11.bl Hb2.out).all8;have k3:=(w13.bl Hb2.out).all3;have k4:=b2.all4;have B2:=aLa b2;clear hw2 b2 hb2 c1 c2 c3 c4 k2;go_upto_region 6 with (go_at_call 135;refine (m8.out _ (HC.out.bl Hb2.out)).mono ?_;rintro e w3 ⟨rfl,hb3⟩);have Hb3:=aLa (Hb2.out.trans hb3);have k1:=(w11.bl Hb3.out).all8;have k4:=(B2.out.bl hb3).all4;have HO3:=aLa (fX HO.out (Hr2.out.trans hb3));have Hr3:=aLa hb3;clear k3 hb3;by_cases ht:dark*(bw:Int)*(bh:Int)≤(n:Int)*1000
   ·rw[aLX ht] at Hst;have hsx:MT (i+1)=MT i++[(i:Int)]:=Hst.out;have Hsx:=aLa hsx;have hl3:=Hb3.out.le;clear Hst hsx;go_wp2_with (at_builtin;refine dJ (w1:=w1) rfl (.tmp 37) (.tmp 39) 47 rfl 3 (.int .i64 0) 8 Tryz.underlying47 sR rfl w1.heap.size _ (MT i).length _ rfl (.int .i64 i) rfl rfl Hb3.out (Nat.le_refl _) hl3 HO3.out (by omega) (by unfold maxLen;omega) ?_;intro v' w8 cF hb8 hg8);go_wp2_with fail;exact ⟨⟨i+1,hlt,by go_num,hb8,by rw[Hsx.out,aLy,aLS];exact cF⟩,by simp[RowKit.intOf];omega⟩
   ·rw[aLW ht] at Hst;have hsx:MT (i+1)=MT i:=(by rw[Hst.out];simp);have Hsx:=aLa hsx;clear Hst hsx;go_wp2_with fail;exact ⟨⟨i+1,hlt,by go_num,Hb3.out,by rw[Hsx.out];exact HO3.out⟩,by simp[RowKit.intOf];omega⟩
  ·obtain rfl:i=ms.length:=(by omega);go_wp2_with fail;go_ret;exact ⟨_,rfl,aAw HO.out aE9,dV.out.trans Hb.out⟩
end Go.Proofs.YtllefinciimffaaGreatDoor
