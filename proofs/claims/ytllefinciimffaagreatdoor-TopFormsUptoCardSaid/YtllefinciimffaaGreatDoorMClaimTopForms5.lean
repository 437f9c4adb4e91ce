import Derived.Test.YtllefinciimffaaGreatDoorMClaimTopForms2
import Derived.Laws.BitsLemmas
import Derived.Laws.EntriesVeiled
import Derived.Lib.Split
import Derived.Lib.CountLaws
import Derived.Lib.IndexMore
import Derived.Ground.NamesProg
import Derived.Shelf.Lay
import Derived.Shelf.Strings.SlTrimAscii
import Derived.ProofKit
import Derived.OpenShut
import Derived.Lib.SmallJoins
set_option maxHeartbeats 20000000
set_option maxRecDepth 100000
namespace Go.Proofs.YtllefinciimffaaGreatDoor
open Go.RowKit
def BPage (B:Nat) (w:World) (v:Value) (W H:Nat) (bs:List Bool):Prop:=∃g,v=.agg #[W,H,.slice (some ⟨g,0,none⟩) (W*H) (W*H)]∧Blk w g 4 (bs.map Value.bool).toArray∧bs.length=W*H∧B≤g
theorem BPage.is {B:Nat} {w:World} {v:Value} {W H:Nat} {bs:List Bool} (h:BPage B w v W H bs):IsPage w v W H (bs.map .bool):=by
 obtain ⟨g,e,hb,hl,-⟩:=h;exact ⟨_,_,e,by have:=hb.reads (W*H) 1 (by simp[hl]);simpa using this⟩
theorem BPage.bl {B:Nat} {w w':World} {v:Value} {W H:Nat} {bs:List Bool} (h:BPage B w v W H bs) (hb:Bl w w'):BPage B w' v W H bs:=
 let ⟨g,e,hg,hl,hn⟩:=h
 ⟨g,e,hg.bl hb,hl,hn⟩
theorem BPage.mono {B B':Nat} {w:World} {v:Value} {W H:Nat} {bs:List Bool} (h:BPage B w v W H bs) (hb:B'≤B):BPage B' w v W H bs:=
 let ⟨g,e,hg,hl,hn⟩:=h
 ⟨g,e,hg,hl,aMb hb hn⟩
theorem II (W H:Nat) (f:Nat→Nat→Bool) (k:FuncId) (cap:Array Value) (w:World) (hW:W≤1048576) (hH:H≤1048576) (hWH:W*H≤1048576) (hk:Paints Tryz.prog k cap Value.bool w W H f) :
 Calls Tryz.prog 103 #[W,H,.func (.func k) #[] cap] w fun e w'=>∃v,e=.returned v∧BPage w.heap.size w' v W H (eS W H f)∧Bl w w':=by
 have hmk:=run_make_row' (P:=Tryz.prog) 41 4 (.bool false) 1 Tryz.underlying41 sS rfl .i64 .i64 (W*H) (by omega) (by omega);have aEQ:=hk.1;have eWH:(W:Int)*(H:Int)=((W*H:Nat):Int):=(by simp);have h1:(0:Int)≤(W:Int)*(H:Int):=(by omega);have h2:(W:Int)*(H:Int)≤1048576:=(by omega);rw[←eWH] at hmk;have EWH:=aLa eWH;clear eWH;have inv0:=aLa (madeInv.start w W H f)
 go_in
 go_wp2_with fail;go_loopw [18] (fun v wr=>∃y:Nat,y≤H∧v=.int .i64 y∧madeInv w W H f wr (y*W)) (fun v _=>H-(intOf v).toNat);case atStart=>exact ⟨0,Nat.zero_le _,rfl,by simpa using inv0.out⟩
 case round=>
  obtain ⟨y,hy,rfl,uD⟩:=hrel;by_cases hlt:y<H
  ·go_wp2_with fail;go_loopw [22] (fun v w2=>∃x:Nat,x≤W∧v=.int .i64 x∧madeInv w W H f w2 (y*W+x)) (fun v _=>W-(intOf v).toNat);case atStart=>exact ⟨0,Nat.zero_le _,rfl,by simpa using uD⟩
   case round=>
    obtain ⟨x,hx,rfl,GM⟩:=hrel;by_cases wU:x<W
    ·obtain ⟨hbl,⟨cs,GN,hsz,hcs⟩,hb2,hb0⟩:=GM;have ex:(y*W+x) % W=x:=(by rw[Nat.mul_comm,Nat.mul_add_mod,Nat.mod_eq_of_lt wU]);have ey:(y*W+x) / W=y:=(by rw[Nat.mul_comm,Nat.mul_add_div (by omega),Nat.div_eq_of_lt wU,Nat.add_zero]);have aCn:=eD wU hlt;obtain ⟨i,hi⟩:=aLt (y*W+x);have e1:(y:Int)*(W:Int)+(x:Int)=(i:Int):=(by rw[hi];simp);rw[←hi] at aCn ex ey hcs;have k2:=hb2.all3;obtain ⟨vi,ci⟩:∃v,wr.cell? ⟨w.heap.size+1,i,none⟩=some v:=⟨cs[i]'(by omega),by rw[GN.cell];simp⟩;have fi:=GN.frozen i;have hi2:(i:Int)<(W:Int)*(H:Int):=(by have:=EWH.out;omega);have h3:(0:Int)≤(y:Int)*(W:Int)∧(y:Int)*(W:Int)≤1048576:=(by have:=aL9 y W;have:=EWH.out;omega);obtain ⟨Hi,Hcs,Hex,Hey⟩:=aLc hi hcs ex ey;clear hi hcs ex ey;go_wp2_with fail;refine aA [(true,0),(true,1),(true,2),(true,3),(true,4),(true,5),(true,6),(true,7),(true,8),(true,9),(false,10),(true,11),(false,12)] (fun i=>i==12) (by kernel_rfl) (by kernel_rfl) (by kernel_rfl) (by kernel_rfl) ?_
     iterate 2
      apply Flow.calm2 _ _ rfl rfl
      ·intro a b c d;obtain ⟨e,f⟩:=b.rule;go_simp;(try go_ints);exact d
      ·intro a b;simp only[sqA];exact b
     iterate 2
      apply Flow.mv _ rfl
      ·intro a b;simp only[sqA,Act.eval,sqC];exact b
     apply Flow.calm2 _ _ rfl rfl
     ·intro a b c d;obtain ⟨e,f⟩:=b.rule;go_simp;(try go_ints);exact d
     ·intro a b;simp only[sqA];exact b
     apply Flow.mv _ rfl
     ·intro a b;simp only[sqA,Act.eval,sqC];exact b
     apply Flow.calm2 _ _ rfl rfl
     ·intro a b c d;obtain ⟨e,f⟩:=b.rule;go_simp;(try go_ints);exact d
     ·intro a b;simp only[sqA];exact b
     iterate 3
      apply Flow.mv _ rfl
      ·intro a b;simp only[sqA,Act.eval,sqC];exact b
     apply Flow.move rfl;go_wp2_with fail;refine (hk.2 _ _ _ (hbl.trans (Bl.refl _).drew) wU hlt).mono ?_;rintro e w3 ⟨rfl,HB1⟩;obtain ⟨hc3,hf3⟩:=HB1.rule;go_wp2_with fail;refine ⟨fun _=>(by first|exact HB1|exact Bl.refl _),?_⟩;apply Flow.calm2 _ _ rfl rfl
     ·intro a b c d;obtain ⟨e,f⟩:=b.rule;go_simp;(try go_ints);exact d
     ·intro a b;simp only[sqA];exact b
     refine Flow.tail _ rfl ?_;go_wp2_with fail;have hb4:Bl wr w3:=((Bl.refl _).drew).trans HB1;have hst:madeInv w W H f (w3.setCell ⟨w.heap.size+1,i,none⟩ (Value.bool (f x y))) (i+1):=by
      refine ⟨(hbl.trans hb4).setCell (by simp) _,⟨_,(GN.bl hb4).set_ i _,by simpa using hsz,fun j hj => ?_⟩,(hb2.bl hb4).far (by simp) _,(hb0.bl hb4).far (by simp) _⟩;by_cases e:i=j
      ·subst e;rw[Hex.out,Hey.out];simp[hsz,aCn]
      ·rw[Array.getElem?_setIfInBounds_ne e];exact Hcs.out j (by omega)
     have Hst:=aLa hst;clear hst;exact ⟨⟨x+1,wU,by go_num,by have:=Hst.out;rw[Hi.out] at this;simpa [Nat.add_assoc,Hi.out] using this⟩,by simp[intOf];omega⟩
    ·go_wp2_with fail;exact ⟨⟨y+1,hlt,by go_num,by rw[Nat.add_mul,Nat.one_mul];rwa [show x=W by omega] at GM⟩,by simp[intOf];omega⟩
  ·have k2:=uD.2.2.1.all3;have k0:=uD.2.2.2.all3;go_wp2_with fail;refine aL0 (v:=.agg #[W,H,.slice (some ⟨w.heap.size+1,0,none⟩) (W*H) (W*H)]) (by simp[results,Tryz.results103,go_sem,k0]) rfl ?_;obtain ⟨hbl,⟨cs,GN,hsz,hcs⟩,_,_⟩:=uD;refine ⟨_,rfl,⟨_,rfl,?_,fI _ _ _,by simp⟩,?_⟩
   ·have hb':=((GN.far (p:=⟨w.heap.size,0,none⟩) (by simp) (.int .i64 W)).far (p:=⟨w.heap.size,1,none⟩) (by simp) (.int .i64 H)).far (p:=⟨w.heap.size,2,none⟩) (by simp) (.slice (some ⟨w.heap.size+1,0,none⟩) (W*H) (W*H));have hl:cs.toList=(eS W H f).map Value.bool:=by
     apply List.ext_getElem?;intro i;rcases Nat.lt_or_ge i (W*H) with h|h
     ·rw[aLG,uF W H f i h];have:=hcs i (by have:=Nat.mul_comm W H;rw[show y=H by omega];omega);simpa using this
     ·rw[aL5 (by simpa [hsz] using h),aL5 (by simpa [fI] using h)]
    rw[←hl];exact hb'
   ·exact ((hbl.setCell (by simp) _).setCell (by simp) _).setCell (by simp) _
theorem yK (W H:Nat) (w:World) (hs:aE W H=0) :
 Calls Tryz.prog 34 #[W,H] w fun e w'=>
  ∃v,e=.returned (.tuple #[v,.int .i64 0])∧BPage w.heap.size w' v W H (List.replicate (W*H) false)∧Bl w w':=by
 have hz':=aL hs;have hWH:(W:Int)*(H:Int)=((W*H:Nat):Int):=(by simp);have h1:(0:Int)≤(W:Int)*(H:Int):=(by omega);have h2:(W:Int)*(H:Int)≤1048576:=(by omega);have hN:W*H≤1048576:=(by omega);have hmk:=run_make_row' (P:=Tryz.prog) 41 4 (.bool false) 1 Tryz.underlying41 sS rfl .i64 .i64 (W*H) (by omega) (by omega);rw[←hWH] at hmk;have hq:(aE W H != 0)=false:=(by simp[hs]);have HS:=aLa hs;have HWH:=aLa hWH;clear hs hWH
 go_in
 go_wp2_with (go_at_call 102;refine (d9 _ _ _).mono ?_;rintro e w1 ⟨rfl,rfl⟩);have hm:madeCells #[.bool false] (W*H)=Array.replicate (W*H) (.bool false):=by
  apply Array.ext_getElem?;intro i;rcases Nat.lt_or_ge i (W*H) with h|h
  ·simp[madeCells,h,Nat.mod_one]
  ·rw[Array.getElem?_eq_none (by rw[size_madeCells];exact h),Array.getElem?_eq_none (by simpa using h)]
 rw[hm];refine aL0 (v:=.tuple #[.agg #[W,H,.slice (some ⟨w.heap.size+1,0,none⟩) (W*H) (W*H)],.int .i64 0]) (by simp[results,Tryz.results34,go_sem]) rfl ⟨_,rfl,⟨_,rfl,?_,by simp,by simp⟩,?_⟩
 ·have hb:=Blk.new (w.alloc (.cells #[W,H,.slice (some ⟨w.heap.size+1,0,none⟩) (W*H) (W*H)] 43)) 4 (Array.replicate (W*H) (.bool false));simpa using hb
 ·repeat' (first|exact Bl.refl _|refine Bl.drew ?_|refine Bl.setCell ?_ (by simp) _|refine Bl.alloc ?_ _)
theorem qI (bW bH cW cH : Nat) (bv cv : Value) (bs cs : List Bool) (x y : Int) (w : World) (hA : IsPage w bv bW bH (bs.map .bool)) (hC : IsPage w cv cW cH (cs.map .bool))
 (e1:aE bW bH=0) (e2:aE cW cH=0) (_hx:-9223372036854775808≤x∧x≤9223372036854775807) (_hy:-9223372036854775808≤y∧y≤9223372036854775807) :
 Calls Tryz.prog 35 #[bv,cv,x,y] w fun e w'=>∃v,e=.returned (.tuple #[v,.int .i64 0])∧BPage w.heap.size w' v bW bH (eS bW bH (fZ bs cs bW bH cW cH x y))∧Bl w w':=by
 obtain ⟨A,bc,rfl,hA⟩:=hA;obtain ⟨C,cc,rfl,hC⟩:=hC;have z1:=aL e1;have z2:=aL e2;have p1:aD bW bH (bW*bH)=0:=(by unfold aD;rw[if_pos e1,if_pos (by simp)]);have p2:aD cW cH (cW*cH)=0:=(by unfold aD;rw[if_pos e2,if_pos (by simp)]);have hbd:bW*bH≤1048576:=(by have:=aL9 bW bH;omega);have ub1:1≤bW∧bW≤4000:=(by omega);have ub2:1≤bH∧bH≤4000:=(by omega);have uc1:1≤cW∧cW≤4000:=(by omega);have uc2:1≤cH∧cH≤4000:=(by omega);obtain ⟨E1,E2,P1,P2⟩:=aLc e1 e2 p1 p2;clear e1 e2 z1 z2;let w6:=((((((w).alloc (.cells #[bW,bH,.slice A (bW*bH) bc] 43)).alloc (.cells #[cW,cH,.slice C (cW*cH) cc] 43)).alloc (.cells #[x] 3)).alloc (.cells #[y] 3)).alloc (.cells #[.int .i64 0,.int .i64 0,.slice none 0 0] 43)).alloc (.cells #[bW,bH,.slice A (bW*bH) bc,cW,cH,.slice C (cW*cH) cc] 43);obtain ⟨w6b,w61,w62,w63,w64,w65,w66⟩:=aLm (x:=w6) w _ _ _ _ _ _ _ _ _ _ _ _ rfl
 go_in
 go_wp2_with fail;refine wp_loop_rounds 3 ?_;rw[rounds_succ];go_wp2_with fail;refine (bM _ _ _ _ _ _).mono ?_;rintro e w7 ⟨rfl,hb7⟩;have QJ:Bl w6 w7:=((Bl.refl w6).alloc _).trans hb7;have a6:=(w66.bl QJ).all6;have l7:w.heap.size+5<w7.heap.size:=(by have:=(w66.bl QJ).lt;simpa using this);go_wp2_with fail;rw[rounds_succ];go_wp2_with fail;refine (bM _ _ _ _ _ _).mono ?_;rintro e w8 ⟨rfl,hb8⟩;have LB:Bl w6 w8:=(QJ.alloc _).trans hb8;have q1:=(w61.bl LB).all3;have q2:=(w62.bl LB).all3;have q3:=(w63.bl LB).all1;have q4:=(w64.bl LB).all1;have q5:=w65.bl LB;have hr:=q5.all3;have l1:=(w61.bl LB).lt;have l2:=(w62.bl LB).lt;have l3:=(w63.bl LB).lt;have l4:=(w64.bl LB).lt;have l5:=q5.lt;have hPA:=(hA.bl (w6b.trans LB));have hPC:=(hC.bl (w6b.trans LB));have aIb:=w6b.trans LB;generalize hB1:w61.bl LB=B1;clear hB1 a6 l7;have B2:=w62.bl LB;have B3:=w63.bl LB;have B4:=w64.bl LB;go_wp2_with fail;rw[rounds_succ];have tok:True:=trivial;have hP:=fun (ap:Bool) (hap:ap=gD bW bH cW cH x y)=>(⟨pD Tryz.func104 (by kernel_rfl) rfl,fun wx u v hb hu hv=>by
  subst hap;have hb':Bl w8 wx:=((Bl.refl w8).alloc _).trans hb;have q2:Blk (w8.alloc (.cells #[.bool (gD bW bH cW cH x y)] 4)) w8.heap.size 4 #[.bool (gD bW bH cW cH x y)]:=Blk.new _ _ _;exact QX _ _ _ _ _ bW bH cW cH A C bc cc bs cs x y u v wx (B1.bl hb') (q2.bl hb) (B3.bl hb') (B4.bl hb') (B2.bl hb') (hPA.bl hb') (hPC.bl hb') ub1.2 ub2.2 uc1.2 uc2.2 hu hv⟩ :
  Paints Tryz.prog 104 #[.pointer (some ⟨w.heap.size,0,none⟩),.pointer (some ⟨w8.heap.size,0,none⟩),.pointer (some ⟨w.heap.size+1+1,0,none⟩),.pointer (some ⟨w.heap.size+1+1+1,0,none⟩),.pointer (some ⟨w.heap.size+1,0,none⟩)] Value.bool (w8.alloc (.cells #[.bool ap] 4)) bW bH (fZ bs cs bW bH cW cH x y))
 have HP:=aLa hP;clear hP;have HPA:=aLa hPA;have HPC:=aLa hPC;clear hPA hPC B1 B2 B3 B4;go_wp2_with fail
 all_goals
  refine (II bW bH _ _ _ _ (by omega) (by omega) hbd (HP.out _ (by first|(unfold gD;rfl)|(simp[gD];omega)))).mono ?_;rintro e w9 ⟨r,rfl,hpg,hb9⟩;have kr:=((q5.alloc _).bl hb9).all3;obtain ⟨R,rfl,hR,hRl,hRn⟩:=hpg;have hb8':=aIb.le;have aES:w.heap.size+5≤R:=(by simp at hRn;omega);obtain ⟨HR,HRn,HRl⟩:=aLb hR aES hRl;clear hR hRn aES hRl;go_wp2_with fail;refine aL0 (v:=.tuple #[.agg #[bW,bH,.slice (some ⟨R,0,none⟩) (bW*bH) (bW*bH)],.int .i64 0]) (by simp[results,Tryz.results35,go_sem,kr]) rfl ⟨_,rfl,⟨R,rfl,?_,HRl.out,by have:=HRn.out;omega⟩,?_⟩
  ·have:=HRn.out;exact ((HR.out.far (by simp;omega) _).far (by simp;omega) _).far (by simp;omega) _
  ·exact ((((aIb.alloc _).trans hb9).setCell (by simp;omega) _).setCell (by simp;omega) _).setCell (by simp;omega) _
def LU : List (List UInt8) → List UInt8
 |[]=>[]
 |[x]=>x
 |x :: y :: l=>x++32 :: LU (y :: l)
theorem LV (t:List UInt8):(Lib.index t [32] = -1∧∀b∈t,b≠32)∨∃i:Nat,Lib.index t [32]=(i:Int)∧i<t.length∧t=t.take i++32 :: t.drop (i+1)∧∀b∈t.take i,b≠32:=by
 have occ:∀j (hj:j<t.length),Lib.occAt t [32] j=decide (t[j]=32):=fun j hj=>by
  rw[Lib.occAt_iff_take _ _ _ (by simp;omega),aL7 hj];have e:List.take [(32:UInt8)].length (t[j] :: t.drop (j+1))=[t[j]]:=rfl;rw[e,Bool.eq_iff_iff,beq_iff_eq,decide_eq_true_eq];constructor
  ·intro h;injection h
  ·intro h;rw[h]
 rcases Lib.index_spec t [32] with ⟨h,hn⟩|⟨i,h,hi,ho,hno⟩
 ·refine .inl ⟨h,fun b hb e => ?_⟩;obtain ⟨j,hj,hb'⟩:=List.mem_iff_getElem.1 hb;have h1:=hn j (by omega);rw[occ j hj,hb',e] at h1;cases h1
 ·have hlt:i<t.length:=by
   rcases Lib.occAt_room ho with h5|h5
   ·have h6:i+1≤t.length:=h5;omega
   ·cases h5
  refine .inr ⟨i,h,hlt,?_,fun b hb e => ?_⟩
  ·rw[occ i hlt] at ho;have h2:t[i]=32:=aLY ho;conv=>lhs;rw[←aLK i t]
   rw[aL7 hlt,h2]
  ·obtain ⟨j,hj,hb'⟩:=List.mem_iff_getElem.1 hb;have hj2:j<i:=(by rw[aLA] at hj;omega);have h1:=hno j hj2;rw[occ j (by omega)] at h1;rw[List.getElem_take] at hb';rw[hb',e] at h1;cases h1
def cV (t:List UInt8):List (List UInt8):=Lib.split t [32]
theorem vX {t:List UInt8} (h:Lib.index t [32] = -1):cV t=[t]:=by
 unfold cV Lib.split;rw[Lib.count_miss h];rfl
theorem LW {t:List UInt8} {i:Nat} (h:Lib.index t [32]=(i:Int)):cV t=t.take i :: cV (t.drop (i+1)):=by
 unfold cV Lib.split;rw[Lib.count_hit (by simp) h,Nat.add_comm];show (if Lib.index t [32]==-1 then [t] else t.take ((Lib.index t [32]).toNat+0) :: Lib.splitK [32] 0 _ (t.drop ((Lib.index t [32]).toNat+[32].length)))=_;rw[h,if_neg (by rw[beq_iff_eq];omega)];simp
theorem vY:∀(n:Nat) (t:List UInt8),t.length≤n→cV t≠[]∧LU (cV t)=t∧∀x∈cV t,∀b∈x,b≠32:=by
 intro n;induction n with
 |zero=>intro t h;have:t=[]:=List.eq_nil_of_length_eq_zero (by omega);subst this;rw[vX rfl];exact ⟨by simp,rfl,fun x hx b hb=>by rw[aLQ.1 hx] at hb;cases hb⟩
 |succ n ih=>
  intro t h;rcases LV t with ⟨h1,h2⟩|⟨i,h1,hi,h2,h3⟩
  ·rw[vX h1];exact ⟨by simp,rfl,fun x hx b hb=>h2 b (by rw[aLQ.1 hx] at hb;exact hb)⟩
  ·obtain ⟨a1,a2,a3⟩:=ih (t.drop (i+1)) (by rw[aLJ];omega);rw[LW h1];refine ⟨by simp,?_,fun x hx b hb => ?_⟩
   ·cases hw:cV (t.drop (i+1)) with
    |nil=>exact absurd hw a1
    |cons y l=>show t.take i++32 :: LU (y :: l)=t;rw[←hw,a2];exact h2.symm
   ·rcases aLN.1 hx with rfl|hx
    ·exact h3 b hb
    ·exact a3 x hx b hb
end Go.Proofs.YtllefinciimffaaGreatDoor
namespace Go.Proofs
open Go.Shelf
def Tryz.lays160_ren:Go.Shelf.Ren:=⟨fun|160=>153|232=>203|231=>202|227=>204|234=>206|233=>205|236=>208|235=>207|228=>262|271=>264|151=>263|197=>229|120=>310|152=>309|260=>283|137=>212|119=>336|224=>175|225=>174|217=>173|266=>231|n=>n,fun|9=>9|4=>4|3=>3|5=>5|117=>258|116=>257|0=>0|124=>261|21=>21|105=>275|46=>233|119=>333|139=>347|138=>346|n=>n,fun|3=>5|4=>6|n=>n⟩
theorem Tryz.lays160 : Go.Proofs.Lays.n160 Tryz.prog Tryz.lays160_ren := {
 mixed:=by kernel_rfl
 f119:=Tryz.func336.trans (congrArg some (by kernel_rfl))
 f120:=Tryz.func310.trans (congrArg some (by kernel_rfl))
 f137:=Tryz.func212.trans (congrArg some (by kernel_rfl))
 f151:=Tryz.func263.trans (congrArg some (by kernel_rfl))
 f152:=Tryz.func309.trans (congrArg some (by kernel_rfl))
 f160:=Tryz.func153.trans (congrArg some (by kernel_rfl))
 f197:=Tryz.func229.trans (congrArg some (by kernel_rfl))
 f217:=Tryz.func173.trans (congrArg some (by kernel_rfl))
 f224:=Tryz.func175.trans (congrArg some (by kernel_rfl))
 f225:=Tryz.func174.trans (congrArg some (by kernel_rfl))
 f227:=Tryz.func204.trans (congrArg some (by kernel_rfl))
 f228:=Tryz.func262.trans (congrArg some (by kernel_rfl))
 f231:=Tryz.func202.trans (congrArg some (by kernel_rfl))
 f232:=Tryz.func203.trans (congrArg some (by kernel_rfl))
 f233:=Tryz.func205.trans (congrArg some (by kernel_rfl))
 f234:=Tryz.func206.trans (congrArg some (by kernel_rfl))
 f235:=Tryz.func207.trans (congrArg some (by kernel_rfl))
 f236:=Tryz.func208.trans (congrArg some (by kernel_rfl))
 f260:=Tryz.func283.trans (congrArg some (by kernel_rfl))
 f266:=Tryz.func231.trans (congrArg some (by kernel_rfl))
 f271:=Tryz.func264.trans (congrArg some (by kernel_rfl))
 t0:=Tryz.underlying0
 a0:=Tryz.isAgg0
 z0:=Tryz.sizeOf0
 v0:=Tryz.zeroValue0
 t3:=Tryz.underlying3
 a3:=Tryz.isAgg3
 z3:=Tryz.sizeOf3
 v3:=Tryz.zeroValue3
 t4:=Tryz.underlying4
 a4:=Tryz.isAgg4
 z4:=Tryz.sizeOf4
 v4:=Tryz.zeroValue4
 t5:=Tryz.underlying5
 a5:=Tryz.isAgg5
 z5:=Tryz.sizeOf5
 v5:=Tryz.zeroValue5
 t9:=Tryz.underlying9
 a9:=Tryz.isAgg9
 z9:=Tryz.sizeOf9
 v9:=Tryz.zeroValue9
 t21:=Tryz.underlying21
 a21:=Tryz.isAgg21
 z21:=Tryz.sizeOf21
 v21:=Tryz.zeroValue21
 t46:=Tryz.underlying233
 a46:=Tryz.isAgg233
 z46:=Tryz.sizeOf233
 v46:=Tryz.zeroValue233
 t105:=Tryz.underlying275
 a105:=Tryz.isAgg275
 z105:=Tryz.sizeOf275
 v105:=Tryz.zeroValue275
 t116:=Tryz.underlying257
 a116:=Tryz.isAgg257
 z116:=Tryz.sizeOf257
 t117:=Tryz.underlying258
 a117:=Tryz.isAgg258
 z117:=Tryz.sizeOf258
 v117:=Tryz.zeroValue258
 t119:=Tryz.underlying333
 a119:=Tryz.isAgg333
 z119:=Tryz.sizeOf333
 t124:=Tryz.underlying261
 a124:=Tryz.isAgg261
 z124:=Tryz.sizeOf261
 v124:=Tryz.zeroValue261
 t138:=Tryz.underlying346
 a138:=Tryz.isAgg346
 z138:=Tryz.sizeOf346
 v138:=Tryz.zeroValue346
 t139:=Tryz.underlying347
 a139:=Tryz.isAgg347
 z139:=Tryz.sizeOf347
 v139:=Tryz.zeroValue347
 g3:=by kernel_rfl
 g4:=by kernel_rfl }
end Go.Proofs
namespace Go.Proofs.YtllefinciimffaaGreatDoor
open Go.RowKit Go.Shelf Go.Lib
def IJ:List UInt8:=[97,98,99,100,101,102,103,104,105,106,107,108,109,110,111,112,113,114,115,116,117,118,119,120,121,122,48,49,50,51,52,53,54,55,56,57,45]
def aAm (b:UInt8):Bool:=decide (97≤b.toNat∧b.toNat≤122)
def dA (l:List UInt8):Bool:=decide (l≠[]∧l.length≤40∧(∀b,l[0]? = some b→aAm b=true)∧∀b∈l,IJ.contains b=true)
theorem E3 {α:Type} (p:α→Bool) (l:List α):l.dropWhile p=[]↔∀b∈l,p b=true:=by
 induction l with
 |nil=>simp
 |cons a l ih=>
  rw[List.dropWhile_cons];cases h:p a
  ·simp[h]
  ·simp[h,ih]
theorem E4 {α:Type} (p:α→Bool) (l:List α):∀b∈l.takeWhile p,p b=true:=by
 induction l with
 |nil=>simp
 |cons a l ih=>
  rw[List.takeWhile_cons];cases h:p a
  ·simp
  ·intro b hb;simp only[if_true,aLN] at hb;rcases hb with rfl|hb
   ·exact h
   ·exact ih b hb
theorem tC (l cs:List UInt8):trimS l cs=[]↔∀b∈l,cs.contains b=true:=by
 unfold trimS trimLeftS trimRightS;rw[E3];constructor
 ·intro h b hb;by_cases hc:cs.contains b=true
  ·exact hc
  ·have hr:b∈l.reverse.dropWhile (cs.contains ·):=by
    have h2:b∈l.reverse.takeWhile (cs.contains ·)++l.reverse.dropWhile (cs.contains ·):=(by rw[List.takeWhile_append_dropWhile];exact List.mem_reverse.2 hb);rcases aLM.1 h2 with h3|h3
    ·exact absurd (E4 _ _ _ h3) hc
    ·exact h3
   exact h b (List.mem_reverse.2 hr)
 ·intro h b hb;exact h b (List.mem_reverse.1 ((List.dropWhile_suffix _).subset (List.mem_reverse.1 hb)))
theorem LX {s:ByteArray} (h:0<s.size):s.data.toList[0]? = some s[0]:=by
 have:=Lib.size_eq s;rw[aLv (by omega)];rfl
theorem LY {s:ByteArray} (h:s.size=0):dA s.data.toList=false:=by
 have:=Lib.size_eq s;have h2:s.data.toList=[]:=List.eq_nil_of_length_eq_zero (by omega);rw[h2];rfl
theorem RD {s:ByteArray} (h:¬s.size≤40):dA s.data.toList=false:=by
 have:=Lib.size_eq s;unfold dA;refine aLW fun h2 => ?_;omega
theorem aAn {s:ByteArray} (h0:0<s.size) (h:¬97≤(s[0].toNat:Int)):dA s.data.toList=false:=by
 unfold dA;refine aLW fun h2 => ?_;have h3:=h2.2.2.1 _ (LX h0);unfold aAm at h3;have h4:=aLY h3;omega
theorem aAo {s:ByteArray} (h0:0<s.size) (h:¬(s[0].toNat:Int)≤122):dA s.data.toList=false:=by
 unfold dA;refine aLW fun h2 => ?_;have h3:=h2.2.2.1 _ (LX h0);unfold aAm at h3;have h4:=aLY h3;omega
theorem RF {s:ByteArray} (h0:0<s.size) (h40:s.size≤40) (ha:97≤(s[0].toNat:Int)) (hb:(s[0].toNat:Int)≤122) (hl:s.size=s.data.toList.length):dA s.data.toList=(Lib.trimS s.data.toList IJ).isEmpty:=by
 rw[Bool.eq_iff_iff,List.isEmpty_iff,tC];unfold dA;rw[decide_eq_true_eq];constructor
 ·intro h;exact h.2.2.2
 ·intro h;refine ⟨fun e => ?_,by omega,fun b hb' => ?_,h⟩
  ·have h2:=congrArg List.length e;simp only[List.length_nil] at h2;omega
  ·rw[LX h0] at hb';obtain rfl:=aLZ hb';unfold aAm;exact aLX (by omega)
theorem aAp {s:ByteArray} (h:s.size=0):s.toList.isEmpty=true:=by
 rw[Lib.toList_data];cases h':s.data.toList with
 |nil=>rfl
 |cons _ _=>have:=Lib.size_eq s;rw[h',aLB] at this;omega
theorem LZ {s:ByteArray} (h:0<s.size):s.toList.isEmpty=false:=by
 rw[Lib.toList_data];cases h':s.data.toList with
 |nil=>have:=Lib.size_eq s;rw[h',List.length_nil] at this;omega
 |cons _ _=>rfl
theorem qJ (s:ByteArray) (w:World) (hs:s.size≤9223372036854775807) :
 Calls Tryz.prog 96 #[.string s] w fun e w'=>e=.returned (.bool (dA s.data.toList))∧Bl w w':=by
 have ZG:=fun w=>Any.strings_Trim_laid Tryz.lays160 (by kernel_rfl) s ⟨IJ.toArray⟩ w hs (by decide) (ascii_of_all (by decide));have aD9:=aLa (Lib.size_eq s);by_cases h0:0<s.size
 ·have he:=LZ h0;by_cases h40:s.size≤40
  ·by_cases ha:97≤(s[0].toNat:Int)
   ·by_cases hb:(s[0].toNat:Int)≤122
    ·obtain ⟨r,hr⟩:=aLt ((⟨(Lib.trimS s.data.toList IJ).toArray⟩:ByteArray));have aGN:∀w,Calls Tryz.prog 153 #[.string s,IJ] w fun e w'=>e=.returned (.string r)∧Below w.heap.size w w':=(by rw[hr];exact ZG);clear ZG
     go_in
     go_wp2_with (go_at_call 153;refine (aGN _).mono ?_;rintro e w' ⟨rfl,hB⟩);go_ret;exact ⟨cD (RF h0 h40 ha hb aD9.out).symm,hB⟩
    ·have HN:=aLa (aAo h0 hb)
     go_in
     go_wp2_with fail;go_ret;exact ⟨cD HN.out.symm,Bl.refl _⟩
   ·have HN:=aLa (aAn h0 ha)
    go_in
    go_wp2_with fail;go_ret;exact ⟨cD HN.out.symm,Bl.refl _⟩
  ·have HN:=aLa (RD h40)
   go_in
   go_wp2_with fail;go_ret;exact ⟨cD HN.out.symm,Bl.refl _⟩
 ·have he:=aAp (show s.size=0 by omega);have HN:=aLa (LY (show s.size=0 by omega))
  go_in
  go_wp2_with fail;go_ret;exact ⟨cD HN.out.symm,Bl.refl _⟩
end Go.Proofs.YtllefinciimffaaGreatDoor
namespace Go.Proofs.YtllefinciimffaaGreatDoor
open Go.ChangeShapes Go.WideShapes Go.ChangeAt Go.RowKit Go.Joins
theorem Tryz.own:ownKnob Tryz.prog.godebug=none:=by kernel_rfl
theorem Tryz.laidOut:laidOutB Tryz.prog=true:=by kernel_rfl
section
variable {H:Type} {enc:TypeId × Value→H} {P:Program} {w:World} {base:Nat} {spare:Nat→Bool} {gY:Bool}
theorem aAq {t e : TypeId} {fuel : Nat} {a0 : Option Addr} {len cap : Nat} {x : DataW H × List MemPlace} (ht : P.underlying t = some (.slice e)) (he : P.underlying e = some .bool) (hc : P.cellsOf e = 1)
 (h:DataW.trod enc P w base spare gY fuel t [.slice a0 len cap]=some x) :
 ∃bs:List Bool,bs.length=len∧Reads w 1 a0 len (bs.map .bool)∧len≤maxLen:=by
 rcases DataW.trod_slice ht h with ⟨hcs,_⟩|⟨a,len',cap',elems,rest,n,_,hcs,_,_,hl,hm,cL,hel,_⟩
 ·simp at hcs;obtain ⟨rfl,rfl,rfl⟩:=hcs;exact ⟨[],rfl,Reads.none_,by unfold maxLen;omega⟩
 ·simp at hcs;obtain ⟨rfl,rfl,rfl⟩:=hcs;have each:∀i,i<len→∃b:Bool,w.cell? (a.add i)=some (.bool b):=by
   intro i hi;have h1:=hel i hi;rw[aLv (by omega)] at h1;obtain ⟨cs,hcs,htr⟩:=Option.bind_eq_some_iff.1 h1;obtain ⟨b,rfl,_⟩:=DataW.trod_bool he htr;rw[hc] at hcs;simp only[World.cells?,Nat.mul_one] at hcs;split at hcs
   ·simp[List.range_succ] at hcs;refine ⟨b,?_⟩;cases hq:w.cell? ((a.add i).add 0) with
    |none=>simp[hq] at hcs
    |some v=>simp[hq] at hcs;rw[cY,Nat.add_zero] at hq;rw[hq,hcs]
   ·cases hcs
  have build:∀m,m≤len→∃bs:List Bool,bs.length=m∧∀i,i<m→w.cell? (a.add i)=some (.bool (bs.getD i false)):=by
   intro m;induction m with
   |zero=>exact fun _=>⟨[],rfl,fun i hi=>absurd hi (by omega)⟩
   |succ m ih=>
    intro hm';obtain ⟨bs,hb,hbs⟩:=ih (by omega);obtain ⟨b,hb'⟩:=each m (by omega);refine ⟨bs++[b],by simp[hb],fun i hi => ?_⟩;rcases Nat.lt_or_ge i m with h' | h'
    ·rw[hbs i h'];simp[List.getD,aLE (show i<bs.length by omega)]
    ·obtain rfl:i=m:=(by omega);rw[hb'];simp[List.getD,←hb]
  obtain ⟨bs,hb,hbs⟩:=build len (Nat.le_refl _);refine ⟨bs,hb,⟨by simp[hb],fun _=>⟨a,rfl,fun j u hu => ?_⟩⟩,by omega⟩;have hj:j<bs.length:=by
   have:=(aLw.1 hu).1;simpa using this
  rw[hbs j (by omega)];simp only[aLG,aLv hj,Option.map_some] at hu;simpa [List.getD,hj] using hu
end
section
variable {H:Type} {enc:TypeId × Value→H} {P:Program} {w:World} {base:Nat} {spare:Nat→Bool} {gY:Bool}
theorem fM {t e:TypeId} {fuel:Nat} {v:Value} {x:DataW H × List MemPlace} (ht:P.underlying t=some (.slice e)) (h:DataW.trod enc P w base spare gY fuel t [v]=some x):∃a n c,v=.slice a n c:=by
 rcases DataW.trod_slice ht h with ⟨hcs,_⟩|⟨a,len',cap',elems,rest,n,_,hcs,_⟩
 ·exact ⟨none,0,0,by simpa using hcs⟩
 ·exact ⟨some a,len',cap',by simpa using hcs⟩
theorem IK {n:Int} (h:(Lit.int .i64 n).wf=true):-9223372036854775808≤n∧n≤9223372036854775807:=by
 simp[Lit.wf,IntKind.min,IntKind.max,IntKind.signed,IntKind.bits] at h;omega
end
section
variable {H:Type} {enc:TypeId × Value→H} {w:World} {base b0:Nat} {spare:Nat→Bool} {gY:Bool} {r:Reach}
end
section
variable {H:Type} {enc:TypeId × Value→H} {P:Program}
theorem CU {W W':World} (hl:laidOutB P=true) (hb:Bl W W'):∀(ts:List TypeId) (vs:List Value) (ds:List (DataW H)) (ps:List MemPlace),
 (∀t∈ts,P.readableRec t=true∧t<P.types.size)→(∀x∈ps,x.block<W.heap.size) →
 DataW.TrodAll enc P W 0 (fun _=>true) true ts vs ds ps→DataW.TrodAll enc P W' 0 (fun b=>decide (b<W.heap.size)) true ts vs ds ps
 |[],[],[],ps,_,_,h=>h
 |t :: ts,v :: vs,d :: ds,ps,hr,hlt,h=>by
  obtain ⟨p,q,h1,h2,rfl⟩:=h;have ht:=hr t (by simp);exact ⟨p,q,Below.trod hl ht.1 ht.2 h1 hb (fun x hx=>hlt x (by simp[hx])),CU hl hb ts vs ds q (fun t h=>hr t (by simp[h])) (fun x hx=>hlt x (by simp[hx])) h2,rfl⟩
 |[],_ :: _,_,_,_,_,h=>h.elim
 |[],[],_ :: _,_,_,_,h=>h.elim
 |_ :: _,[],_,_,_,_,h=>h.elim
 |_ :: _,_ :: _,[],_,_,_,h=>h.elim
theorem aAr {f : Func} {s : ChangeSpec} {W W' : World} {args : Array Value} {ds gs : List (DataW H)} {before : List MemPlace} {tb : TypeId} (hl : laidOutB P = true) (htb : P.underlying tb = some .bool)
 (lQ:f.resultTypes=#[tb]) (aGO:s.vars=[]) (gA:∀t∈f.params.toList,P.readableRec t=true∧t<P.types.size)
 (hW':DataW.Whole enc P f.params.toList s.vars false W args.toList ds gs before)
 (hr:(s.fn H (ds++gs)).results=[.lit (.bool true)]) (ha:(s.fn H (ds++gs)).args=ds) (hv:(s.fn H (ds++gs)).vars=[]) (hb:Bl W W') :
 s.post enc P f false true false false W args (.bool true) W':=by
 obtain ⟨p,q,hA,hV,rfl,_,_⟩:=id hW';have hlt:∀x∈p,x.block<W.heap.size:=fun x hx=>hW'.lt x (by simp[hx]);refine ⟨ds,gs,p++q,[],p,[],hW',?_,?_,?_,Below.frame hb _,fun h=>by cases h⟩
 ·rw[hr,lQ];exact trodAll_mk1 (shut_bool htb true)
 ·rw[ha];exact CU hl hb _ _ _ _ gA hlt hA
 ·rw[hv,aGO];exact rfl
end
end Go.Proofs.YtllefinciimffaaGreatDoor
