import Derived.Test.YtllefinciimffaaGreatDoorMClaimFields2
set_option maxHeartbeats 20000000
set_option maxRecDepth 100000
namespace Go.Proofs.YtllefinciimffaaGreatDoor
open Go.RowKit
def TabRes (w:World) (err:Int) (N:Nat) (f:Nat→Int) (P:Option Addr) (m:Nat):Prop:=
 (err=0→m=N∧Reads w 1 P m ((cAa m f).map (.int .i64)))∧(err≠0→m=0∧P=none)
theorem TabRes.bl {w w':World} {err:Int} {N:Nat} {f:Nat→Int} {P:Option Addr} {m:Nat} (h:TabRes w err N f P m) (hb:Bl w w'):TabRes w' err N f P m:=
 ⟨fun e=>⟨(h.1 e).1,(h.1 e).2.bl hb⟩,h.2⟩
def zL (bs:List Bool) (W H k:Nat):Int:=((kH bs W H k:Nat):Int)
theorem JM (W H : Nat) (A : Option Addr) (ac : Nat) (bs : List Bool) (many : Nat) (num : Nat → Nat) (kf : FuncId) (cap : Array Value) (w : World) (hA : Reads w 1 A (W * H) (bs.map .bool)) (hbd : W * H ≤ 1048576) (aDy : many ≤ 4000)
 (ZF:∀args w,(callFunc kf args).run Tryz.prog w=.ok (.enter kf args) w)
 (RM:∀wx (i:Nat),Bl w wx→i<W*H→Calls Tryz.prog kf (#[.int .i64 i]++cap) wx fun e w'=>e=.returned (.int .i64 ((num i:Nat):Int))∧Bl wx w') (hlt:∀i,i<W*H→num i<many) :
 Calls Tryz.prog 234 #[.agg #[W,H,.slice A (W*H) ac],many,.func (.func kf) #[] cap] w fun e w'=>
  ∃g,e=.returned (.slice (some ⟨g,0,none⟩) many many)∧w.heap.size≤g∧Blk w' g 3 (qD many fun k=>((qE bs num (W*H) k:Nat):Int))∧Bl w w':=by
 let w2:=(w).alloc (.cells #[W,H,.slice A (W*H) ac] 43);obtain ⟨w2b,w21⟩:=aHO (x:=w2) w _ _ rfl;have k1:=w21.all3;have lw2:w2.heap.size=w.heap.size+1:=(by simp[w2]);have hmk:=run_make_row' (P:=Tryz.prog) 47 3 (.int .i64 0) 8 Tryz.underlying47 iI rfl .i64 .i64 many (by omega) (by omega);rw[E8] at hmk;obtain ⟨HA,aGw,Hlt⟩:=aHI hA RM hlt;have start:Blk (w2.alloc (.cells (qD many fun _=>0) 3)) (w.heap.size+1) 3 (qD many fun k=>((qE bs num 0 k:Nat):Int)):=by
  have:=Blk.new w2 3 (qD many fun _=>0);rw[lw2] at this;exact this
 have Start:=aHH start;clear hA RM hlt start
 go_in
 go_wp2_with fail;go_loopw [15] (fun u wr=>∃i:Nat,i≤W*H∧u=.int .i64 i∧Bl w2 wr∧Blk wr (w.heap.size+1) 3 (qD many fun k=>((qE bs num i k:Nat):Int))) (fun u _=>W*H-(intOf u).toNat);case atStart=>exact ⟨0,Nat.zero_le _,rfl,(Bl.refl _).alloc _,Start.out⟩
 case round=>
  clear k1;obtain ⟨i,hi,rfl,hbr,hbo⟩:=hrel;have k1:=(w21.bl hbr).all3;by_cases hlt:i<W*H
  ·have il:(i:Int)<(W:Int)*(H:Int):=(by have:=aIG W H;omega);obtain ⟨ad,ua,eA,hu,hca⟩:=(HA.out.bl (w2b.trans hbr)).at_ hlt;have hua:ua=.bool (bs.getD i false):=by
    simp only[aId,Option.map_eq_some_iff] at hu;obtain ⟨b,hb1,hb2⟩:=hu;rw[←hb2,List.getD,hb1];rfl
   clear hu;subst hua eA;have hst:=fun k=>N8 bs num i k;have hle:=fun k=>WG bs num i k;have hn:=Hlt.out i hlt;have cI:=fun wx h=>aGw.out wx i (w2b.trans h) hlt;obtain ⟨va,hva⟩:=aH0 (bs.getD i false);obtain ⟨a,ha⟩:=aH0 (num i);rw[←ha] at hn;simp only[←ha] at cI hst;simp only[←hva] at hst hca;obtain ⟨Hst,Hle,fP⟩:=aHI hst hle cI;clear hst hle cI hva ha;cases va
   ·have aBM:qD many (fun k=>((qE bs num i k:Nat):Int))=qD many (fun k=>((qE bs num (i+1) k:Nat):Int)):=
     sW fun k _=>by rw[Hst.out k];simp[b1]
    rw[aBM] at hbo;clear aBM;go_wp2_with fail;exact ⟨⟨i+1,hlt,by go_num,hbr,hbo⟩,by simp[intOf];omega⟩
   ·go_wp2_with fail;refine (fP.out _ hbr).mono ?_;rintro e w4 ⟨rfl,hb4⟩;have aGx:=hbr.trans hb4;have aDz:=hbo.bl hb4;have kc:=aDz.tabAt hn;have kf:=aDz.frozen a;have qW:=aDz.tabSet (f':=fun k=>((qE bs num (i+1) k:Nat):Int)) a (((qE bs num i a:Nat):Int)+1) (fun k hk=>by
     rw[Hst.out k];by_cases e:k=a
     ·subst e;simp[b1]
     ·have:¬(a=k):=fun h=>e h.symm;simp[e,this,b1])
    have hcb:=Hle.out a;obtain ⟨c,hc⟩:=aH0 (qE bs num i a);rw[←hc] at kc qW hcb;have aDA:=aHH qW;clear qW hc k1;go_wp2_with fail;exact ⟨⟨i+1,hlt,by go_num,aGx.setCell (by simp;omega) _,aDA.out⟩,by simp[intOf];omega⟩
  ·obtain rfl:i=W*H:=(by omega);go_wp2_with fail;go_ret;exact ⟨_,rfl,by omega,hbo,w2b.trans hbr⟩
theorem FG (p W:Nat) (H:Int) (v:Value) (i:Nat) (w:World) (hp:Blk w p 43 #[W,H,v]) (hW:1≤W∧W≤4000) (hi:i≤1048576) :
 Calls Tryz.prog 235 #[i,.pointer (some ⟨p,0,none⟩)] w fun e w'=>e=.returned (.int .i64 ((i % W:Nat):Int))∧Bl w w':=by
 have kp:=hp.all3;have hWp:¬(W=0):=(by omega);obtain ⟨q,hq⟩:=aH0 (i % W);have e1:(i:Int) % (W:Int)=(q:Int):=(by rw[hq];simp);have e2:=hq.symm;have hqb:q≤i:=(by rw[hq];first|exact Nat.div_le_self _ _|exact Nat.mod_le _ _);rw[←hq];clear hq
 go_in
 go_wp2_with fail;go_ret;exact ⟨by first|rfl|exact cP e1,Bl.refl _⟩
theorem wQ (W H:Int) (A:Option Addr) (an ac:Nat) (bs:List Bool) (w:World) (hA:Reads w 1 A an (bs.map .bool)) :
 Calls Tryz.prog 178 #[.agg #[W,H,.slice A an ac]] w fun e w'=>
  ∃P m c,e=.returned (.tuple #[.slice P m c,.int .i64 (aF W H an)])∧TabRes w' (aF W H an) W.toNat (zL bs W.toNat H.toNat) P m∧Bl w w':=by
 let w2:=(w).alloc (.cells #[W,H,.slice A an ac] 43);obtain ⟨w2b,w21⟩:=aHO (x:=w2) w _ _ rfl;have k1:=w21.all3;by_cases hp:aF W H an=0
 ·have hz:=aR (fU hp).1;have Hp:=aHH hp;obtain ⟨W,H,rfl,rfl,rfl,u1,u2,u3⟩:=dQ hp;have hW:1≤W∧W≤4000:=(by omega);have HA:=aHH (hA.bl w2b);clear hz hA;have ent:=fT Tryz.func235 (by kernel_rfl) rfl
  go_in
  go_wp2_with fail;refine (cQ _ _ _ _ _ _).mono ?_;rintro e w3 ⟨rfl,hb3⟩;have k3:=(w21.bl hb3).all3;clear k1;go_wp2_with fail
  refine (JM W H A ac bs W (fun i => i % W) 235 #[.pointer (some ⟨w.heap.size, 0, none⟩)] _ (HA.out.bl hb3) u3 (by omega) ent
   (fun wx i hb hi=>FG _ W H _ i wx ((w21.bl hb3).bl hb) hW (by omega)) (fun i hi=>(eR hi).1)).mono ?_
  rintro e w4 ⟨g,rfl,hg,hbk,hb4⟩;have e:qD W (fun k=>((qE bs (fun i=>i % W) (W*H) k:Nat):Int))=qD W (zL bs W H):=sW fun k hk=>(by rw[N9 bs W H k hk];rfl);rw[e] at hbk;have hp:=Hp.out;go_wp2_with fail;refine aIx (v:=.tuple #[.slice (some ⟨g,0,none⟩) W W,.int .i64 0]) (by simp[results,Tryz.results178,go_sem]) rfl ⟨_,_,_,by rw[hp],⟨fun _=>⟨by simp,?_⟩,fun h=>absurd hp h⟩,(w2b.trans hb3).trans hb4⟩;simpa using hbk.tabReads
 ·have hq:(aF W H an != 0)=true:=(by simp[hp]);have Hp:=aHH hp;clear hp
  go_in
  go_wp2_with fail;refine (cQ _ _ _ _ _ _).mono ?_;rintro e w3 ⟨rfl,hb3⟩;go_wp2_with fail;refine aIx (v:=.tuple #[.slice none 0 0,.int .i64 (aF W H an)]) (by simp[results,Tryz.results178,go_sem]) rfl ⟨_,_,_,rfl,⟨fun h=>absurd h Hp.out,fun _=>⟨rfl,rfl⟩⟩,w2b.trans hb3⟩
theorem wR (W H X Y BW BH:Nat) (A:Option Addr) (ac:Nat) (bs:List Bool) (w:World) (hA:Reads w 1 A (W*H) (bs.map .bool)) (hW:W≤4000) (hH:H≤4000) (hX:X+BW≤W) (hY:Y+BH≤H) :
 Calls Tryz.prog 87 #[.agg #[W,H,.slice A (W*H) ac],.agg #[X,Y,BW,BH]] w fun e w'=>e=.returned (.int .i64 (EW bs W X Y BW BH))∧Bl w w':=by
 let w2:=((w).alloc (.cells #[W,H,.slice A (W*H) ac] 43)).alloc (.cells #[X,Y,BW,BH] 58);obtain ⟨w2b,w21,w22⟩:=aHP (x:=w2) w _ _ _ _ rfl;have k2:=w22.all4;have HA:=aHH (hA.bl w2b);clear hA
 go_in
 go_wp2_with fail;go_loopw [5,6] (fun n u wr=>∃j:Nat,j≤BH∧u=.int .i64 ((Y:Int)+j)∧n=.int .i64 (EW bs W X Y BW j)∧Bl w2 wr) (fun _ u _=>Y+BH-(intOf u).toNat);case atStart=>exact ⟨0,Nat.zero_le _,by simp,rfl,Bl.refl _⟩
 case round=>
  clear k2;obtain ⟨j,hj,rfl,rfl,hbr⟩:=hrel;have k2:=(w22.bl hbr).all4;by_cases hlt:j<BH
  ·have d1:(Y:Int)+(j:Int)<(Y:Int)+(BH:Int):=(by omega);go_wp2_with fail;go_loopw [5,7] (fun n u wr=>∃i:Nat,i≤BW∧u=.int .i64 ((X:Int)+i)∧n=.int .i64 (((EW bs W X Y BW j+jQ (fun i=>b1 (pix bs W (X+i) (Y+j))) i:Nat)):Int)∧Bl w2 wr) (fun _ u _=>X+BW-(intOf u).toNat);case atStart=>exact ⟨0,Nat.zero_le _,by simp,rfl,hbr⟩
   case round=>
    clear k2 hbr
    rename_i wo _ _ _
    obtain ⟨i,hi,rfl,rfl,hbr⟩:=hrel;have k1:=(w21.bl hbr).all3;have k2:=(w22.bl hbr).all4;by_cases iH:i<BW
    ·have d2:(X:Int)+(i:Int)<(X:Int)+(BW:Int):=(by omega);have hat:=uA W H A ac bs (((X+i:Nat)):Int) (((Y+j:Nat)):Int) wr (HA.out.bl hbr) hW hH;rw[t8 bs W H (X+i) (Y+j) (by omega) (by omega)] at hat;have hst:jQ (fun i=>b1 (pix bs W (X+i) (Y+j))) (i+1)=jQ (fun i=>b1 (pix bs W (X+i) (Y+j))) i+b1 (pix bs W (X+i) (Y+j)):=rfl;have hle:jQ (fun i=>b1 (pix bs W (X+i) (Y+j))) i≤i*1:=mB (fun _=>cAb _) i;have aDB:EW bs W X Y BW j≤j*BW:=mB (fun k=>by have:=mB (f:=fun i=>b1 (pix bs W (X+i) (Y+k))) (c:=1) (fun _=>cAb _) BW;simpa using this) j;have LR:=aIH (show j≤4000 by omega) (show BW≤4000 by omega);obtain ⟨n,hn⟩:=aH0 (jQ (fun i=>b1 (pix bs W (X+i) (Y+j))) i);obtain ⟨va,hva⟩:=aH0 (pix bs W (X+i) (Y+j));obtain ⟨q,hq⟩:=aH0 (EW bs W X Y BW j);rw[←hn,←hva] at hst;rw[←hn] at hle ⊢;rw[←hva] at hat;rw[←hq] at aDB ⊢;have ex:(((X+i:Nat)):Int)=(X:Int)+(i:Int):=(by simp);have ey:(((Y+j:Nat)):Int)=(Y:Int)+(j:Int):=(by simp);rw[ex,ey] at hat;obtain ⟨Hat,Hst,Hq⟩:=aHI hat hst hq;clear hat hst hn hva ex ey hq;cases va
     all_goals
      go_wp2_with fail;refine Hat.out.mono ?_;rintro e w1 ⟨rfl,hb1⟩;go_wp2_with fail;exact ⟨⟨i+1,iH,by go_num,by rw[Hst.out];first|(congr 1;done)|(congr 1;simp[b1];done)|(congr 1;simp[b1];omega),hbr.trans hb1⟩,by simp[intOf];omega⟩
    ·obtain rfl:i=BW:=(by omega);go_wp2_with fail;exact ⟨⟨j+1,hlt,by go_num,rfl,hbr⟩,by simp[intOf];omega⟩
  ·obtain rfl:j=BH:=(by omega);go_wp2_with fail;go_ret;exact ⟨rfl,w2b.trans hbr⟩
theorem C5 (W H:Nat) (A:Option Addr) (ac:Nat) (bs:List Bool) (w:World) (hA:Reads w 1 A (W*H) (bs.map .bool)) (hW:W≤4000) (hH:H≤4000) :
 Calls Tryz.prog 92 #[.agg #[W,H,.slice A (W*H) ac]] w fun e w'=>∃P c,e=.returned (.slice P W c)∧Reads w' 1 P W ((cAa W (zL bs W H)).map (.int .i64))∧Bl w w':=by
 let w2:=(w).alloc (.cells #[W,H,.slice A (W*H) ac] 43);obtain ⟨w2b,w21⟩:=aHO (x:=w2) w _ _ rfl;have k1:=w21.all3;have lw2:w2.heap.size=w.heap.size+1:=(by simp[w2]);have HA:=aHH (hA.bl w2b);have ho0:w2.ownsRow (w.heap.size+1) 3 1 (.slice none 0 0) 0 ((cAa 0 (zL bs W H)).map (.int .i64)):=World.ownsRow_nil _ _ _ _;have Ho0:=aHH ho0;clear hA ho0
 go_in
 go_wp2_with fail;go_loopw [3,7] (fun v u wr=>∃k:Nat,k≤W∧u=.int .i64 k∧Bl w2 wr∧wr.ownsRow (w.heap.size+1) 3 1 v k ((cAa k (zL bs W H)).map (.int .i64))) (fun _ u _=>W-(intOf u).toNat);case atStart=>exact ⟨0,Nat.zero_le _,rfl,Bl.refl _,Ho0.out⟩
 case round=>
  clear k1;obtain ⟨k,hk,rfl,hbr,aV⟩:=hrel;have k1:=(w21.bl hbr).all3;by_cases hlt:k<W
  ·have cI:=wR W H k 0 1 H A ac bs wr (HA.out.bl hbr) hW hH (by omega) (by omega);rw[R8] at cI;have htl:(cAa (k+1) (zL bs W H)).map (Value.int .i64)=(cAa k (zL bs W H)).map (Value.int .i64)++[Value.int .i64 ((zL bs W H) k)]:=(by simp[cAa,List.range_succ]);have fP:=aHH cI;have Htl:=aHH htl;clear cI htl;go_wp2_with fail;refine fP.out.mono ?_;rintro e w1 ⟨rfl,hb1⟩;have aAB:=cX aV hb1;have aBN:=hbr.trans hb1;clear aV;go_wp2_with (at_builtin;refine bI rfl (.tmp 10) (.tmp 17) 47 rfl 3 (.int .i64 0) 8 Tryz.underlying47 iI rfl (w.heap.size+1) _ _ _ rfl _ rfl rfl aBN (by omega) (by have:=aBN.le;omega) aAB (by omega) (by unfold maxLen;omega) ?_;intro v' w' mI hb' _);exact ⟨⟨k+1,hlt,by go_num,hb',by rw[Htl.out];exact mI⟩,by simp[intOf];omega⟩
  ·obtain rfl:k=W:=(by omega);obtain ⟨P,c,rfl,hp⟩:=bL aV;go_wp2_with fail;go_ret;exact ⟨_,_,rfl,hp,w2b.trans hbr⟩
theorem dX {es:List Int} (h:aB es=0):∀e∈es,e=0:=by
 induction es with
 |nil=>intro e he;cases he
 |cons x es ih=>
  have h':(if x=0 then aB es else x)=0:=h;by_cases h0:x=0
  ·rw[if_pos h0] at h';intro e he;rcases aIk.1 he with rfl|he
   ·exact h0
   ·exact ih h' e he
  ·rw[if_neg h0] at h';exact absurd h' h0
theorem gZ {b:Bool} {n:Int} (h:aE b n=0) (hn:n≠0):b=false:=by
 cases b
 ·rfl
 ·exact absurd h hn
theorem FH {ht:Int} {ls:List Ltr}:∀{prev:List (List UInt8)},d7 ht prev ls=0→∀l∈ls,iJ l.text=true∧aF l.W l.H l.m=0∧l.H=ht∧l.W≤64:=by
 induction ls with
 |nil=>intro prev _ l hl;cases hl
 |cons x ls ih=>
  intro prev h l hl;have h':(if fD ht prev x=0 then d7 ht (prev++[x.text]) ls else fD ht prev x)=0:=h;by_cases h0:fD ht prev x=0
  ·rw[if_pos h0] at h';rcases aIk.1 hl with rfl|hl
   ·have hz:=dX h0;have k1:=gZ (hz _ (by simp:aE (!iJ l.text) 2∈_)) (by decide);have k2:=hz (aF l.W l.H l.m) (by simp);have k3:=gZ (hz (aE (l.H != ht) 11) (by simp)) (by decide);have k4:=gZ (hz (aE (decide (64<l.W)) 4) (by simp)) (by decide);refine ⟨by simpa using k1,k2,by simpa using k3,?_⟩;have:=of_decide_eq_false k4;omega
   ·exact ih h' l hl
  ·rw[if_neg h0] at h';exact absurd h' h0
theorem g9 {nm:Bool} {ht gap sp:Int} {ls:List Ltr} (h:bN nm ht gap sp ls=0):(nm=true∧eT ht gap sp=true∧gap<sp∧ls.length≠0∧ls.length≤200∧1≤ht∧ht≤64)∧∀l∈ls,iJ l.text=true∧aF l.W l.H l.m=0∧l.H=ht∧l.W≤64:=by
 have h':(if eK nm ht gap sp ls.length=0 then d7 ht [] ls else eK nm ht gap sp ls.length)=0:=h;by_cases h0:eK nm ht gap sp ls.length=0
 ·rw[if_pos h0] at h';refine ⟨?_,FH h'⟩;have hz:=dX h0;have k1:=gZ (hz (aE (!nm) 5) (by simp)) (by decide);have k2:=gZ (hz (aE (!eT ht gap sp) 3) (by simp)) (by decide);have k3:=of_decide_eq_false (gZ (hz (aE (decide (sp≤gap)) 7) (by simp)) (by decide));have k4:=of_decide_eq_false (gZ (hz (aE (decide (ls.length=0)) 9) (by simp)) (by decide));have k5:=of_decide_eq_false (gZ (hz (aE (decide (200<ls.length)) 4) (by simp)) (by decide));have k2':eT ht gap sp=true:=(by simpa using k2);have k6:inB ht 1 64=true:=by
   unfold eT at k2';simp only[aIs] at k2';exact k2'.1
  have k7:=aQ.1 k6;exact ⟨by simpa using k1,k2',by omega,k4,by omega,k7.1,k7.2⟩
 ·rw[if_neg h0] at h';exact absurd h' h0
theorem OE (p q W H X Y BW BH : Nat) (A : Option Addr) (ac : Nat) (bs : List Bool) (x y : Nat) (w : World) (hp : Blk w p 43 #[W, H, .slice A (W * H) ac]) (hq : Blk w q 58 #[X, Y, BW, BH])
 (hA:Reads w 1 A (W*H) (bs.map .bool)) (hW:W≤4000) (hH:H≤4000) (hx:x<BW) (hy:y<BH) (hX:X+BW≤W) (hY:Y+BH≤H) :
 Calls Tryz.prog 148 #[x,y,.pointer (some ⟨p,0,none⟩),.pointer (some ⟨q,0,none⟩)] w fun e w'=>e=.returned (.bool (iU bs W X Y x y))∧Bl w w':=by
 have kp:=hp.all3;have kq:=hq.all4;have hat:=uA W H A ac bs ((X+x:Nat):Int) ((Y+y:Nat):Int) w hA hW hH;rw[t8 bs W H _ _ (by omega) (by omega)] at hat;have e1:((X+x:Nat):Int)=(X:Int)+(x:Int):=(by simp);have e2:((Y+y:Nat):Int)=(Y:Int)+(y:Int):=(by simp);rw[e1,e2] at hat;have Hat:=aHH hat;clear hat hA e1 e2
 go_in
 go_wp2_with fail;refine Hat.out.mono ?_;rintro e w1 ⟨rfl,hb1⟩;go_wp2_with fail;go_ret;exact ⟨rfl,hb1⟩
theorem wT (W H X Y BW BH:Nat) (A:Option Addr) (ac:Nat) (bs:List Bool) (w:World) (hA:Reads w 1 A (W*H) (bs.map .bool)) (hW:W≤4000) (hH:H≤4000) (hX:X+BW≤W) (hY:Y+BH≤H) :
 Calls Tryz.prog 93 #[.agg #[W,H,.slice A (W*H) ac],.agg #[X,Y,BW,BH]] w fun e w'=>∃R rc,e=.returned (.agg #[BW,BH,.slice R (BW*BH) rc])∧Reads w' 1 R (BW*BH) ((fS BW BH (iU bs W X Y)).map .bool)∧(∀ad,R=some ad→w.heap.size+3≤ad.block)∧Bl w w':=by
 let w2:=(((w).alloc (.cells #[W,H,.slice A (W*H) ac] 43)).alloc (.cells #[X,Y,BW,BH] 58)).alloc (.cells #[.int .i64 0,.int .i64 0,.slice none 0 0] 43);obtain ⟨w2b,w21,w22,w23⟩:=aHQ (x:=w2) w _ _ _ _ _ _ rfl;have hbd:BW*BH≤16000000:=(by have:=aIH (show BW≤4000 by omega) (show BH≤4000 by omega);omega);have hP:Paints Tryz.prog 148 #[.pointer (some ⟨w.heap.size,0,none⟩),.pointer (some ⟨w.heap.size+1,0,none⟩)] Value.bool w2 BW BH (iU bs W X Y):=
  ⟨fT Tryz.func148 (by kernel_rfl) rfl,fun wy x y hb hx hy=>OE _ _ W H X Y BW BH A ac bs x y wy (w21.bl hb) (w22.bl hb) ((hA.bl w2b).bl hb) hW hH hx hy hX hY⟩
 have HP:=aHH hP;clear hP hA;have k2:=w22.all4
 go_in
 go_wp2_with fail;refine (L4 BW BH _ _ _ _ (by omega) (by omega) (by omega) HP.out).mono ?_;rintro e w6 ⟨r,rfl,hpg,hb6⟩;have kr3:=(w23.bl hb6).all3;have aDv:=w23.lt;have ZG:=w2b.trans hb6;obtain ⟨R,rc,rfl,hR,hRn⟩:=hpg;have VG:∀ad,R=some ad→w.heap.size+3≤ad.block:=fun ad h=>(by have:=hRn ad h;omega);have HR:=aHH hR;have HRn:=aHH VG;clear hR hRn VG;go_wp2_with fail;refine aIx (v:=.agg #[BW,BH,.slice R (BW*BH) rc]) (by simp[results,Tryz.results93,go_sem,kr3]) rfl ⟨R,rc,rfl,?_,HRn.out,?_⟩
 ·exact ((HR.out.store HRn.out (by simp) _).store HRn.out (by simp) _).store HRn.out (by simp) _
 ·exact (((ZG.setCell (by simp;omega) _).setCell (by simp;omega) _).setCell (by simp;omega) _)
end Go.Proofs.YtllefinciimffaaGreatDoor
namespace Go.Proofs.YtllefinciimffaaGreatDoor
def le3 (num far:Nat→Nat) (i j:Nat):Prop:=num i<num j∨(num i=num j∧(far i<far j∨(far i=far j∧i≤j)))
theorem le3.anti {num far:Nat→Nat} {i j:Nat} (h:le3 num far i j) (k:le3 num far j i):i=j:=by
 unfold le3 at h k;omega
def BestA (num far:Nat→Nat) (m b:Nat):Prop:=b<m∧∀j,j<m→le3 num far b j
theorem BestA.take {num far:Nat→Nat} {m b:Nat} (h:BestA num far m b) (hm:num m<num b∨(num m=num b∧far m<far b)):BestA num far (m+1) m:=by
 refine ⟨by omega,fun j hj => ?_⟩;rcases Nat.lt_or_ge j m with hl|hl
 ·have:=h.2 j hl;unfold le3 at this ⊢;omega
 ·obtain rfl:j=m:=(by omega);unfold le3;omega
def Seen (far:Nat→Nat) (K f m j:Nat):Prop:=j<K∧(far j<f∨(far j=f∧j<m))
def BestN (num far:Nat→Nat) (K f m b:Nat):Prop:=Seen far K f m b∧∀j,Seen far K f m j→le3 num far b j
theorem BestN.first {num far:Nat→Nat} {K f m:Nat} (h:∀j,¬Seen far K f m j) (hm:m<K) (hf:far m=f):BestN num far K f (m+1) m:=by
 refine ⟨⟨hm,Or.inr ⟨hf,by omega⟩⟩,fun j hj => ?_⟩;have hn:=h j;unfold Seen at hj hn;obtain rfl:j=m:=(by omega);unfold le3;omega
theorem BestN.take {num far:Nat→Nat} {K f m b:Nat} (h:BestN num far K f m b) (hm:m<K) (hf:far m=f) (hn:num m<num b):BestN num far K f (m+1) m:=by
 refine ⟨⟨hm,Or.inr ⟨hf,by omega⟩⟩,fun j hj => ?_⟩;by_cases hs:Seen far K f m j
 ·have:=h.2 j hs;unfold le3 at this ⊢;omega
 ·unfold Seen at hj hs;obtain rfl:j=m:=(by omega);unfold le3;omega
def vP (r j:Nat):Int:=((j % (2*r+1):Nat):Int)-r
def vQ (r j:Nat):Int:=((j / (2*r+1):Nat):Int)-r
def iK (r j:Nat):Nat:=(vP r j).natAbs+(vQ r j).natAbs
theorem JN (r v u:Nat) (hu:u<2*r+1):vP r (v*(2*r+1)+u)=(u:Int)-r:=by
 unfold vP;rw[Nat.mul_comm,Nat.mul_add_mod,Nat.mod_eq_of_lt hu]
theorem JO (r v u:Nat) (hu:u<2*r+1):vQ r (v*(2*r+1)+u)=(v:Int)-r:=by
 unfold vQ;rw[Nat.mul_comm,Nat.mul_add_div (by omega),Nat.div_eq_of_lt hu,Nat.add_zero]
theorem L9 (r j:Nat) (hj:j<(2*r+1)*(2*r+1)):iK r j<2*r+1:=by
 have h1:j % (2*r+1)<2*r+1:=Nat.mod_lt _ (by omega);have h2:j / (2*r+1)<2*r+1:=Nat.div_lt_of_lt_mul hj;unfold iK vP vQ;generalize j % (2*r+1)=a at h1 ⊢;generalize j / (2*r+1)=b at h2 ⊢;omega
def sX (bs cs:List Bool) (W H:Nat) (dx dy:Int) (i:Nat):Bool:=bs.getD i false != atI cs W H (((i % W:Nat):Int)-dx) (((i / W:Nat):Int)-dy)
def AQ (bs cs : List Bool) (W H : Nat) (dx dy : Int) : Nat → Nat
 |0=>0
 |n+1=>AQ bs cs W H dx dy n+(if sX bs cs W H dx dy n then 1 else 0)
theorem C6 (bs cs:List Bool) (W H:Nat) (dx dy:Int) (n:Nat):AQ bs cs W H dx dy n≤n:=by
 induction n with
 |zero=>exact Nat.le_refl 0
 |succ n ih=>unfold AQ;split<;>omega
def StN (num:Nat→Nat) (r f m:Nat) (x y n:Int) (found:Bool):Prop:=
 (found=false∧n=0∧∀j,¬Seen (iK r) ((2*r+1)*(2*r+1)) f m j)∨(found=true∧∃b,BestN num (iK r) ((2*r+1)*(2*r+1)) f m b∧x=vP r b∧y=vQ r b∧n=num b)
theorem StN.take {num:Nat→Nat} {r f m:Nat} {x y n:Int} {found:Bool} (h:StN num r f m x y n found) (hm:m<(2*r+1)*(2*r+1)) (hf:iK r m=f) (hc:found=false∨(num m:Int)<n):StN num r f (m+1) (vP r m) (vQ r m) (num m) true:=by
 rcases h with ⟨h1,h2,h3⟩|⟨h1,b,hb,rfl,rfl,rfl⟩
 ·exact Or.inr ⟨rfl,m,BestN.first h3 hm hf,rfl,rfl,rfl⟩
 ·have hlt:num m<num b:=by
   rcases hc with hc|hc
   ·simp[h1] at hc
   ·omega
  exact Or.inr ⟨rfl,m,hb.take hm hf hlt,rfl,rfl,rfl⟩
def BestO (ok:Nat→Bool) (num far:Nat→Nat) (m b:Nat):Prop:=b<m∧ok b=true∧∀j,j<m→ok j=true→le3 num far b j
def StO (ok:Nat→Bool) (num:Nat→Nat) (r m:Nat) (x y n:Int):Prop:=
 ((∀j,j<m→ok j=false)∧x=0∧y=0∧n = -1)∨∃b,BestO ok num (iK r) m b∧x=vP r b∧y=vQ r b∧n=num b
theorem StO.start (ok:Nat→Bool) (num:Nat→Nat) (r:Nat):StO ok num r 0 0 0 (-1):=.inl ⟨fun _j hj=>absurd hj (Nat.not_lt_zero _),rfl,rfl,rfl⟩
theorem StO.skip {ok:Nat→Bool} {num:Nat→Nat} {r m:Nat} {x y n:Int} (h:StO ok num r m x y n) (hk:ok m=false):StO ok num r (m+1) x y n:=by
 rcases h with ⟨h1,h2⟩|⟨b,⟨hb,hb2,hb3⟩,h2⟩
 ·refine .inl ⟨fun j hj => ?_,h2⟩;rcases Nat.lt_succ_iff_lt_or_eq.1 hj with hl|rfl
  ·exact h1 j hl
  ·exact hk
 ·refine .inr ⟨b,⟨by omega,hb2,fun j hj hj2 => ?_⟩,h2⟩;rcases Nat.lt_succ_iff_lt_or_eq.1 hj with hl|rfl
  ·exact hb3 j hl hj2
  ·rw[hk] at hj2;cases hj2
theorem StO.step {ok:Nat→Bool} {num:Nat→Nat} {r m:Nat} {x y n:Int} (h:StO ok num r m x y n) (hk:ok m=true) :
 (n<0∨(num m:Int)<n∨((num m:Int)=n∧(iK r m:Int)<x.natAbs+y.natAbs)→StO ok num r (m+1) (vP r m) (vQ r m) (num m)) ∧
 (¬(n<0∨(num m:Int)<n∨((num m:Int)=n∧(iK r m:Int)<x.natAbs+y.natAbs))→StO ok num r (m+1) x y n):=by
 rcases h with ⟨h1,rfl,rfl,rfl⟩|⟨b,⟨hb,hb2,hb3⟩,rfl,rfl,rfl⟩
 ·refine ⟨fun _=>.inr ⟨m,⟨by omega,hk,fun j hj hj2 => ?_⟩,rfl,rfl,rfl⟩,fun hn=>absurd (Or.inl (by decide)) hn⟩;rcases Nat.lt_succ_iff_lt_or_eq.1 hj with hl|rfl
  ·rw[h1 j hl] at hj2;cases hj2
  ·unfold le3;omega
 ·have e:((vP r b).natAbs:Int)+(vQ r b).natAbs=(iK r b:Int):=(by unfold iK;simp);rw[e];refine ⟨fun hc=>.inr ⟨m,⟨by omega,hk,fun j hj hj2 => ?_⟩,rfl,rfl,rfl⟩,fun hc=>.inr ⟨b,⟨by omega,hb2,fun j hj hj2 => ?_⟩,rfl,rfl,rfl⟩⟩
  ·rcases Nat.lt_succ_iff_lt_or_eq.1 hj with hl|rfl
   ·have:=hb3 j hl hj2;unfold le3 at this ⊢;omega
   ·unfold le3;omega
  ·rcases Nat.lt_succ_iff_lt_or_eq.1 hj with hl|rfl
   ·exact hb3 j hl hj2
   ·unfold le3;omega
def wU (ok:Nat→Bool) (num:Nat→Nat) (r m:Nat) (p:Int × Int × Int):Int × Int × Int:=
 if ok m=true∧(p.2.2<0∨(num m:Int)<p.2.2∨((num m:Int)=p.2.2∧(iK r m:Int)<p.1.natAbs+p.2.1.natAbs)) then (vP r m,vQ r m,(num m:Int)) else p
def mD (ok : Nat → Bool) (num : Nat → Nat) (r : Nat) : Nat → Int × Int × Int
 |0=>(0,0,-1)
 |m+1=>wU ok num r m (mD ok num r m)
theorem vR (ok : Nat → Bool) (num : Nat → Nat) (r : Nat) : ∀ m, StO ok num r m (mD ok num r m).1 (mD ok num r m).2.1 (mD ok num r m).2.2
 |0=>StO.start ok num r
 |m+1=>by
  have ih:=vR ok num r m;show StO ok num r (m+1) (wU ok num r m (mD ok num r m)).1 (wU ok num r m (mD ok num r m)).2.1 (wU ok num r m (mD ok num r m)).2.2;generalize mD ok num r m=p at ih;unfold wU;by_cases hk:ok m=true
  ·by_cases hc:p.2.2<0∨(num m:Int)<p.2.2∨((num m:Int)=p.2.2∧(iK r m:Int)<p.1.natAbs+p.2.1.natAbs)
   ·rw[if_pos ⟨hk,hc⟩];exact (ih.step hk).1 hc
   ·rw[if_neg (fun h=>hc h.2)];exact (ih.step hk).2 hc
  ·rw[if_neg (fun h=>hk h.1)];exact ih.skip (by simpa using hk)
theorem StO.bd {ok:Nat→Bool} {num:Nat→Nat} {r m:Nat} {x y n:Int} (h:StO ok num r m x y n) (hm:m≤(2*r+1)*(2*r+1)) (hr:r≤40):(-40≤x∧x≤40)∧(-40≤y∧y≤40):=by
 rcases h with ⟨_,rfl,rfl,_⟩|⟨b,hb,rfl,rfl,_⟩
 ·omega
 ·have h1:b % (2*r+1)<2*r+1:=Nat.mod_lt _ (by omega);have h2:b / (2*r+1)<2*r+1:=Nat.div_lt_of_lt_mul (Nat.lt_of_lt_of_le hb.1 hm);unfold vP vQ;generalize b % (2*r+1)=p at h1 ⊢;generalize b / (2*r+1)=q at h2 ⊢;omega
def SeenO (ok:Nat→Bool) (far:Nat→Nat) (K f m j:Nat):Prop:=Seen far K f m j∧ok j=true
def BestP (ok:Nat→Bool) (num far:Nat→Nat) (K f m b:Nat):Prop:=SeenO ok far K f m b∧∀j,SeenO ok far K f m j→le3 num far b j
def StP (ok:Nat→Bool) (num:Nat→Nat) (r f m:Nat) (x y n:Int) (found:Bool):Prop:=
 (found=false∧x=0∧y=0∧n=0∧∀j,¬SeenO ok (iK r) ((2*r+1)*(2*r+1)) f m j)∨(found=true∧∃b,BestP ok num (iK r) ((2*r+1)*(2*r+1)) f m b∧x=vP r b∧y=vQ r b∧n=num b)
theorem Seen.succ {far:Nat→Nat} {K f m j:Nat} (h:Seen far K f (m+1) j):Seen far K f m j∨(j=m∧far m=f):=by
 unfold Seen at h ⊢;rcases h with ⟨h1,h2|⟨h2,h3⟩⟩
 ·exact .inl ⟨h1,.inl h2⟩
 ·rcases Nat.lt_succ_iff_lt_or_eq.1 h3 with h|rfl
  ·exact .inl ⟨h1,.inr ⟨h2,h⟩⟩
  ·exact .inr ⟨rfl,h2⟩
theorem Seen.mono {far:Nat→Nat} {K f m j:Nat} (h:Seen far K f m j):Seen far K f (m+1) j:=by
 unfold Seen at h ⊢;omega
theorem StP.skip {ok:Nat→Bool} {num:Nat→Nat} {r f m:Nat} {x y n:Int} {found:Bool} (h:StP ok num r f m x y n found) (hf:iK r m≠f∨ok m=false):StP ok num r f (m+1) x y n found:=by
 have key:∀j,SeenO ok (iK r) ((2*r+1)*(2*r+1)) f (m+1) j→SeenO ok (iK r) ((2*r+1)*(2*r+1)) f m j:=fun j hj=>by
  rcases hj.1.succ with h1|⟨rfl,h2⟩
  ·exact ⟨h1,hj.2⟩
  ·rcases hf with hf|hf
   ·exact absurd h2 hf
   ·have h3:=hj.2;rw[hf] at h3;cases h3
 rcases h with ⟨h1,h2,h3,h4,h5⟩|⟨h1,b,⟨hb,hb2⟩,h2⟩
 ·exact .inl ⟨h1,h2,h3,h4,fun j hj=>h5 j (key j hj)⟩
 ·exact .inr ⟨h1,b,⟨⟨hb.1.mono,hb.2⟩,fun j hj=>hb2 j (key j hj)⟩,h2⟩
theorem StP.take {ok:Nat→Bool} {num:Nat→Nat} {r f m:Nat} {x y n:Int} {found:Bool} (h:StP ok num r f m x y n found) (hm:m<(2*r+1)*(2*r+1)) (hf:iK r m=f) (hk:ok m=true) (hc:found=false∨(num m:Int)<n):StP ok num r f (m+1) (vP r m) (vQ r m) (num m) true:=by
 refine .inr ⟨rfl,m,⟨⟨⟨hm,.inr ⟨hf,by omega⟩⟩,hk⟩,fun j hj => ?_⟩,rfl,rfl,rfl⟩;rcases hj.1.succ with h1|⟨rfl,-⟩
 ·rcases h with ⟨-,-,-,-,h5⟩|⟨hfd,b,⟨hb,hb2⟩,-,-,hn⟩
  ·exact absurd ⟨h1,hj.2⟩ (h5 j)
  ·have hl:=hb2 j ⟨h1,hj.2⟩;have hlt:num m<num b:=by
    rcases hc with hc|hc
    ·rw[hfd] at hc;cases hc
    ·omega
   unfold le3 at hl ⊢;omega
 ·unfold le3;omega
theorem StP.keep {ok:Nat→Bool} {num:Nat→Nat} {r f m:Nat} {x y n:Int} {found:Bool} (h:StP ok num r f m x y n found) (hf:iK r m=f) (hc:¬(found=false∨(num m:Int)<n)):StP ok num r f (m+1) x y n found:=by
 rcases h with ⟨h1,-⟩|⟨h1,b,⟨hb,hb2⟩,rfl,rfl,rfl⟩
 ·exact absurd (Or.inl h1) hc
 ·refine .inr ⟨h1,b,⟨⟨hb.1.mono,hb.2⟩,fun j hj => ?_⟩,rfl,rfl,rfl⟩;rcases hj.1.succ with h2|⟨rfl,h2⟩
  ·exact hb2 j ⟨h2,hj.2⟩
  ·have hb3:=hb.1;unfold Seen at hb3;unfold le3;omega
theorem StP.level {ok:Nat→Bool} {num:Nat→Nat} {r f:Nat} {x y n:Int} {found:Bool} (h:StP ok num r f ((2*r+1)*(2*r+1)) x y n found):StP ok num r (f+1) 0 x y n found:=by
 have key:∀j,Seen (iK r) ((2*r+1)*(2*r+1)) f ((2*r+1)*(2*r+1)) j↔Seen (iK r) ((2*r+1)*(2*r+1)) (f+1) 0 j:=fun j=>(by unfold Seen;omega);rcases h with ⟨h1,h2,h3,h4,h5⟩|⟨h1,b,⟨hb,hb2⟩,h2⟩
 ·exact .inl ⟨h1,h2,h3,h4,fun j hj=>h5 j ⟨(key j).2 hj.1,hj.2⟩⟩
 ·exact .inr ⟨h1,b,⟨⟨(key b).1 hb.1,hb.2⟩,fun j hj=>hb2 j ⟨(key j).2 hj.1,hj.2⟩⟩,h2⟩
theorem StP.start (ok:Nat→Bool) (num:Nat→Nat) (r:Nat):StP ok num r 0 0 0 0 0 false:=
 .inl ⟨rfl,rfl,rfl,rfl,fun j hj=>by have:=hj.1;unfold Seen at this;omega⟩
theorem StO.same {ok:Nat→Bool} {num:Nat→Nat} {r:Nat} {x y n x' y' n':Int} {found:Bool} (h:StO ok num r ((2*r+1)*(2*r+1)) x y n) (k:StP ok num r (2*r+1) 0 x' y' n' found) (hex:∃j,j<(2*r+1)*(2*r+1)∧ok j=true):x=x'∧y=y'∧n=n'∧0≤n:=by
 obtain ⟨j,hj,hk⟩:=hex;rcases h with ⟨h,_⟩|⟨b,⟨hb,hb2,hb3⟩,rfl,rfl,rfl⟩
 ·rw[h j hj] at hk;cases hk
 ·rcases k with ⟨-,-,-,-,k⟩|⟨-,c,⟨⟨hc1,hc2⟩,hc3⟩,rfl,rfl,rfl⟩
  ·exact absurd ⟨⟨hj,.inl (L9 r j hj)⟩,hk⟩ (k j)
  ·have e:b=c:=le3.anti (hb3 c hc1.1 hc2) (hc3 b ⟨⟨hb,.inl (L9 r b hb)⟩,hb2⟩);subst e;exact ⟨rfl,rfl,rfl,by omega⟩
theorem StP.eq {ok:Nat→Bool} {num:Nat→Nat} {r:Nat} {x y n:Int} {found:Bool} (k:StP ok num r (2*r+1) 0 x y n found) (hex:∃j,j<(2*r+1)*(2*r+1)∧ok j=true):(x,y,n)=mD ok num r ((2*r+1)*(2*r+1))∧0≤n:=by
 obtain ⟨e1,e2,e3,e4⟩:=(vR ok num r ((2*r+1)*(2*r+1))).same k hex;refine ⟨?_,by omega⟩;rw[←e1,←e2,←e3]
def mO (l:List Int):List Int:=l.mergeSort fun x y=>decide (x≤y)
theorem wW (l:List Int):(mO l).length=l.length:=List.length_mergeSort _
theorem SG {l:List Int} {x:Int}:x∈mO l↔x∈l:=List.mem_mergeSort
end Go.Proofs.YtllefinciimffaaGreatDoor
namespace Go.Proofs.YtllefinciimffaaGreatDoor
open Go.RowKit
theorem AR (W H:Int) (A:Option Addr) (an ac:Nat) (bs:List Bool) (w:World) (hA:Reads w 1 A an (bs.map .bool)) :
 Calls Tryz.prog 33 #[.agg #[W,H,.slice A an ac]] w fun e w'=>
  ∃ X Y BW BH err, e = .returned (.tuple #[.agg #[.int .i64 X, .int .i64 Y, .int .i64 BW, .int .i64 BH], .int .i64 err]) ∧ (aF W H an ≠ 0 → err = aF W H an ∧ X = 0 ∧ Y = 0 ∧ BW = 0 ∧ BH = 0) ∧
   (aF W H an=0→∃is,BoundsIs bs W.toNat H.toNat is X Y BW BH∧err=aE (!is) 10)∧Bl w w':=by
 let w2:=((w).alloc (.cells #[W,H,.slice A an ac] 43)).alloc (.cells #[.int .i64 0,.int .i64 0,.int .i64 0,.int .i64 0] 58);obtain ⟨w2b,w21,w22⟩:=aHP (x:=w2) w _ _ _ _ rfl;have k1:=w21.all3;by_cases hp:aF W H an=0
 ·have Hp:=aHH hp;obtain ⟨W,H,rfl,rfl,rfl,u1,u2,u3⟩:=dQ hp;have HA:=aHH (hA.bl w2b);have St:=aHH (BInv.start bs W H);clear hA
  go_in
  go_wp2_with fail;refine (cQ _ _ _ _ _ _).mono ?_;rintro e w3 ⟨rfl,hb3⟩;have k3:=(w21.bl hb3).all3;clear k1;go_upto_region 4 with fail;refine aHZ [aHX 0,aHX 1,aHX 2,aHX 3,aHX 4,aHX 5,aHX 6,aHX 7] (by kernel_rfl) ?_
  iterate 4
   apply Flow.calm2 _ _ rfl rfl
   ·intro a b c d;obtain ⟨e,f⟩:=b.rule;go_simp;(try go_ints);exact d
   ·intro a b;simp only[sqA];exact b
  iterate 4
   apply Flow.asg _ rfl
   ·intro a b;simp only[sqA,Act.eval,sqC];exact b
  refine Flow.done ?_;clear hp;go_wp2_with fail;go_loopw [5,6,7,8,26] (fun a b c d u wr=>∃(i:Nat) (l t r z:Int),i≤W*H∧u=.int .i64 i∧a=.int .i64 l∧b=.int .i64 t∧c=.int .i64 r∧d=.int .i64 z∧Hid (BInv bs W H i l t r z)∧Bl w3 wr) (fun _ _ _ _ u _=>W*H-(intOf u).toNat);case atStart=>exact ⟨0,_,_,_,_,Nat.zero_le _,rfl,rfl,rfl,rfl,rfl,St,(Bl.refl _).drew⟩
  case round=>
   clear k3;obtain ⟨i,l,t,r,z,hi,rfl,rfl,rfl,rfl,rfl,q9,hbr⟩:=hrel;have k3:=((w21.bl hb3).bl hbr).all3;by_cases hlt:i<W*H
   ·have hWp:¬(W=0):=(by rintro rfl;simp at hlt);have il:(i:Int)<(W:Int)*(H:Int):=(by have:=aIG W H;omega);obtain ⟨ad,ua,eA,hu,hca⟩:=((HA.out.bl hb3).bl hbr).at_ hlt;have hua:ua=.bool (bs.getD i false):=by
     simp only[aId,Option.map_eq_some_iff] at hu;obtain ⟨b,hb1,hb2⟩:=hu;rw[←hb2,List.getD,hb1];rfl
    clear hu;subst hua eA;cases hva:bs.getD i false
    ·have hn:=q9.out.no hva;have Hn:=aHH hn;rw[hva] at hca;clear hn hva q9;go_wp2_with fail;exact ⟨⟨i+1,_,_,_,_,hlt,by go_num,rfl,rfl,rfl,rfl,Hn,hbr⟩,by simp[intOf];omega⟩
    ·obtain ⟨mlt,dlt,_⟩:=eR hlt;have hy:=fun l' t' r' z' e1 e2 e3 e4=>q9.out.yes (l':=l') (t':=t') (r':=r') (b':=z') hva mlt dlt e1 e2 e3 e4;rw[hva] at hca;obtain ⟨xi,hxi⟩:=aH0 (i % W);obtain ⟨yi,hyi⟩:=aH0 (i / W);have e1:(i:Int) % (W:Int)=(xi:Int):=(by rw[hxi];simp);have e2:(i:Int) / (W:Int)=(yi:Int):=(by rw[hyi];simp);have e3:=hxi.symm;have e4:=hyi.symm;rw[←hxi] at mlt;rw[←hyi] at dlt;simp only[←hxi,←hyi] at hy;have hbd:=q9.out.bd hi;obtain ⟨l',hl'⟩:∃l',l'=if (xi:Int)<l then (xi:Int) else l:=⟨_,rfl⟩;obtain ⟨t',ht'⟩:∃t',t'=if (yi:Int)<t then (yi:Int) else t:=⟨_,rfl⟩;obtain ⟨r',hr'⟩:∃r',r'=if r<(xi:Int) then (xi:Int) else r:=⟨_,rfl⟩;obtain ⟨z',hz'⟩:∃z',z'=if z<(yi:Int) then (yi:Int) else z:=⟨_,rfl⟩;have Hn:=aHH (hy l' t' r' z' hl' ht' hr' hz');have f1:=hl'.symm;have f2:=ht'.symm;have f3:=hr'.symm;have f4:=hz'.symm;have g1:(if l<(xi:Int) then l else (xi:Int))=l':=(by rw[hl'];split<;>split<;>omega);have g2:(if t<(yi:Int) then t else (yi:Int))=t':=(by rw[ht'];split<;>split<;>omega);have g3:(if (xi:Int)<r then r else (xi:Int))=r':=(by rw[hr'];split<;>split<;>omega);have g4:(if (yi:Int)<z then z else (yi:Int))=z':=(by rw[hz'];split<;>split<;>omega);clear hxi hyi hy q9 hva hl' ht' hr' hz';go_upto_region 9 with fail;refine aHZ [aHX 0,aHX 1,aHX 2,aHX 3,aHX 4,aHX 5,aHX 6,aHX 7,aHX 8,aHX 9] (by kernel_rfl) ?_
     iterate 2
      apply Flow.mv _ rfl
      ·intro a b;simp only[sqA,Act.eval,sqC];exact b
      iterate 3
       apply Flow.calm2 _ _ rfl rfl
       ·intro a b c d;obtain ⟨e,f⟩:=b.rule;go_simp;(try go_ints);exact d
       ·intro a b;simp only[sqA];exact b
     iterate 2
      apply Flow.asg _ rfl
      ·intro a b;simp only[sqA,Act.eval,sqC];exact b
     refine Flow.done ?_;go_wp2_with fail;exact ⟨⟨i+1,_,_,_,_,hlt,by go_num,rfl,rfl,rfl,rfl,Hn,hbr.drew⟩,by simp[intOf];omega⟩
   ·obtain rfl:i=W*H:=(by omega);have hbd:=q9.out.bd (Nat.le_refl _);have k2:=((w22.bl hb3).bl hbr).all4;have hle:=(w2b.trans hb3).trans hbr;rcases q9.out.done with ⟨hr,hbi⟩|⟨hr,hbi⟩
    ·have Hbi:=aHH hbi;clear q9 hbi;go_wp2_with fail;have hp:=Hp.out;refine aIx (v:=.tuple #[.agg #[.int .i64 0,.int .i64 0,.int .i64 0,.int .i64 0],.int .i64 10]) (by simp[results,Tryz.results33,go_sem,k2]) rfl ⟨_,_,_,_,_,rfl,fun h=>absurd hp h,fun _=>by first|exact ⟨false,by simpa using Hbi.out,rfl⟩|exact Or.inl ⟨by simpa using Hbi.out,rfl⟩,?_⟩;exact ((((hle.setCell (by simp) _).setCell (by simp) _).setCell (by simp) _).setCell (by simp) _)
    ·have Hbi:=aHH hbi;clear q9 hbi;go_wp2_with fail;have hp:=Hp.out;refine aIx (v:=.tuple #[.agg #[l,t,.int .i64 (r-l+1),.int .i64 (z-t+1)],.int .i64 0]) (by simp[results,Tryz.results33,go_sem,k2]) rfl ⟨_,_,_,_,_,rfl,fun h=>absurd hp h,fun _=>by first|exact ⟨true,by simpa using Hbi.out,rfl⟩|exact Or.inr ⟨by simpa using Hbi.out,rfl⟩,?_⟩;exact ((((hle.setCell (by simp) _).setCell (by simp) _).setCell (by simp) _).setCell (by simp) _)
 ·have hq:(aF W H an != 0)=true:=(by simp[hp]);have Hp:=aHH hp;clear hp
  go_in
  go_wp2_with fail;refine (cQ _ _ _ _ _ _).mono ?_;rintro e w3 ⟨rfl,hb3⟩;have k2:=(w22.bl hb3).all4;go_wp2_with fail;refine aIx (v:=.tuple #[.agg #[.int .i64 0,.int .i64 0,.int .i64 0,.int .i64 0],.int .i64 (aF W H an)]) (by simp[results,Tryz.results33,go_sem,k2]) rfl ⟨_,_,_,_,_,rfl,fun _=>⟨rfl,rfl,rfl,rfl,rfl⟩,fun h=>absurd h Hp.out,?_⟩;exact (((((w2b.trans hb3).setCell (by simp) _).setCell (by simp) _).setCell (by simp) _).setCell (by simp) _)
theorem wX (n:Int) (w:World) (h:-1000000≤n∧n≤1000000):Calls Tryz.prog 240 #[n] w fun e w'=>e=.returned (.int .i64 (n.natAbs:Int))∧w=w':=by
 have h1:(if n < -n then -n else n)=(n.natAbs:Int):=(by split<;>omega);have h2:(if -n<n then n else -n)=(n.natAbs:Int):=by split<;>omega
 go_in
 go_wp2
 go_ret;exact ⟨rfl,rfl⟩
theorem SH (bs cs:List Bool) (W H:Nat) (dx dy:Int) (x y:Nat) (hx:x<W) (hy:y<H) :
 AQ bs cs W H dx dy (y*W+x+1)=AQ bs cs W H dx dy (y*W+x)+(if (atI bs W H x y != atI cs W H ((x:Int)-dx) ((y:Int)-dy))=true then 1 else 0):=by
 have ex:(y*W+x) % W=x:=(by rw[Nat.mul_comm,Nat.mul_add_mod,Nat.mod_eq_of_lt hx]);have ey:(y*W+x) / W=y:=(by rw[Nat.mul_comm,Nat.mul_add_div (by omega),Nat.div_eq_of_lt hx,Nat.add_zero]);have e:sX bs cs W H dx dy (y*W+x)=(atI bs W H x y != atI cs W H ((x:Int)-dx) ((y:Int)-dy)):=by
  unfold sX;rw[ex,ey,t8 bs W H x y hx hy];rfl
 rw[AQ,e]
theorem FI (W H : Nat) (A C : Option Addr) (ac cc : Nat) (bs cs : List Bool) (dx dy : Int) (w : World) (hA : Reads w 1 A (W * H) (bs.map .bool)) (hC : Reads w 1 C (W * H) (cs.map .bool)) (hW : W ≤ 4000) (hH : H ≤ 4000)
 (hx:-8≤dx∧dx≤8) (hy:-8≤dy∧dy≤8) :
 Calls Tryz.prog 188 #[.agg #[W, H, .slice A (W * H) ac], .agg #[W, H, .slice C (W * H) cc], dx, dy] w
  fun e w'=>e=.returned (.int .i64 (AQ bs cs W H dx dy (W*H)))∧Bl w w':=by
 let w2:=((w).alloc (.cells #[W,H,.slice A (W*H) ac] 43)).alloc (.cells #[W,H,.slice C (W*H) cc] 43);obtain ⟨w2b,w21,w22⟩:=aHP (x:=w2) w _ _ _ _ rfl;have k1:=w21.all3;have hbd:W*H≤16000000:=by have:=aIH hW hH;omega
 go_in
 go_wp2_with fail;go_loopw [9,14] (fun n u wr=>∃y:Nat,y≤H∧u=.int .i64 y∧n=.int .i64 (AQ bs cs W H dx dy (y*W))∧Bl w2 wr) (fun _ u _=>H-(intOf u).toNat);case atStart=>exact ⟨0,Nat.zero_le _,rfl,by rw[Nat.zero_mul];rfl,Bl.refl _⟩
 case round=>
  obtain ⟨y,hy1,rfl,rfl,hbr⟩:=hrel;have k1:=(w21.bl hbr).all3;by_cases hlt:y<H
  ·go_wp2_with fail;go_loopw [9,19] (fun n u wr=>∃x:Nat,x≤W∧u=.int .i64 x∧n=.int .i64 (AQ bs cs W H dx dy (y*W+x))∧Bl w2 wr) (fun _ u _=>W-(intOf u).toNat);case atStart=>exact ⟨0,Nat.zero_le _,rfl,rfl,hbr⟩
   case round=>
    clear k1 hbr
    rename_i wo _ _ _
    obtain ⟨x,hx1,rfl,rfl,hbr⟩:=hrel;have k1:=(w21.bl hbr).all3;have k2:=(w22.bl hbr).all3;by_cases iH:x<W
    ·have hs:=SH bs cs W H dx dy x y iH hlt;have hp:=d8 iH hlt;have hc:=C6 bs cs W H dx dy (y*W+x);have ha1:=uA W H A ac bs (x:Int) (y:Int) wr.drew (((hA.bl w2b).bl hbr).bl (Bl.refl _).drew) hW hH;have ha2:=fun (w1:World) (hb:Bl wr.drew w1)=>uA W H C cc cs ((x:Int)-dx) ((y:Int)-dy) w1 ((((hC.bl w2b).bl hbr).bl (Bl.refl _).drew).bl hb) hW hH;obtain ⟨va,hva⟩:=aH0 (atI bs W H x y);obtain ⟨vb,hvb⟩:=aH0 (atI cs W H ((x:Int)-dx) ((y:Int)-dy));obtain ⟨n0,hn0⟩:=aH0 (AQ bs cs W H dx dy (y*W+x));rw[←hva] at ha1;rw[←hvb] at ha2;rw[←hva,←hvb,←hn0] at hs;rw[←hn0] at hc ⊢;obtain ⟨Ha1,Ha2,Hs,Hn⟩:=aHJ ha1 ha2 hs hn0;clear ha1 ha2 hva hvb hs hn0;cases va<;>cases vb
     all_goals
      go_wp2_with fail;refine aHZ [aHX 0,aHX 1,aHX 2,aHX 4,aHX 5,aHX 6,aHX 7,aHX 8,aHX 9,aHX 10,aHY 3,aHY 11,aHX 12] (by kernel_rfl) ?_
      iterate 3
       apply Flow.calm2 _ _ rfl rfl
       ·intro a b c d;obtain ⟨e,f⟩:=b.rule;go_simp;(try go_ints);exact d
       ·intro a b;simp only[sqA];exact b
       iterate 2
        apply Flow.mv _ rfl
        ·intro a b;simp only[sqA,Act.eval,sqC];exact b
      apply Flow.calm2 _ _ rfl rfl
      ·intro a b c d;obtain ⟨e,f⟩:=b.rule;go_simp;(try go_ints);exact d
      ·intro a b;simp only[sqA];exact b
      apply Flow.move rfl;go_wp2_with fail;refine Ha1.out.mono ?_;rintro e w1 ⟨rfl,HB1⟩;go_wp2_with fail;refine ⟨fun _=>(by first|exact HB1|exact Bl.refl _),?_⟩;apply Flow.move rfl;go_wp2_with fail;refine (Ha2.out _ HB1).mono ?_;rintro e w3 ⟨rfl,HB2⟩;go_wp2_with fail;refine ⟨fun _=>(by first|exact HB2|exact Bl.refl _),?_⟩;apply Flow.calm2 _ _ rfl rfl
      ·intro a b c d;obtain ⟨e,f⟩:=b.rule;go_simp;(try go_ints);exact d
      ·intro a b;simp only[sqA];exact b
      refine Flow.done ?_;go_wp2_with fail;exact ⟨⟨x+1,iH,by go_num,by have:=Hs.out;simp at this;rw[←Nat.add_assoc,this];try simp,((hbr.trans (Bl.refl _).drew).trans HB1).trans HB2⟩,by simp[intOf];omega⟩
    ·go_wp2_with fail;obtain rfl:x=W:=(by omega);exact ⟨⟨y+1,hlt,by go_num,by rw[Nat.add_mul,Nat.one_mul],hbr⟩,by simp[intOf];omega⟩
  ·obtain rfl:y=H:=(by omega);go_wp2_with fail;go_ret;exact ⟨cP (by rw[Nat.mul_comm]),w2b.trans hbr⟩
def iL (bW bH cW cH:Nat) (x y:Int):Bool:=decide (x≤-(cW:Int))||decide ((bW:Int)≤x)||decide (y≤-(cH:Int))||decide ((bH:Int)≤y)
def oJ (bs cs:List Bool) (bW bH cW cH:Nat) (x y:Int) (u v:Nat):Bool:=pix bs bW u v||(!iL bW bH cW cH x y&&atI cs cW cH ((u:Int)-x) ((v:Int)-y))
theorem C7 {bW bH cW cH:Nat} {x y:Int} (h:iL bW bH cW cH x y=false):-(cW:Int)<x∧x<bW∧-(cH:Int)<y∧y<bH:=by
 simp[iL] at h;omega
theorem OF {bs cs:List Bool} {bW bH cW cH:Nat} {x y:Int} {u v:Nat} (h:pix bs bW u v=true):oJ bs cs bW bH cW cH x y u v=true:=by simp[oJ,h]
theorem uC {bs cs:List Bool} {bW bH cW cH:Nat} {x y:Int} {u v:Nat} (h:pix bs bW u v=false) (h2:iL bW bH cW cH x y=true):oJ bs cs bW bH cW cH x y u v=false:=by simp[oJ,h,h2]
theorem FJ {bs cs:List Bool} {bW bH cW cH:Nat} {x y:Int} {u v:Nat} (h:pix bs bW u v=false) (h2:iL bW bH cW cH x y=false):oJ bs cs bW bH cW cH x y u v=atI cs cW cH ((u:Int)-x) ((v:Int)-y):=by simp[oJ,h,h2]
theorem OG (pb pa px py pc : Nat) (bW bH cW cH : Nat) (A C : Option Addr) (bc cc : Nat) (bs cs : List Bool) (x y : Int) (u v : Nat) (w : World)
 (h1:Blk w pb 43 #[bW,bH,.slice A (bW*bH) bc]) (h2:Blk w pa 4 #[.bool (iL bW bH cW cH x y)]) (h3:Blk w px 3 #[x]) (h4:Blk w py 3 #[y])
 (h5:Blk w pc 43 #[cW,cH,.slice C (cW*cH) cc])
 (hA:Reads w 1 A (bW*bH) (bs.map .bool)) (hC:Reads w 1 C (cW*cH) (cs.map .bool)) (b1:bW≤4000) (b2:bH≤4000) (b3:cW≤4000) (b4:cH≤4000) (hu:u<bW) (hv:v<bH) :
 Calls Tryz.prog 104 #[u, v, .pointer (some ⟨pb, 0, none⟩), .pointer (some ⟨pa, 0, none⟩), .pointer (some ⟨px, 0, none⟩), .pointer (some ⟨py, 0, none⟩), .pointer (some ⟨pc, 0, none⟩)] w
  fun e w'=>e=.returned (.bool (oJ bs cs bW bH cW cH x y u v))∧Bl w w':=by
 have k1:=h1.all3;have k2:=h2.all1;have k3:=h3.all1;have k4:=h4.all1;have k5:=h5.all3;obtain ⟨ad,rfl,hc⟩:=hA.place hu hv;have hk:=d8 hu hv;obtain ⟨k,hkk⟩:=aH0 (v*bW+u);rw[←hkk] at hc hk;have ek:(v:Int)*(bW:Int)+(u:Int)=(k:Int):=(by rw[hkk];simp);have hkl:(k:Int)<(bW:Int)*(bH:Int):=(by have:=aIG bW bH;omega);have hq:(0:Int)≤(v:Int)*(bW:Int)∧(v:Int)*(bW:Int)≤16000000:=by
  have h5:=aIG v bW;have h6:=aIH (show v≤4000 by omega) b1;omega
 have Hkk:=aHH hkk;clear hkk h1 h2 h3 h4 h5 hA;cases hp:pix bs bW u v
 case true=>
  have hf:=OF (cs:=cs) (bH:=bH) (cW:=cW) (cH:=cH) (x:=x) (y:=y) hp;rw[hp] at hc;have Hf:=aHH hf;have Hp:=aHH hp;clear hf hp hC
  go_in
  go_wp2
  go_ret;exact ⟨aS Hf.out.symm,Bl.refl _⟩
 case false=>
  rw[hp] at hc;cases ha:iL bW bH cW cH x y
  case true=>
   have hf:=uC (cs:=cs) hp ha;rw[ha] at k2;obtain ⟨Hf,Hp,Ha⟩:=aHI hf hp ha;clear hf hp ha hC
   go_in
   go_wp2
   go_ret;exact ⟨aS Hf.out.symm,Bl.refl _⟩
  case false=>
   have hf:=FJ (cs:=cs) hp ha;obtain ⟨r1,r2,r3,r4⟩:=C7 ha;rw[ha] at k2;obtain ⟨Hf,Hp,Ha⟩:=aHI hf hp ha;clear hf hp ha;by_cases c1:0≤(u:Int)-x∧(u:Int)-x<cW∧0≤(v:Int)-y∧(v:Int)-y<cH
   ·obtain ⟨c1,c2,c3,c4⟩:=c1;obtain ⟨X,hX⟩:=Int.eq_ofNat_of_zero_le c1;obtain ⟨Y,hY⟩:=Int.eq_ofNat_of_zero_le c3;have hXl:X<cW:=(by omega);have hYl:Y<cH:=(by omega);have hat:=t8 cs cW cH X Y hXl hYl;rw[←hX,←hY] at hat;obtain ⟨cd,rfl,hd⟩:=hC.place hXl hYl;have hj:=d8 hXl hYl;obtain ⟨j,hjj⟩:=aH0 (Y*cW+X);rw[←hjj] at hd hj;have ej:((v:Int)-y)*(cW:Int)+((u:Int)-x)=(j:Int):=(by rw[hjj,hX,hY];simp);have hjl:(j:Int)<(cW:Int)*(cH:Int):=(by have:=aIG cW cH;omega);have hqj:(0:Int)≤((v:Int)-y)*(cW:Int)∧((v:Int)-y)*(cW:Int)≤16000000:=by
     have h5:=aIG Y cW;have h6:=aIH (show Y≤4000 by omega) b3;rw[hY];omega
    obtain ⟨Hat,HX,HY,Hjj⟩:=aHJ hat hX hY hjj;clear hat hX hY hjj hC
    go_in
    go_wp2_with fail;refine aHZ [aHX 0,aHX 1,aHX 2,aHX 3,aHX 4,aHX 5,aHX 6,aHX 7] (by kernel_rfl) ?_;apply Flow.mv _ rfl
    ·intro a b;simp only[sqA,Act.eval,sqC];exact b
    iterate 2
     apply Flow.calm2 _ _ rfl rfl
     ·intro a b c d;obtain ⟨e,f⟩:=b.rule;go_simp;(try go_ints);exact d
     ·intro a b;simp only[sqA];exact b
    apply Flow.mv _ rfl
    ·intro a b;simp only[sqA,Act.eval,sqC];exact b
    iterate 2
     apply Flow.calm2 _ _ rfl rfl
     ·intro a b c d;obtain ⟨e,f⟩:=b.rule;go_simp;(try go_ints);exact d
     ·intro a b;simp only[sqA];exact b
    iterate 2
     apply Flow.asg _ rfl
     ·intro a b;simp only[sqA,Act.eval,sqC];exact b
    refine Flow.done ?_;go_wp2_with fail;go_ret;exact ⟨aS (by rw[Hf.out,Hat.out]),(Bl.refl _).drew⟩
   ·have hat:=CR cs cW cH ((u:Int)-x) ((v:Int)-y) c1;have Hat:=aHH hat;clear hat hC;have VF:(u:Int)-x<0∨(0≤(u:Int)-x∧(cW:Int)≤(u:Int)-x)∨(0≤(u:Int)-x∧(u:Int)-x<cW∧(v:Int)-y<0)∨(0≤(u:Int)-x∧(u:Int)-x<cW∧0≤(v:Int)-y∧(cH:Int)≤(v:Int)-y):=(by omega);clear c1;rcases VF with d|⟨d,d'⟩|⟨d,d',d''⟩|⟨d,d',d'',d'''⟩
    all_goals
     go_in
     go_wp2_with fail;refine aHZ [aHX 0,aHX 1,aHX 2,aHX 3,aHX 4,aHX 5,aHX 6,aHX 7] (by kernel_rfl) ?_;apply Flow.mv _ rfl
     ·intro a b;simp only[sqA,Act.eval,sqC];exact b
     iterate 2
      apply Flow.calm2 _ _ rfl rfl
      ·intro a b c d;obtain ⟨e,f⟩:=b.rule;go_simp;(try go_ints);exact d
      ·intro a b;simp only[sqA];exact b
     apply Flow.mv _ rfl
     ·intro a b;simp only[sqA,Act.eval,sqC];exact b
     iterate 2
      apply Flow.calm2 _ _ rfl rfl
      ·intro a b c d;obtain ⟨e,f⟩:=b.rule;go_simp;(try go_ints);exact d
      ·intro a b;simp only[sqA];exact b
     iterate 2
      apply Flow.asg _ rfl
      ·intro a b;simp only[sqA,Act.eval,sqC];exact b
     refine Flow.done ?_;go_wp2_with fail;go_ret;exact ⟨aS (by rw[Hf.out,Hat.out]),(Bl.refl _).drew⟩
def uD (bs:List Bool) (W H:Nat) (dx dy:Int) (x y:Nat):Bool:=atI bs W H ((x:Int)-dx) ((y:Int)-dy)
theorem OH (p q r W H : Nat) (A : Option Addr) (ac : Nat) (bs : List Bool) (dx dy : Int) (x y : Nat) (w : World) (hp : Blk w p 43 #[W, H, .slice A (W * H) ac]) (hq : Blk w q 3 #[dx]) (hr : Blk w r 3 #[dy])
 (hA:Reads w 1 A (W*H) (bs.map .bool)) (hW:W≤4000) (hH:H≤4000) (hdx:-8000≤dx∧dx≤8000) (hdy:-8000≤dy∧dy≤8000) (hx:x≤4000) (hy:y≤4000) :
 Calls Tryz.prog 145 #[x,y,.pointer (some ⟨p,0,none⟩),.pointer (some ⟨q,0,none⟩),.pointer (some ⟨r,0,none⟩)] w fun e w'=>e=.returned (.bool (uD bs W H dx dy x y))∧Bl w w':=by
 have kp:=hp.all3;have kq:=hq.all1;have kr:=hr.all1;have hat:=uA W H A ac bs ((x:Int)-dx) ((y:Int)-dy) w hA hW hH;have Hat:=aHH hat;clear hat hA
 go_in
 go_wp2_with fail;refine Hat.out.mono ?_;rintro e w1 ⟨rfl,hb1⟩;go_wp2_with fail;go_ret;exact ⟨rfl,hb1⟩
theorem JP (W H NW NH:Nat) (A:Option Addr) (ac:Nat) (bs:List Bool) (dx dy:Int) (w:World) (hA:Reads w 1 A (W*H) (bs.map .bool)) (hW:W≤4000) (hH:H≤4000) (hNW:NW≤4000) (hNH:NH≤4000) (hdx:-8000≤dx∧dx≤8000) (hdy:-8000≤dy∧dy≤8000) :
 Calls Tryz.prog 86 #[.agg #[W,H,.slice A (W*H) ac],NW,NH,dx,dy] w fun e w'=>∃R rc,e=.returned (.agg #[NW,NH,.slice R (NW*NH) rc])∧Reads w' 1 R (NW*NH) ((fS NW NH (uD bs W H dx dy)).map .bool)∧(∀ad,R=some ad→w.heap.size+4≤ad.block)∧Bl w w':=by
 let w2:=((((w).alloc (.cells #[W,H,.slice A (W*H) ac] 43)).alloc (.cells #[dx] 3)).alloc (.cells #[dy] 3)).alloc (.cells #[.int .i64 0,.int .i64 0,.slice none 0 0] 43);obtain ⟨w2b,w21,w22,w23,w24⟩:=aHR (x:=w2) w _ _ _ _ _ _ _ _ rfl;have hbd:NW*NH≤16000000:=(by have:=aIH hNW hNH;omega);have hP:Paints Tryz.prog 145 #[.pointer (some ⟨w.heap.size,0,none⟩),.pointer (some ⟨w.heap.size+1,0,none⟩),.pointer (some ⟨w.heap.size+1+1,0,none⟩)] Value.bool w2 NW NH (uD bs W H dx dy):=
  ⟨fT Tryz.func145 (by kernel_rfl) rfl,fun wy x y hb hx hy=>OH _ _ _ W H A ac bs dx dy x y wy (w21.bl hb) (w22.bl hb) (w23.bl hb) ((hA.bl w2b).bl hb) hW hH hdx hdy (by omega) (by omega)⟩
 have HP:=aHH hP;clear hP hA;have k1:=w21.all3
 go_in
 go_wp2_with fail;refine (L4 NW NH _ _ _ _ (by omega) (by omega) (by omega) HP.out).mono ?_;rintro e w6 ⟨r,rfl,hpg,hb6⟩;have kr3:=(w24.bl hb6).all3;have aDv:=w24.lt;have ZG:=w2b.trans hb6;obtain ⟨R,rc,rfl,hR,hRn⟩:=hpg;have VG:∀ad,R=some ad→w.heap.size+4≤ad.block:=fun ad h=>(by have:=hRn ad h;omega);have HR:=aHH hR;have HRn:=aHH VG;clear hR hRn VG;go_wp2_with fail;refine aIx (v:=.agg #[NW,NH,.slice R (NW*NH) rc]) (by simp[results,Tryz.results86,go_sem,kr3]) rfl ⟨R,rc,rfl,?_,HRn.out,?_⟩
 ·exact ((HR.out.store HRn.out (by simp) _).store HRn.out (by simp) _).store HRn.out (by simp) _
 ·exact (((ZG.setCell (by simp;omega) _).setCell (by simp;omega) _).setCell (by simp;omega) _)
end Go.Proofs.YtllefinciimffaaGreatDoor
