import Derived.Test.YtllefinciimffaaGreatDoorMClaimTopForms4
import Derived.Test.YtllefinciimffaaGreatDoorMClaimTopForms5
import Derived.Carry
import Derived.MapFrom
import Derived.Laws.StructEq
import Derived.MapKept
import Derived.Shelf.Strings.Builder1
import Derived.Shelf.Strings.BuilderF
import Derived.Shelf.Strings.BuilderK
set_option maxHeartbeats 20000000
set_option maxRecDepth 100000
namespace Go.Proofs.YtllefinciimffaaGreatDoor
open Go.RowKit
theorem Blk.all5 {w:World} {g:Nat} {t:TypeId} {x y z u v:Value} (h:Blk w g t #[x,y,z,u,v]):w.cell? ⟨g,0,none⟩=some x∧w.cell? ⟨g,1,none⟩=some y∧w.cell? ⟨g,2,none⟩=some z∧w.cell? ⟨g,3,none⟩=some u∧w.cell? ⟨g,4,none⟩=some v∧∀i,w.frozen? ⟨g,i,none⟩=false:=⟨h.cell 0,h.cell 1,h.cell 2,h.cell 3,h.cell 4,h.frozen⟩
theorem aAs (bs:List Bool) (W H:Nat):decide ((0:Int)∈ZS W (aCG bs W H))=BA bs W H:=by
 unfold BA;apply decide_eq_decide.2;constructor
 ·intro h;obtain ⟨x,hx⟩:=List.getElem?_of_mem h;have hlt:x<W:=(by have:=(aLw.1 hx).1;rwa [aAb] at this);rw[EH _ hlt] at hx;have h2:aCG bs W H x=0:=aLZ hx;exact ⟨x,hlt,by unfold aCG at h2;omega⟩
 ·rintro ⟨x,hx,h0⟩;refine List.mem_of_getElem? (i:=x) ?_;rw[EH _ hx];unfold aCG;rw[h0];rfl
theorem aCQ (n:Nat):((n:Int)==0)=decide (n=0):=by
 cases n with
 |zero=>rfl
 |succ n=>rw[aLW (by omega)];exact aLU.2 (by omega)
theorem Blk.all7 {w:World} {g:Nat} {t:TypeId} {a b c d e f h:Value} (k:Blk w g t #[a,b,c,d,e,f,h]):w.cell? ⟨g,0,none⟩=some a∧w.cell? ⟨g,1,none⟩=some b∧w.cell? ⟨g,2,none⟩=some c∧w.cell? ⟨g,3,none⟩=some d∧w.cell? ⟨g,4,none⟩=some e∧w.cell? ⟨g,5,none⟩=some f∧w.cell? ⟨g,6,none⟩=some h∧∀i,w.frozen? ⟨g,i,none⟩=false:=
 ⟨k.cell 0,k.cell 1,k.cell 2,k.cell 3,k.cell 4,k.cell 5,k.cell 6,k.frozen⟩
theorem aCR (nm : List UInt8) (ht gap sp : Int) (L : Option Addr) (c : Nat) (ls : List Ltr) (W H X bw : Nat) (A : Option Addr) (ac : Nat) (bs : List Bool) (most : Int) (w : World) (hL : LtrsAt w L ls) (hA : Reads w 1 A (W * H) (bs.map .bool))
 (hW:W≤4000) (hH:1≤H∧H≤4000) (hWH:W*H≤1048576) (hX:X+bw≤W) (hbw:1≤bw) (hls:∀l∈ls,aD l.W l.H l.m=0∧l.W≤64) (hn:ls.length≤200) (hm:0≤most∧most≤1000) (hht:1≤ht∧ht≤64) :
 Calls Tryz.prog 182 #[.agg #[nm,ht,gap,sp,.slice L ls.length c],.agg #[W,H,.slice A (W*H) ac],.agg #[X,.int .i64 0,bw,H],most] w fun e w'=>
  e=.returned (.agg (dD (cQ (eS bw H (kR bs W X 0)) bw H [] ls) X bw H most ht).toArray)∧Bl w w':=by
 let w4:=((((w).alloc (.cells #[nm,ht,gap,sp,.slice L ls.length c] 46)).alloc (.cells #[W,H,.slice A (W*H) ac] 43)).alloc (.cells #[X,.int .i64 0,bw,H] 58)).alloc (.cells #[.string ⟨#[]⟩,.int .i64 0,.int .i64 0,.int .i64 0,.int .i64 0,.int .i64 0,.int .i64 0] 157);obtain ⟨w4b,w41,w42,w43,w44⟩:=aLk (x:=w4) w _ _ _ _ _ _ _ _ rfl;have lw4:w4.heap.size=w.heap.size+4:=(by simp[w4]);have HL:=aLa (hL.bl w4b);have hpz:aD (W:Int) (H:Int) (W*H)=0:=aCI (by omega) hW hH.1 hH.2 hWH;have hce:fO (W:Int) (H:Int) (W*H) (X:Int) 0 (bw:Int) (H:Int)=0:=by
  unfold fO;rw[hpz];have hin:eX (X:Int) 0 (bw:Int) (H:Int) (W:Int) (H:Int)=true:=aLX (by omega);rw[hin];rfl
 have hct:=U5 (W:Int) (H:Int) A (W*H) ac bs (X:Int) 0 (bw:Int) (H:Int) w4 (hA.bl w4b);rw[hce] at hct;simp only[aL8] at hct;have Hct:=aLa hct;have HLs:=aLa hls;have k2:=w42.all3;have k3:=w43.all4;clear hct hce hpz hA hL hls
 go_in
 go_wp2_with fail;refine Hct.out.mono ?_;rintro e w6 ⟨ca,cb,cR,cm,cd,rfl,lQ,hb6⟩;clear_value w4;obtain ⟨R',rc',e',hR,-⟩:=lQ.1 rfl;injection e' with e';simp only[Array.mk.injEq,List.cons.injEq,Value.int.injEq,Value.slice.injEq,true_and,and_true] at e';obtain ⟨rfl,rfl,rfl,rfl,rfl⟩:=e';obtain ⟨cs,hcs⟩:=aLt (eS bw H (kR bs W X 0));have hR0:Reads w6 1 cR (bw*H) (cs.map .bool):=(by rw[hcs];exact hR);obtain ⟨w7,hw7⟩:=aLt (w6.alloc (.cells #[bw,H,.slice cR (bw*H) cd] 43));obtain ⟨q,hq⟩:=aLt w6.heap.size;have bQ:=aLp hw7 hq;have QJ:=aLn hw7;have hb7:=hb6.trans QJ;have HR:=aLa (hR0.bl QJ);have HCs:=aLa hcs;clear lQ hR hR0 hcs k2 k3 Hct;go_upto_region 2 with fail;rw[←hw7,←hq];clear hw7 hq;have k3:=(w43.bl hb7).all4;obtain ⟨w8,hw8⟩:=aLt (w7.alloc (.cells #[.string ⟨#[]⟩,X,.int .i64 0,bw,H,.int .i64 (-1),.int .i64 (-1)] 157));obtain ⟨o,ho⟩:=aLt w7.heap.size;have bO:=aLp hw8 ho;have aGP:=aLn hw8;have ho7:w7.heap.size≤o:=(by omega);have HO:=aLa ho;clear ho;go_upto_region 3 with fail;rw[←hw8,←HO.out];clear hw8 k3;have k1:=(w41.bl (hb7.trans aGP)).all5;go_wp2_with fail;go_loopw [27] (fun u wr=>∃(i:Nat) (t:List UInt8) (d1 d2:Int),i≤ls.length∧u=.int .i64 i∧Bl w7 wr∧cQ cs bw H [] (ls.take i)=(t,d1,d2)∧Blk wr o 157 #[t,X,.int .i64 0,bw,H,d1,d2]) (fun u _=>ls.length-(RowKit.intOf u).toNat);case atStart=>exact ⟨0,[],-1,-1,Nat.zero_le _,rfl,aGP,rfl,bO⟩
 case round=>
  clear k1 bO aGP;obtain ⟨i,t,d1,d2,hi,rfl,hbr,NZ,hbo⟩:=hrel;have uD:=OD (cs:=cs) (W:=bw) (H:=H) [] (by omega) hH.2 (ls:=ls.take i) (fun l hl=>by
   obtain ⟨h1,h2⟩:=HLs.out l (List.mem_of_mem_take hl);obtain ⟨W',H',e1,e2,-,-,h4,-⟩:=fG h1;exact ⟨h2,by omega⟩)
  rw[NZ] at uD;have GM:d1 = -1∧d2 = -1∨(0≤d1∧d1≤32000000∧-1≤d2∧d2≤32000000):=uD;have HBe:=aLa NZ;clear NZ uD;have k3:=(w43.bl (hb7.trans hbr)).all4;have k9:=(bQ.bl hbr).all3;by_cases hlt:i<ls.length
  ·have hg:ls[i]? = some ls[i]:=aLv hlt;obtain ⟨l,hl⟩:=aLt (ls[i]);rw[←hl] at hg;have hbs:=yA (cs:=cs) (W:=bw) (H:=H) (t0:=[]) hg;rw[HBe.out] at hbs;obtain ⟨hlz,aJF⟩:=HLs.out l (List.mem_of_getElem? hg);obtain ⟨adl,rfl,j1,j2,j3,j4⟩:=(HL.out.bl (hb7.trans hbr)).at_ hg;have hlA:=(HL.out.2 l (List.mem_of_getElem? hg)).1;obtain ⟨lW,lH,elW,elH,elm,hlW,hlH,-⟩:=fG hlz;rw[elm] at hlA j4;rw[elW] at j2 aJF;rw[elH] at j3;have UD:cZ cs bw H (t,d1,d2) l=if (lW:Int)-(bw:Int) < -2∨2<(lW:Int)-(bw:Int) then (t,d1,d2) else if d1<0∨A0 cs bw H l<d1 then (l.text,A0 cs bw H l,d1) else if d2<0∨A0 cs bw H l<d2 then (t,d1,A0 cs bw H l) else (t,d1,d2):=by
    unfold cZ;rw[elW]
   rw[UD] at hbs;have aBE:A0 cs bw H l=K7 (jY cs bw H) (jY l.bs lW lH) bw H lW lH 1:=(by unfold A0;rw[elW,elH];rfl);have hfr:=s6 (W:=bw) (H:=H) (W':=lW) (H':=lH) (r:=1) (cs:=cs) (bs:=l.bs) (by omega) hH.2 hlW hlH;rw[←aBE] at hfr;have hd:=fun wx (hx:Bl w7 wx)=>vP bw H lW lH 1 cR l.A cd l.c cs l.bs wx (HR.out.bl hx) (hlA.bl (hb7.trans hx)) (by omega) hH.2 hlW hlH (by omega);rw[←aBE] at hd;obtain ⟨d,hdd⟩:=aLt (A0 cs bw H l);rw[←hdd] at hbs hd hfr;have hd':∀wx,Bl w7 wx→Calls Tryz.prog 159 #[.agg #[bw,H,.slice cR (bw*H) cd],.agg #[lW,lH,.slice l.A (lW*lH) l.c],.int .i64 1] wx fun e w'=>e=.returned (.int .i64 d)∧Bl wx w':=hd;have Hd:=aLa hd';have HBs:=aLa hbs;clear hd hd' hbs UD aBE hdd hlz hlA elW elH elm hg hl;go_upto_region 6 with fail;obtain ⟨w9,hw9⟩:=aLt (wr.alloc (.cells #[.string ⟨l.text.toArray⟩,lW,lH,.slice l.A (lW*lH) l.c] 148));obtain ⟨p,hp⟩:=aLt wr.heap.size;have b9:=aLp hw9 hp;have aIc:=aLn hw9;have hop:¬(o=p):=(by have:=hbo.lt;omega);rw[←hw9,←hp];clear hw9 hp j1 j2 j3 j4 k3 k9;have hb9:=hbr.trans aIc;have k3:=(w43.bl (hb7.trans hb9)).all4;have k9:=(bQ.bl hb9).all3;have kp:=b9.all4;have aGQ:=hbo.bl aIc;by_cases c1:(lW:Int)-(bw:Int) < -2
   ·have HN:=aLa (HBs.out.trans (if_pos (.inl c1)));go_wp2_with fail;exact ⟨⟨i+1,t,d1,d2,hlt,by go_num,hb9,HN.out,aGQ⟩,by simp[RowKit.intOf]<;>omega⟩
   ·by_cases c2:2<(lW:Int)-(bw:Int)
    ·have HN:=aLa (HBs.out.trans (if_pos (.inr c2)));go_wp2_with fail;exact ⟨⟨i+1,t,d1,d2,hlt,by go_num,hb9,HN.out,aGQ⟩,by simp[RowKit.intOf]<;>omega⟩
    ·have HB2:=aLa (HBs.out.trans (if_neg (by omega)));go_wp2_with fail;refine (Hd.out _ hb9).mono ?_;rintro e w10 ⟨rfl,aDE⟩;have QK:=hb9.trans aDE;have UE:=aGQ.bl aDE;have ko:=UE.all7;have kp:=b9.bl aDE |>.all4;clear k3 k9;have ho':w7.heap.size≤o:=ho7;by_cases c3:d1<0
     ·have HN:=aLa (HB2.out.trans (if_pos (.inl c3)));have hd2:d2=d1:=(by omega);go_wp2_with fail;exact ⟨⟨i+1,l.text,d,d1,hlt,by go_num,(QK.setCell ho' _).setCell ho' _,HN.out,by rw[←hd2];exact (UE.set_ 0 _).set_ 5 _⟩,by simp[RowKit.intOf]<;>omega⟩
     ·by_cases c4:d<d1
      ·have HN:=aLa (HB2.out.trans (if_pos (.inr c4)));go_wp2_with fail;exact ⟨⟨i+1,l.text,d,d1,hlt,by go_num,((QK.setCell ho' _).setCell ho' _).setCell ho' _,HN.out,((UE.set_ 6 _).set_ 0 _).set_ 5 _⟩,by simp[RowKit.intOf]<;>omega⟩
      ·have HB3:=aLa (HB2.out.trans (if_neg (by omega)));by_cases c5:d2<0
       ·have HN:=aLa (HB3.out.trans (if_pos (.inl c5)));go_wp2_with fail;exact ⟨⟨i+1,t,d1,d,hlt,by go_num,QK.setCell ho' _,HN.out,UE.set_ 6 _⟩,by simp[RowKit.intOf]<;>omega⟩
       ·by_cases c6:d<d2
        ·have HN:=aLa (HB3.out.trans (if_pos (.inr c6)));go_wp2_with fail;exact ⟨⟨i+1,t,d1,d,hlt,by go_num,QK.setCell ho' _,HN.out,UE.set_ 6 _⟩,by simp[RowKit.intOf]<;>omega⟩
        ·have HN:=aLa (HB3.out.trans (if_neg (by omega)));go_wp2_with fail;exact ⟨⟨i+1,t,d1,d2,hlt,by go_num,QK,HN.out,UE⟩,by simp[RowKit.intOf]<;>omega⟩
  ·obtain rfl:i=ls.length:=(by omega);have NZ:=HBe.out;rw[aLC] at NZ;have ko:=hbo.all7;have k1:=(w41.bl (hb7.trans hbr)).all5;have kz:=(w44.bl (hb7.trans hbr)).all7;have hoz:¬(o=w.heap.size+1+1+1):=(by have:=hb7.le;omega);have m1:=Int.mul_nonneg hm.1 (show 0≤ht by omega);have m2:most*ht≤64000:=Int.le_trans (Int.mul_le_mul hm.2 hht.2 (by omega) (by omega)) (by decide);have m3:=Int.mul_nonneg m1 (show (0:Int)≤(bw:Int) by omega);have m4:most*ht*(bw:Int)≤256000000:=Int.le_trans (Int.mul_le_mul m2 (show (bw:Int)≤4000 by omega) (by omega) (by omega)) (by decide);have HBt:=aLa NZ;clear NZ k9 HBe;by_cases c1:d1<0
   ·have Hv:=aLa (show dD (cQ cs bw H [] ls) X bw H most ht=[.string ⟨#[63]⟩,.int .i64 X,.int .i64 0,.int .i64 bw,.int .i64 H,.int .i64 (-1),.int .i64 (-1)] by
     rw[HBt.out];unfold dD CN;rw[if_pos (aLX (.inl c1))])
    go_wp2_with fail;try simp only[Exit.then]
    refine aL0 (v:=.agg #[.string ⟨#[63]⟩,X,.int .i64 0,bw,H,.int .i64 (-1),.int .i64 (-1)]) (by simp[results,Tryz.results182,go_sem,kz]) rfl ⟨by rw[←HCs.out,Hv.out],?_⟩;exact ((((((((w4b.trans (hb7.trans hbr)).setCell (by simp;omega) _).setCell (by simp;omega) _).setCell (by simp;omega) _).setCell (by simp;omega) _).setCell (by simp;omega) _).setCell (by simp;omega) _).setCell (by simp;omega) _)
   ·by_cases c2:most*ht*(bw:Int)<d1*1000
    ·have Hv:=aLa (show dD (cQ cs bw H [] ls) X bw H most ht=[.string ⟨#[63]⟩,.int .i64 X,.int .i64 0,.int .i64 bw,.int .i64 H,.int .i64 (-1),.int .i64 (-1)] by
      rw[HBt.out];unfold dD CN;rw[if_pos (aLX (.inr c2))])
     go_wp2_with fail;try simp only[Exit.then]
     refine aL0 (v:=.agg #[.string ⟨#[63]⟩,X,.int .i64 0,bw,H,.int .i64 (-1),.int .i64 (-1)]) (by simp[results,Tryz.results182,go_sem,kz]) rfl ⟨by rw[←HCs.out,Hv.out],?_⟩;exact ((((((((w4b.trans (hb7.trans hbr)).setCell (by simp;omega) _).setCell (by simp;omega) _).setCell (by simp;omega) _).setCell (by simp;omega) _).setCell (by simp;omega) _).setCell (by simp;omega) _).setCell (by simp;omega) _)
    ·have Hv:=aLa (show dD (cQ cs bw H [] ls) X bw H most ht=[.string ⟨t.toArray⟩,.int .i64 X,.int .i64 0,.int .i64 bw,.int .i64 H,.int .i64 d1,.int .i64 d2] by
      rw[HBt.out];unfold dD CN;rw[if_neg (by simp only[decide_eq_true_eq,not_or];exact ⟨c1,c2⟩)])
     go_wp2_with fail;try simp only[Exit.then]
     refine aL0 (v:=.agg #[t,X,.int .i64 0,bw,H,d1,d2]) (by simp[results,Tryz.results182,go_sem,kz]) rfl ⟨by rw[←HCs.out,Hv.out],?_⟩;exact ((((((((w4b.trans (hb7.trans hbr)).setCell (by simp;omega) _).setCell (by simp;omega) _).setCell (by simp;omega) _).setCell (by simp;omega) _).setCell (by simp;omega) _).setCell (by simp;omega) _).setCell (by simp;omega) _)
theorem OQ:(Tryz.prog.info? 58).map (fun i=>(i.zero,i.size,i.bytes))=some (some (.agg #[.int .i64 0,.int .i64 0,.int .i64 0,.int .i64 0]),4,32):=by kernel_rfl
theorem qK {w:World} {base:Nat} {e:TypeId} {size n g cap:Nat} {xs:List Value} (h:w.ownsRow base e size (.slice (some ⟨g,0,none⟩) n cap) n xs) {j:Nat} {u:Value} (hj:xs[j]? = some u):w.cell? ⟨g,j,none⟩=some u:=by
 obtain ⟨A,c,e2,hr⟩:=cU h;injection e2 with e1 _ _;subst e1;have hlt:j<xs.length:=(aLw.1 hj).1;have hn:0<n:=by
  rcases Nat.eq_zero_or_pos n with h0|h0
  ·have:=hr.1;rw[h0,Nat.zero_mul] at this;omega
  ·exact h0
 obtain ⟨ad,e3,hc⟩:=hr.2 hn;injection e3 with e3;subst e3;have:=hc j u hj
 rwa [iT] at this
theorem yL (W H:Int) (A:Option Addr) (an ac:Nat) (bs:List Bool) (w:World) (hA:Reads w 1 A an (bs.map .bool)) :
 Calls Tryz.prog 181 #[.agg #[W, H, .slice A an ac]] w fun e w' => ∃ R m d, e = .returned (.tuple #[.slice R m d, .int .i64 (aD W H an)]) ∧ (aD W H an ≠ 0 → R = none ∧ m = 0) ∧
  (aD W H an=0→m=(aB (lP bs W.toNat H.toNat) W.toNat).length∧Reads w' 4 R m (bR H.toNat (aB (lP bs W.toNat H.toNat) W.toNat)))∧Bl w w':=by
 let w2:=(w).alloc (.cells #[W,H,.slice A an ac] 43);obtain ⟨w2b,w21⟩:=aLh (x:=w2) w _ _ rfl;have lw2:w2.heap.size=w.heap.size+1:=(by simp[w2]);have Hcs:=aLa (xZ W H A an ac bs w2 (hA.bl w2b));have k1:=w21.all3;clear hA
 go_in
 go_wp2_with fail;refine Hcs.out.mono ?_;rintro e w3 ⟨P,m,c,rfl,hT,hb3⟩;clear_value w2;clear Hcs k1;by_cases hz:aD W H an=0;case neg=>
  have hq:(aD W H an==0)=false:=(by simp[hz]);have HZ:=aLa hz;clear hz hT;go_wp2_with fail;refine aL0 (v:=.tuple #[.slice none 0 0,.int .i64 (aD W H an)]) (by simp[results,Tryz.results181,go_sem]) rfl ⟨none,0,0,rfl,fun _=>⟨rfl,rfl⟩,fun h=>absurd h HZ.out,w2b.trans hb3⟩
 case pos=>
  have HZ:=aLa hz;rw[hz];have hT1:=hT.1 hz;obtain ⟨W,H,rfl,rfl,rfl,hW,hH,hWH⟩:=fG hz;simp only[aL8] at hT1;obtain ⟨rfl,hP⟩:=hT1;obtain ⟨f,hf⟩:=aLt (lP bs m H);have hfl:∀k,f k≤4000:=fun k=>(by rw[hf];have:=aCF bs m H k;omega);have aDF:aCG bs m H=fun k=>((f k:Nat):Int):=(by rw[hf];rfl);rw[aDF] at hP;have k1:=(w21.bl hb3).all3;have h0:w3.ownsRow w3.heap.size 58 4 (.slice none 0 0) (aB f 0).length (bR H (aB f 0)):=World.ownsRow_nil _ _ _ _;obtain ⟨HP,HF,HFl⟩:=aLb hP hf hfl;clear hz hP hf aDF hT hfl;go_wp2_with fail;go_loopw [20,6] (fun u v wr=>∃k:Nat,k≤m∧u=.int .i64 k∧Bl w3 wr∧wr.ownsRow w3.heap.size 58 4 v (aB f k).length (bR H (aB f k))) (fun u _ _=>m-(RowKit.intOf u).toNat);case atStart=>exact ⟨0,Nat.zero_le _,rfl,Bl.refl _,h0⟩
  case round=>
   clear k1;obtain ⟨k,hk,rfl,hbr,cA⟩:=hrel;obtain ⟨R0,c0,rfl,-,-⟩:=uE cA;have k1:=(w21.bl (hb3.trans hbr)).all3;have hpl:=qF f k;have aFT:=aLa cA;by_cases hlt:k<m
   ·obtain ⟨ad,u,rfl,hu,hc⟩:=(HP.out.bl hbr).at_ hlt;have hu':u=.int .i64 ((f k:Nat):Int):=by
     rw[aLG,EH _ hlt] at hu;exact (aLZ hu).symm
    subst hu';have hnl:=HFl.out k;have ZH:=rV f k;have hin:=pJ f k;have hst:aB f (k+1)=if f k=0 then aB f k else if o6 f k=true then sZ (aB f k) else aB f k++[(k,1)]:=rfl;obtain ⟨n,hn⟩:=aLt (f k);rw[←hn] at hnl hst hc;obtain ⟨HSt,aEU,HIn⟩:=aLb hst ZH hin;clear hu hn hst ZH hin;by_cases hz:n=0
    ·have hq:((n:Int)==0)=true:=(by rw[aCQ];exact aLX hz);have HN:=aLa (show aB f (k+1)=aB f k by rw[HSt.out,if_pos hz]);clear hz cA;go_wp2_with fail;exact ⟨⟨k+1,hlt,by go_num,hbr,by rw[HN.out];exact aFT.out⟩,by simp[RowKit.intOf]<;>omega⟩
    ·have hq:((n:Int)==0)=false:=(by rw[aCQ];exact aLW hz);cases ha:o6 f k
     ·have HN:=aLa (show aB f (k+1)=aB f k++[(k,1)] by rw[HSt.out,if_neg hz,if_neg (by rw[ha];decide)]);rcases aEU.out.2 ha with he|⟨l,p,he,hp⟩
      ·have cL:(aB f k).length=0:=(by rw[he];rfl);have aDG:=aLa cL;rw[cL] at cA ⊢;have HOw:=aLa cA;clear cA aFT hz ha he cL;go_wp2_with fail;refine aLs [aLq 0,aLq 1,aLq 2,aLq 3,aLq 4,aLq 5,aLq 6,aLq 7,aLq 8,aLq 9,aLq 10,aLq 11,aLq 12,aLq 13,aLq 14,aLq 15,aLq 16,aLq 17] (by kernel_rfl) ?_;apply Flow.mv _ rfl
       ·intro a b;simp only[sqA,Act.eval,sqC];exact b
       apply Flow.calm2 _ _ rfl rfl
       ·intro a b c d;obtain ⟨e,f⟩:=b.rule;go_simp;(try go_ints);exact d
       ·intro a b;simp only[sqA];exact b
       apply Flow.mv _ rfl
       ·intro a b;simp only[sqA,Act.eval,sqC];exact b
       iterate 13
        first
         | (apply Flow.pass rfl (by rfl))
         | (apply Flow.calmG _ rfl (by rfl)
            ·intro a b;obtain ⟨e,f⟩:=b.rule;go_simp;all_goals (try rfl))
        simp only[sqA];try go_ints
       apply Flow.calm2 _ _ rfl rfl
       ·intro a b c d;obtain ⟨e,f⟩:=b.rule;go_simp;(try go_ints);exact d
       ·intro a b;simp only[sqA];exact b
       apply Flow.asg _ rfl
       ·intro a b;simp only[sqA,Act.eval,sqC];exact b
       refine Flow.done ?_;go_wp2_with (at_builtin;refine aQ (w1:=w3) rfl (.tmp 28) (.tmp 33) 59 rfl 58 (.agg #[.int .i64 0,.int .i64 0,.int .i64 0,.int .i64 0]) 4 32 Tryz.underlying59 OQ rfl (by omega) w3.heap.size _ 0 (bR H (aB f k)) rfl (hbr.drew.alloc _) ?hB ?hBr ((fX HOw.out (Bl.refl _).drew).alloc _) (some ⟨wr.heap.size,0,none⟩) 1 1 [.int .i64 k,.int .i64 0,.int .i64 1,.int .i64 H] rfl ((Blk.new _ _ _).reads 1 4 rfl) ?h1 ?c1 ?c2 ?_);case hB=>exact Nat.le_refl _
       case hBr=>have:=hbr.le;first|omega|(simp;omega)
       case h1=>simp[Value.oneCell']
       case c1=>unfold maxLen;omega
       case c2=>omega
       intro v' w8 cF hb8 hg8;have sP:bR H (aB f k)++[.int .i64 k,.int .i64 0,.int .i64 1,.int .i64 H]=bR H (aB f (k+1)):=(by rw[HN.out,iU];rfl);rw[sP] at cF;have K3:(aB f (k+1)).length=0+1:=(by rw[HN.out,aLy,aDG.out];rfl);have HO8:=aLa cF;have HL2:=aLa K3;clear cF sP K3;go_wp2_with fail;exact ⟨⟨k+1,hlt,by go_num,hb8,by rw[HL2.out];exact HO8.out⟩,by simp[RowKit.intOf]<;>omega⟩
      ·obtain ⟨N,hN⟩:=aLt l.length;have cL:(aB f k).length=N+1:=(by rw[he,hN,aLy];rfl);have aDG:=aLa cL;rw[cL] at cA ⊢;obtain ⟨g,cap,e,hgB,-⟩:=lX cA (by omega);injection e with e1 _ e3;subst e1;subst e3;have hgl:(bR H (aB f k))[N*4+0]? = some (.int .i64 p.1):=(by rw[lF (i:=N) (p:=p) (by rw[he,hN];simp) 0 (by omega)];rfl);have hgw:(bR H (aB f k))[N*4+2]? = some (.int .i64 p.2):=(by rw[lF (i:=N) (p:=p) (by rw[he,hN];simp) 2 (by omega)];rfl);rw[Nat.add_zero] at hgl;have hc1:=qK cA hgl;have hc2:=qK cA hgw;have hpi:=HIn.out p (by rw[he];simp);have q3:((p.1:Int)+(p.2:Int)==(k:Int))=false:=(by simp;omega);obtain ⟨px,hpx⟩:=aLt p.1;obtain ⟨pw,hpw⟩:=aLt p.2;rw[←hpx,←hpw] at q3 hpi;rw[←hpx] at hc1;rw[←hpw] at hc2;have hNN:(N:Int)<(N:Int)+1:=(by omega);have HOw:=aLa cA;rw[cL] at hpl;clear cA aFT hz ha he hgl hgw hp hpx hpw hN cL;go_wp2_with fail;refine aLs [aLq 0,aLq 1,aLq 2,aLq 3,aLq 4,aLq 5,aLq 6,aLq 7,aLq 8,aLq 9,aLq 10,aLq 11,aLq 12,aLq 13,aLq 14,aLq 15,aLq 16,aLq 17] (by kernel_rfl) ?_;apply Flow.mv _ rfl
       ·intro a b;simp only[sqA,Act.eval,sqC];exact b
       apply Flow.calm2 _ _ rfl rfl
       ·intro a b c d;obtain ⟨e,f⟩:=b.rule;go_simp;(try go_ints);exact d
       ·intro a b;simp only[sqA];exact b
       apply Flow.mv _ rfl
       ·intro a b;simp only[sqA,Act.eval,sqC];exact b
       iterate 13
        first
         | (apply Flow.pass rfl (by rfl))
         | (apply Flow.calmG _ rfl (by rfl)
            ·intro a b;obtain ⟨e,f⟩:=b.rule;go_simp;all_goals (try rfl))
        simp only[sqA];try go_ints
       apply Flow.calm2 _ _ rfl rfl
       ·intro a b c d;obtain ⟨e,f⟩:=b.rule;go_simp;(try go_ints);exact d
       ·intro a b;simp only[sqA];exact b
       apply Flow.asg _ rfl
       ·intro a b;simp only[sqA,Act.eval,sqC];exact b
       refine Flow.done ?_;go_wp2_with (at_builtin;refine aQ (w1:=w3) rfl (.tmp 28) (.tmp 33) 59 rfl 58 (.agg #[.int .i64 0,.int .i64 0,.int .i64 0,.int .i64 0]) 4 32 Tryz.underlying59 OQ rfl (by omega) w3.heap.size _ (N+1) (bR H (aB f k)) rfl (hbr.drew.alloc _) ?hB ?hBr ((fX HOw.out (Bl.refl _).drew).alloc _) (some ⟨wr.heap.size,0,none⟩) 1 1 [.int .i64 k,.int .i64 0,.int .i64 1,.int .i64 H] rfl ((Blk.new _ _ _).reads 1 4 rfl) ?h1 ?c1 ?c2 ?_);case hB=>exact Nat.le_refl _
       case hBr=>have:=hbr.le;first|omega|(simp;omega)
       case h1=>simp[Value.oneCell']
       case c1=>unfold maxLen;omega
       case c2=>omega
       intro v' w8 cF hb8 hg8;have sP:bR H (aB f k)++[.int .i64 k,.int .i64 0,.int .i64 1,.int .i64 H]=bR H (aB f (k+1)):=(by rw[HN.out,iU];rfl);rw[sP] at cF;have K3:(aB f (k+1)).length=(N+1)+1:=(by rw[HN.out,aLy,aDG.out];rfl);have HO8:=aLa cF;have HL2:=aLa K3;clear cF sP K3;go_wp2_with fail;exact ⟨⟨k+1,hlt,by go_num,hb8,by rw[HL2.out];exact HO8.out⟩,by simp[RowKit.intOf]<;>omega⟩
     ·have HN:=aLa (show aB f (k+1)=sZ (aB f k) by rw[HSt.out,if_neg hz,if_pos ha]);obtain ⟨l,p,he,hp⟩:=aEU.out.1 ha;obtain ⟨N,hN⟩:=aLt l.length;have cL:(aB f k).length=N+1:=(by rw[he,hN,aLy];rfl);rw[cL] at cA ⊢;obtain ⟨g,cap,e,hgB,-⟩:=lX cA (by omega);injection e with e1 _ e3;subst e1;subst e3;have hgl:(bR H (aB f k))[N*4+0]? = some (.int .i64 p.1):=(by rw[lF (i:=N) (p:=p) (by rw[he,hN];simp) 0 (by omega)];rfl);have hgw:(bR H (aB f k))[N*4+2]? = some (.int .i64 p.2):=(by rw[lF (i:=N) (p:=p) (by rw[he,hN];simp) 2 (by omega)];rfl);rw[Nat.add_zero] at hgl;have hc1:=qK cA hgl;have hc2:=qK cA hgw;have hfz:=(uI cA).2;have hpi:=HIn.out p (by rw[he];simp);have q3:((p.1:Int)+(p.2:Int)==(k:Int))=true:=(by simp;omega);have hwd:(bR H (aB f k)).set (N*4+2) (.int .i64 ((p.2:Int)+1))=bR H (aB f (k+1)):=(by rw[HN.out,he,hN];exact BB H l p);have K3:(aB f (k+1)).length=N+1:=(by rw[HN.out,pI,cL]);have GO:=gC cA (N*4+2) (.int .i64 ((p.2:Int)+1));rw[hwd] at GO;obtain ⟨px,hpx⟩:=aLt p.1;obtain ⟨pw,hpw⟩:=aLt p.2;rw[←hpx,←hpw] at q3 hpi;rw[←hpx] at hc1;rw[←hpw] at hc2 GO;have ZI:=aLa GO;have HL2:=aLa K3;have aJG:w3.heap.size≤g:=hgB;have hNN:(N:Int)<(N:Int)+1:=(by omega);rw[cL] at hpl;clear cA aFT hz ha he hgl hgw hp hpx hpw hN GO hwd K3 cL;go_wp2_with fail;refine aLs [aLq 0,aLq 1,aLq 2,aLq 3,aLq 4,aLq 5,aLq 6,aLq 7,aLq 8,aLq 9,aLq 10,aLq 11,aLq 12,aLq 13,aLq 14,aLq 15,aLq 16,aLq 17] (by kernel_rfl) ?_;apply Flow.mv _ rfl
      ·intro a b;simp only[sqA,Act.eval,sqC];exact b
      apply Flow.calm2 _ _ rfl rfl
      ·intro a b c d;obtain ⟨e,f⟩:=b.rule;go_simp;(try go_ints);exact d
      ·intro a b;simp only[sqA];exact b
      apply Flow.mv _ rfl
      ·intro a b;simp only[sqA,Act.eval,sqC];exact b
      iterate 13
       first
        | (apply Flow.pass rfl (by rfl))
        | (apply Flow.calmG _ rfl (by rfl)
           ·intro a b;obtain ⟨e,f⟩:=b.rule;go_simp;all_goals (try rfl))
       simp only[sqA];try go_ints
      apply Flow.calm2 _ _ rfl rfl
      ·intro a b c d;obtain ⟨e,f⟩:=b.rule;go_simp;(try go_ints);exact d
      ·intro a b;simp only[sqA];exact b
      apply Flow.asg _ rfl
      ·intro a b;simp only[sqA,Act.eval,sqC];exact b
      refine Flow.done ?_;go_wp2_with fail;exact ⟨⟨k+1,hlt,by go_num,(hbr.drew).setCell aJG _,by rw[HL2.out];exact fX ZI.out (Bl.refl _).drew⟩,by simp[RowKit.intOf]<;>omega⟩
   ·obtain rfl:k=m:=(by omega);obtain ⟨R,d,e,hR⟩:=cU cA;injection e with e1 _ e3;subst e1;subst e3;have HR:=aLa hR;clear cA hR;go_wp2_with fail;refine aL0 (v:=.tuple #[.slice R0 (aB f k).length c0,.int .i64 0]) (by simp[results,Tryz.results181,go_sem]) rfl ⟨R0,(aB f k).length,⟨c0,by rw[HZ.out]⟩,fun h=>absurd HZ.out h,?_,(w2b.trans hb3).trans hbr⟩;intro _
    first
     | (simp only[aL8];rw[←HF.out];exact ⟨rfl,HR.out⟩)
     | (rw[←HF.out];exact ⟨rfl,HR.out⟩)
def upto (f:Nat→Nat) (W:Nat) (k:Nat):Nat:=if k<W then f k else 0
structure KeyKind (P:Program) (kt:TypeId) {α:Type} (K:α→Value):Prop where
 find:∀(w:World) (k:α) (l:List MapEntry),(∀x∈l,∃a,x.key=K a)→(∃j e,(Instr.findKey kt (K k) l).run P w=.ok (some (j,e.val)) w∧l[j]? = some e∧e.key=K k)∨((Instr.findKey kt (K k) l).run P w=.ok none w∧∀x∈l,x.key≠K k)
 check:∀(w:World) (e:Bool) (k:α),(Instr.checkKey e 10000 kt (K k)).run P w=.ok () w
 stays:∀(w:World) (k:α),(Instr.keyThatStays (K k) (K k)).run P w=.ok (K k) w
 inj:∀a b,K a=K b→a=b
theorem KeyKind.plain {P:Program} {kt:TypeId} {d:TypeDesc} {α:Type} {K:α→Value} (hd:P.underlying kt=some d) (hK:∀a,MapKept.IsKey d (K a)) (inj:∀a b,K a=K b→a=b):KeyKind P kt K where
 find w k l hl:=by
  rcases MapKept.findNow_spec (hK k) l 0 (fun x hx=>by obtain ⟨a,e⟩:=hl x hx;rw[e];exact hK a) with ⟨hf,hno⟩|⟨j,e,hf,hj,he⟩
  ·exact .inr ⟨MapKept.run_findKey hd hf,hno⟩
  ·rw[Nat.zero_add] at hf;exact .inl ⟨j,e,MapKept.run_findKey hd hf,hj,he⟩
 check w e k:=MapKept.run_checkKey hd (hK k) e 9999
 stays w k:=MapKept.run_keyThatStays (hK k)
 inj:=inj
theorem gE {P:Program} {kt:TypeId} (hd:P.underlying kt=some .string):KeyKind P kt (fun s:List UInt8=>.string ⟨s.toArray⟩):=
 KeyKind.plain hd (fun _=>trivial) (fun a b h=>by simpa using h)
theorem qL {P:Program} {kt:TypeId} (hd:P.underlying kt=some (.int .i64)):KeyKind P kt (fun n:Int=>.int .i64 n):=
 KeyKind.plain hd (fun _=>rfl) (fun a b h=>by simpa using h)
theorem aAt {α:Type} {l:List α} (h:l.Nodup) {i j:Nat} {x:α} (hi:l[i]? = some x) (hj:l[j]? = some x):i=j:=by
 have aux:∀{i j:Nat},l[i]? = some x→l[j]? = some x→¬i<j:=fun {i j} hi hj hlt=>by
  obtain ⟨h1,e1⟩:=aLw.1 hi;obtain ⟨h2,e2⟩:=aLw.1 hj;exact List.pairwise_iff_getElem.1 h i j h1 h2 hlt (e1.trans e2.symm)
 have a:=aux hi hj;have b:=aux hj hi;omega
section
variable {P:Program} {kt et T:TypeId} {α β:Type} [BEq α] {K:α→Value} {V:β→Value}
def MapL (K:α→Value) (V:β→Value) (w:World) (b:Nat) (l:List (α × β)):Prop:=
 ∃es clock,w.heap[b]? = some (.map es clock)∧(es.toList.map (·.key)).Nodup∧(∀x∈es.toList,∃a v,x.key=K a∧x.val=V v∧l.lookup a=some v)∧∀a v,l.lookup a=some v→∃x∈es.toList,x.key=K a
theorem MapL.new (w:World):MapL K V (w.alloc (.map #[] 0)) w.heap.size []:=⟨#[],0,(MapKept.heap_alloc w _).1,by simp,by simp,fun a v h=>by simp at h⟩
theorem MapL.bl {w w':World} {b:Nat} {l:List (α × β)} (h:MapL K V w b l) (hb:Bl w w'):MapL K V w' b l:=by
 obtain ⟨es,c,h1,h2⟩:=h;exact ⟨es,c,(Below.block hb b (aL1.1 h1).1).trans h1,h2⟩
theorem MapL.drew {w:World} {b:Nat} {l:List (α × β)} (h:MapL K V w b l):MapL K V w.drew b l:=h
theorem MapL.lt {w:World} {b:Nat} {l:List (α × β)} (h:MapL K V w b l):b<w.heap.size:=by
 obtain ⟨es,c,h1,_⟩:=h;exact (aL1.1 h1).1
theorem MapL.block {w:World} {b:Nat} {l:List (α × β)} (h:MapL K V w b l):∃es clock,w.heap[b]? = some (.map es clock):=by
 obtain ⟨es,c,h1,_⟩:=h;exact ⟨es,c,h1⟩
theorem MapL.other {w w':World} {b:Nat} {l:List (α × β)} (h:MapL K V w b l) (hb:w'.heap[b]? = w.heap[b]?):MapL K V w' b l:=by
 obtain ⟨es,c,h1,h2⟩:=h;exact ⟨es,c,hb.trans h1,h2⟩
theorem MapL.found {w:World} {b:Nat} {l:List (α × β)} (kk:KeyKind P kt K) (h:MapL K V w b l) (a:α):∃es clock,w.heap[b]? = some (.map es clock)∧((∃j v,(Instr.findKey kt (K a) es.toList).run P w=.ok (some (j,V v)) w∧l.lookup a=some v)∨((Instr.findKey kt (K a) es.toList).run P w=.ok none w∧l.lookup a=none)):=by
 obtain ⟨es,c,h1,hn,h2,h3⟩:=h;refine ⟨es,c,h1,?_⟩;rcases kk.find w a es.toList (fun x hx=>by obtain ⟨a',_,e,_⟩:=h2 x hx;exact ⟨a',e⟩) with ⟨j,e,hr,hj,he⟩|⟨hr,hno⟩
 ·obtain ⟨a',v,e1,e2,e3⟩:=h2 e (List.mem_of_getElem? hj);obtain rfl:=kk.inj _ _ (he.symm.trans e1);rw[e2] at hr;exact .inl ⟨j,v,hr,e3⟩
 ·refine .inr ⟨hr,?_⟩;cases hl:l.lookup a with
  |none=>rfl
  |some v=>obtain ⟨x,hx,e⟩:=h3 a v hl;exact absurd e (hno x hx)
theorem MapL.lookup2 {w:World} {b:Nat} {l:List (α × β)} {z:Value} (kk:KeyKind P kt K) (ht:P.underlying T=some (.map kt et)) (hz:(zeroValue et).run P w=.ok z w) (h:MapL K V w b l) (a:α) :
 (Instr.lookup T (.map (some b)) (K a) true).run P w=.ok (.tuple #[match l.lookup a with|some v=>V v|none=>z,.bool (l.lookup a).isSome]) w:=by
 obtain ⟨es,c,h1,h2⟩:=h.found kk a;rcases h2 with ⟨j,v,hr,hl⟩|⟨hr,hl⟩
 ·rw[hl];simp[Instr.lookup,run_underlying ht,MapKept.run_getObj_map h1,kk.check,hr,Result.andThen]
 ·rw[hl];simp[Instr.lookup,run_underlying ht,MapKept.run_getObj_map h1,kk.check,hr,hz,Result.andThen]
theorem MapL.lookup1 {w:World} {b:Nat} {l:List (α × β)} {z:Value} (kk:KeyKind P kt K) (ht:P.underlying T=some (.map kt et)) (hz:(zeroValue et).run P w=.ok z w) (h:MapL K V w b l) (a:α) :
 (Instr.lookup T (.map (some b)) (K a) false).run P w=.ok (match l.lookup a with|some v=>V v|none=>z) w:=by
 obtain ⟨es,c,h1,h2⟩:=h.found kk a;rcases h2 with ⟨j,v,hr,hl⟩|⟨hr,hl⟩
 ·rw[hl];simp[Instr.lookup,run_underlying ht,MapKept.run_getObj_map h1,kk.check,hr,Result.andThen]
 ·rw[hl];simp[Instr.lookup,run_underlying ht,MapKept.run_getObj_map h1,kk.check,hr,hz,Result.andThen]
theorem RG {w0 w:World} (h:Bl w0 w) {b:Nat} (hb:w0.heap.size≤b) (o:Obj):Bl w0 { w with heap:=w.heap.setIfInBounds b o }:=by
 refine ⟨h.os,h.tape,h.output,?_,fun k hk => ?_⟩
 ·have:=Below.size h;simpa using this
 ·show (w.heap.setIfInBounds b o)[k]? = _;rw[Array.getElem?_setIfInBounds_ne (by omega)];exact Below.block h k hk
def OnlyAt (b:Nat) (w w':World):Prop:=(∀j,j≠b→w'.heap[j]? = w.heap[j]?)∧w'.heap.size=w.heap.size∧∀w0,Bl w0 w→w0.heap.size≤b→Bl w0 w'
theorem CV (b:Nat) (w:World) (o:Obj):OnlyAt b w { w with heap:=w.heap.setIfInBounds b o }:=
 ⟨fun j hj=>Array.getElem?_setIfInBounds_ne (fun e=>hj e.symm),by simp,fun w0 h0 hb=>RG h0 hb _⟩
variable [LawfulBEq α]
theorem MapL.update {w:World} {b:Nat} {l:List (α × β)} (kk:KeyKind P kt K) (ht:P.underlying T=some (.map kt et)) (h:MapL K V w b l) (a:α) (v:β) :
 ∃w',(Instr.mapUpdate T (.map (some b)) (K a) (V v)).run P w=.ok () w'∧MapL K V w' b ((a,v) :: l)∧OnlyAt b w w':=by
 obtain ⟨es,c,h1,hn,h2,h3⟩:=h;have self:(((a,v) :: l:List (α × β))).lookup a=some v:=(by simp[List.lookup]);have oth:∀a',a'≠a→((a,v) :: l:List (α × β)).lookup a'=l.lookup a':=fun a' hne=>by
  have hb:(a'==a)=false:=(by simpa using hne);simp only[List.lookup,hb]
 rcases kk.find w a es.toList (fun x hx=>by obtain ⟨a',_,e,_⟩:=h2 x hx;exact ⟨a',e⟩) with ⟨j,e,hr,hj,he⟩|⟨hr,hno⟩
 ·have hj':es[j]? = some e:=(by simpa using hj);have aFU:=MapKept.modify_keys (es:=es) j (fun e'=>{ e' with key:=K a,val:=V v }) (fun e' he'=>by rw[hj'] at he';cases he';exact he.symm);refine ⟨{ w with heap:=w.heap.setIfInBounds b (.map (es.modify j (fun e'=>{ e' with key:=K a,val:=V v })) c) },?_,⟨_,_,(MapKept.heap_set h1).1,by rw[aFU];exact hn,?_,?_⟩,CV _ _ _⟩
  ·simp[Instr.mapUpdate,run_underlying ht,MapKept.run_getObj_map h1,kk.check,hr,hj',he,kk.stays,MapKept.run_setObj_map _ h1,Result.andThen]
  ·intro x hx;obtain ⟨i,hi,hx'⟩:=aL4 hx;have hxi:(es.modify j (fun e'=>{ e' with key:=K a,val:=V v }))[i]? = some x:=by
    rw[←Array.getElem?_toList,aLv hi,hx']
   rw[Array.getElem?_modify] at hxi;by_cases hij:j=i
   ·subst hij;rw[if_pos rfl,hj'] at hxi;simp only[Option.map_some,Option.some.injEq] at hxi;subst hxi;exact ⟨a,v,rfl,rfl,self⟩
   ·rw[if_neg hij] at hxi;have hxl:es.toList[i]? = some x:=(by rw[Array.getElem?_toList];exact hxi);obtain ⟨a',v',e1,e2,e3⟩:=h2 x (List.mem_of_getElem? hxl);have hne:a'≠a:=fun ea=>by
     subst ea;have k1:(es.toList.map (·.key))[i]? = some (K a'):=(by rw[aLG,hxl,Option.map_some,e1]);have k2:(es.toList.map (·.key))[j]? = some (K a'):=(by rw[aLG,hj,Option.map_some,he]);exact hij (aAt hn k1 k2).symm
    exact ⟨a',v',e1,e2,(oth a' hne).trans e3⟩
  ·intro a' v' hl;have hm:K a'∈es.toList.map (·.key):=by
    by_cases hne:a'=a
    ·subst hne;exact aMf.2 ⟨e,List.mem_of_getElem? hj,he⟩
    ·rw[oth a' hne] at hl;obtain ⟨x,hx,ex⟩:=h3 a' v' hl;exact aMf.2 ⟨x,hx,ex⟩
   rw[←aFU] at hm;exact aMf.1 hm
 ·refine ⟨{ w with heap:=w.heap.setIfInBounds b (.map (es.push ⟨K a,V v,c⟩) (c+1)) },?_,⟨_,_,(MapKept.heap_set h1).1,?_,?_,?_⟩,CV _ _ _⟩
  ·simp[Instr.mapUpdate,run_underlying ht,MapKept.run_getObj_map h1,kk.check,hr,MapKept.run_setObj_map _ h1,Result.andThen]
  ·simp only[Array.toList_push,aLS,List.map_cons,List.map_nil];refine List.nodup_append.2 ⟨hn,by simp,?_⟩;intro y hy z hz;simp only[aLQ] at hz;subst hz;obtain ⟨x,hx,rfl⟩:=aMf.1 hy;exact hno x hx
  ·intro x hx;simp only[Array.toList_push,aLM,aLQ] at hx;rcases hx with hx|rfl
   ·obtain ⟨a',v',e1,e2,e3⟩:=h2 x hx;have hne:a'≠a:=fun ea=>(by subst ea;exact hno x hx e1);exact ⟨a',v',e1,e2,(oth a' hne).trans e3⟩
   ·exact ⟨a,v,rfl,rfl,self⟩
  ·intro a' v' hl;by_cases hne:a'=a
   ·subst hne;exact ⟨⟨K a',V v,c⟩,by simp,rfl⟩
   ·rw[oth a' hne] at hl;obtain ⟨x,hx,ex⟩:=h3 a' v' hl;exact ⟨x,by simp[hx],ex⟩
end
end Go.Proofs.YtllefinciimffaaGreatDoor
namespace Go.Proofs
open Go.Shelf
def Tryz.lays169_ren:Go.Shelf.Ren:=⟨fun|169=>49|n=>n,fun|70=>91|9=>9|0=>0|72=>94|37=>92|127=>177|3=>3|5=>5|n=>n,fun|n=>n⟩
theorem Tryz.lays169 : Go.Proofs.Lays.n169 Tryz.prog Tryz.lays169_ren := {
 mixed:=by kernel_rfl
 f169:=Tryz.func49.trans (congrArg some (by kernel_rfl))
 t0:=Tryz.underlying0
 a0:=Tryz.isAgg0
 z0:=Tryz.sizeOf0
 v0:=Tryz.zeroValue0
 t3:=Tryz.underlying3
 a3:=Tryz.isAgg3
 z3:=Tryz.sizeOf3
 v3:=Tryz.zeroValue3
 t9:=Tryz.underlying9
 a9:=Tryz.isAgg9
 z9:=Tryz.sizeOf9
 v9:=Tryz.zeroValue9
 t37:=Tryz.underlying92
 a37:=Tryz.isAgg92
 z37:=Tryz.sizeOf92
 v37:=Tryz.zeroValue92
 t70:=Tryz.underlying91
 a70:=Tryz.isAgg91
 z70:=Tryz.sizeOf91
 v70:=Tryz.zeroValue91
 t72:=Tryz.underlying94
 a72:=Tryz.isAgg94
 z72:=Tryz.sizeOf94
 v72:=Tryz.zeroValue94
 t127:=Tryz.underlying177
 a127:=Tryz.isAgg177
 z127:=Tryz.sizeOf177
 v127:=Tryz.zeroValue177 }
theorem Tryz.builderExtra:Builder.Extra Tryz.prog Tryz.lays169_ren where
 sizeBuilder:=by kernel_rfl
 liesBuilder:=by kernel_rfl
 t5:=Tryz.underlying5
 a5:=Tryz.isAgg5
 z5:=Tryz.sizeOf5
 v5:=Tryz.zeroValue5
 infoByte:=by kernel_rfl
 cellsByte:=by kernel_rfl
 sizeByte:=by kernel_rfl
 neB5:=by decide
end Go.Proofs
namespace Go.Proofs.YtllefinciimffaaGreatDoor
open Go.RowKit Go.Shelf
theorem vZ:(Tryz.prog.info? 94).map (·.size)=some 2:=by kernel_rfl
theorem IL:liesAt Tryz.prog Tryz.prog.depth 94 (2 / Tryz.prog.cellsOf 94) 0 94 1=true:=by kernel_rfl
theorem CW (b:Nat) (w:World) (h0:w.cell? ⟨b,0,none⟩=some (.pointer (some ⟨b,0,none⟩))) :
 Calls Tryz.prog 113 #[.pointer (some ⟨b,0,none⟩)] w fun e w'=>e=.returned (.tuple #[])∧w'=w:=by
 obtain ⟨j,hj,_⟩:=Option.map_eq_some_iff.1 vZ
 go_in
 go_wp2
 rw[Lib.run_neq_ptr_same w _ Tryz.underlying91 hj]
 go_wp2
 go_end0
 exact ⟨rfl,rfl⟩
theorem nY (b:Nat) (w:World) (h0:w.cell? ⟨b,0,none⟩=some (.pointer none)) (hsh:w.shape? b=some (94,2)) (hfz:w.frozen? ⟨b,0,none⟩=false) :
 Calls Tryz.prog 113 #[.pointer (some ⟨b,0,none⟩)] w fun e w'=>e=.returned (.tuple #[])∧w'=w.setCell ⟨b,0,none⟩ (.pointer (some ⟨b,0,none⟩)):=by
 obtain ⟨j,hj,hjs⟩:=Option.map_eq_some_iff.1 vZ
 go_in
 go_wp2
 rw[Lib.run_to_unsafe w ⟨b,0,none⟩ Tryz.underlying91 Tryz.underlying223 hj (by rw[hjs];decide) hsh (Nat.zero_lt_succ 1)];simp only[Result.andThen];rw[Oper.upon_value]
 go_wp2
 rw[run_callFunc_extern Tryz.func165 (by kernel_rfl) (by kernel_rfl) (by kernel_rfl) (e:=Extern.AbiNoEscape.same) (by kernel_rfl)];rw[Lib.run_noEscape];simp only[Result.andThen];rw[Oper.upon_value]
 go_wp2
 rw[Lib.run_from_unsafe w ⟨b,0,none⟩ Tryz.underlying223 Tryz.underlying91 hj hsh IL];simp only[Result.andThen];rw[Oper.upon_value]
 go_wp2
 go_end0
 exact ⟨rfl,rfl⟩
abbrev Bui (B:Nat) (l:List UInt8) (w:World):Prop:=Lib.IsBuilderF 94 5 B B (Lib.byteCells l) w
theorem oQ (B:Nat) (l:List UInt8) (w:World) (h:Bui B l w) :
 Calls Tryz.prog 113 #[.pointer (some ⟨B,0,none⟩)] w fun e w'=>e=.returned (.tuple #[])∧Lib.BuilderAtF 94 5 B B (.pointer (some ⟨B,0,none⟩)) (Lib.byteCells l) w'∧Below B w w':=by
 rcases h with h|h
 ·refine (nY B w h.cell0 h.shape h.frozen0).mono ?_;rintro e w' ⟨rfl,rfl⟩;exact ⟨rfl,h.used _,(Below.refl B w).setCell (p:=⟨B,0,none⟩) (Nat.le_refl _) _⟩
 ·refine (CW B w h.cell0).mono ?_;rintro e w' ⟨rfl,rfl⟩;exact ⟨rfl,h,Below.refl B _⟩
theorem eY (B:Nat) (l:List UInt8) (w:World) (h:Bui B l w) (hBw:B≤w.heap.size) :
 Calls Tryz.prog 49 #[.pointer (some ⟨B,0,none⟩)] w fun e w'=>e=.returned (.string ⟨l.toArray⟩)∧Below B w w':=by
 refine (Any.Builder_String_any_k Tryz.lays169 Tryz.builderExtra B B l w h hBw).mono ?_;rintro e w' ⟨rfl,_,h2,_⟩;exact ⟨rfl,h2⟩
theorem fQ {B:Nat} {l:List UInt8} {w w':World} (h:Bui B l w) (hb:Bl w w'):Bui B l w':=by
 have own:∀{v:Value} {n:Nat},w.ownsRowF B 5 1 v n (Lib.byteCells l)→w'.ownsRowF B 5 1 v n (Lib.byteCells l):=fun {v n} ho=>by
  refine ⟨ho.1,?_⟩;rcases ho.2 with h2|⟨g,cap,cur,fz,hv,hg,hh,r⟩
  ·exact .inl h2
  ·exact .inr ⟨g,cap,cur,fz,hv,hg,(Below.block hb g (aL1.1 hh).1).trans hh,r⟩
 have at_:∀{p:Value},Lib.BuilderAtF 94 5 B B p (Lib.byteCells l) w→Lib.BuilderAtF 94 5 B B p (Lib.byteCells l) w':=fun {p} ⟨hB,v,hh,ho,hne⟩=>
  ⟨hB,v,(Below.block hb B (aL1.1 hh).1).trans hh,own ho,hne⟩
 exact h.elim (fun x=>.inl (at_ x)) (fun x=>.inr (at_ x))
theorem nZ (w:World):Bui w.heap.size [] (w.alloc (.cells #[.pointer none,.slice none 0 0] 94)):=Lib.IsBuilderF.of (Lib.fresh_isBuilder 94 5 w)
theorem Bl.trans' {a w w':World} {B:Nat} (h:Bl a w) (e:a.heap.size=B) (hb:Below B w w'):Bl a w':=by
 subst e;exact Below.trans h hb
end Go.Proofs.YtllefinciimffaaGreatDoor
