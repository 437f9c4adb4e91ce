import Derived.Test.YtllefinciimffaaGreatDoorMClaimFields8
import Derived.Shelf.Strings.Cut
import Derived.Lib.CutLaws
import Derived.Lib.SlTrimSet
import Derived.Shelf.SortM.Plain
import Derived.Shelf.SlGeneric
import Derived.Shelf.LaySoft
import Derived.Lib.OwnBridge
import Derived.Ground.SlgmProg
set_option maxHeartbeats 20000000
set_option maxRecDepth 100000
namespace Go.Proofs.YtllefinciimffaaGreatDoor
open Go.RowKit Go.Shelf
structure Sn where
 t:List UInt8
 X:Int
 Y:Int
 W:Int
 H:Int
 d:Int
 e:Int
theorem Blk.all7' {w:World} {g:Nat} {t:TypeId} {a b c d e f h:Value} (k:Blk w g t #[a,b,c,d,e,f,h]):w.cell? ⟨g,0,none⟩=some a∧w.cell? ⟨g,1,none⟩=some b∧w.cell? ⟨g,2,none⟩=some c∧w.cell? ⟨g,3,none⟩=some d∧w.cell? ⟨g,4,none⟩=some e∧w.cell? ⟨g,5,none⟩=some f∧w.cell? ⟨g,6,none⟩=some h∧∀i,w.frozen? ⟨g,i,none⟩=false:=
 ⟨k.cell 0,k.cell 1,k.cell 2,k.cell 3,k.cell 4,k.cell 5,k.cell 6,k.frozen⟩
def Sn.cells (s:Sn):List Value:=[.string ⟨s.t.toArray⟩,.int .i64 s.X,.int .i64 s.Y,.int .i64 s.W,.int .i64 s.H,.int .i64 s.d,.int .i64 s.e]
def iN (ss:List Sn):List Value:=ss.flatMap Sn.cells
theorem OX {ls:List Sn} {i:Nat} {l:Sn} (h:ls[i]? = some l) (j:Nat) (hj:j<7):(iN ls)[i*7+j]? = l.cells[j]?:=by
 induction ls generalizing i with
 |nil=>simp at h
 |cons x ls ih=>
  unfold iN;rw[aIM];rcases i with _|i
  ·simp only[aIq,Option.some.injEq] at h;subst h;rw[aIb (by show 0*7+j<7;omega)];simp
  ·rw[aIa (by show 7≤(i+1)*7+j;omega)];have e:(i+1)*7+j-x.cells.length=i*7+j:=by
    show (i+1)*7+j-7=i*7+j;omega
   rw[e];exact ih (by simpa using h)
theorem aAd {w:World} {A:Option Addr} {ss:List Sn} {i:Nat} {s:Sn} (h:Reads w 7 A ss.length (iN ss)) (hi:ss[i]? = some s):∃ad,A=some ad∧w.cell? (ad.add (i*7))=some (.string ⟨s.t.toArray⟩)∧w.cell? ⟨(ad.add (i*7)).block,(ad.add (i*7)).off+1,none⟩=some (.int .i64 s.X) ∧
 w.cell? ⟨(ad.add (i*7)).block,(ad.add (i*7)).off+2,none⟩=some (.int .i64 s.Y)∧w.cell? ⟨(ad.add (i*7)).block,(ad.add (i*7)).off+3,none⟩=some (.int .i64 s.W)∧w.cell? ⟨(ad.add (i*7)).block,(ad.add (i*7)).off+4,none⟩=some (.int .i64 s.H) ∧
 w.cell? ⟨(ad.add (i*7)).block,(ad.add (i*7)).off+5,none⟩=some (.int .i64 s.d)∧w.cell? ⟨(ad.add (i*7)).block,(ad.add (i*7)).off+6,none⟩=some (.int .i64 s.e):=by
 have hlt:i<ss.length:=(aH3.1 hi).1;obtain ⟨ad,e,hc⟩:=h.2 (by omega);have key:∀j v,j<7→s.cells[j]? = some v→w.cell? ((ad.add (i*7)).add j)=some v:=fun j v hj hv=>by
  rw[dZ];exact hc _ _ (by rw[OX hi j hj];exact hv)
 have k0:=key 0 _ (by omega) rfl;have k1:=key 1 _ (by omega) rfl;have k2:=key 2 _ (by omega) rfl;have k3:=key 3 _ (by omega) rfl;have k4:=key 4 _ (by omega) rfl;have k5:=key 5 _ (by omega) rfl;have k6:=key 6 _ (by omega) rfl;rw[Addr.add_zero'] at k0;rw[Addr.add_succ'] at k1 k2 k3 k4 k5 k6;exact ⟨ad,e,k0,k1,k2,k3,k4,k5,k6⟩
def eV (ss:List Sn):List UInt8:=ss.flatMap Sn.t
theorem OY {ss:List Sn} (h:∀s∈ss,s.t.length≤4):(eV ss).length≤ss.length*4:=by
 unfold eV;induction ss with
 |nil=>exact Nat.le_refl _
 |cons x ss ih=>have h1:=h x (List.mem_cons_self ..);have h2:=ih fun s hs=>h s (List.mem_cons_of_mem _ hs);rw[aIM,aH5,aH8];omega
theorem JY {ss:List Sn} {i:Nat} {s:Sn} (h:ss[i]? = some s):eV (ss.take (i+1))=eV (ss.take i)++s.t:=by
 unfold eV;rw[aIJ,h,aIL];simp
theorem aAe {ss:List Sn} (h:∀s∈ss,s.t.length≤4) (i:Nat):(eV (ss.take i)).length≤ss.length*4:=by
 have h1:=OY (ss:=ss.take i) fun s hs=>h s (List.mem_of_mem_take hs);have h2:(ss.take i).length≤ss.length:=(by rw[aH7];omega);omega
theorem aO (B:Nat) (l t:List UInt8) (w:World) (h:Bui B l w) (cT:l.length+t.length≤140737488355328) (hBw:B≤w.heap.size) :
 Calls Tryz.prog 40 #[.pointer (some ⟨B,0,none⟩),t] w fun e w'=>e=.returned (.tuple #[t.length,.nilIface])∧Bui B (l++t) w'∧Below B w w':=by
 obtain ⟨i0,hi,hz0,hz1,hz2⟩:=info_parts JH;have hbc:Lib.byteCells (l++t)=Lib.byteCells l++Lib.byteCells t:=Lib.byteCells_append l t;have hbl:(Lib.byteCells l).length=l.length:=Lib.byteCells_length l;have htl:(Lib.byteCells t).length=t.length:=Lib.byteCells_length t;obtain ⟨Hbc,Hbl,Htl,Hts⟩:=aHJ hbc hbl htl (show (ByteArray.mk t.toArray).size=t.length by simp[ByteArray.size]);clear hbc hbl htl;obtain ⟨bs,hbs⟩:=aH0 (Lib.byteCells l);have hck:=n7 B l w h;rw[←hbs] at hck Hbc Hbl;have Hck:=aHH hck;clear hbs hck h
 go_in
 go_wp2_with (go_at_call 113;refine Hck.out.mono ?_);rintro e w1 ⟨rfl,h1,hb1⟩;obtain ⟨hB,v,hbk,aV,hne⟩:=h1;have c0:w1.cell? ⟨B,0,none⟩=some (.pointer (some ⟨B,0,none⟩)):=(by rw[Lib.cell_of_heap hbk];rfl);have c1:w1.cell? ⟨B,1,none⟩=some v:=(by rw[Lib.cell_of_heap hbk];rfl);go_wp2_with (at_builtin;refine Lib.wpList_append_own_stringF _ rfl _ _ 92 9 rfl B 5 i0 Tryz.underlying92 Tryz.underlying9 hi hz0 hz1 hz2 _ _ _ rfl aV ⟨t.toArray⟩ rfl ?c3 ?c4 ?c5 ?_);case c3=>unfold maxLen;have:=Hbl.out;rw[Hts.out];omega
 case c4=>have:=Hbl.out;rw[Hts.out];omega
 case c5=>have:=hb1.size;omega
 intro v' w2 mI vH _;have hlt:B<w1.heap.size:=by
  rcases Nat.lt_or_ge B w1.heap.size with h' | h'
  ·exact h'
  ·simp[Array.getElem?_eq_none h'] at hbk
 have hb2:w2.heap[B]? = some (.cells #[.pointer (some ⟨B,0,none⟩),v] 94 (0,0)):=by
  rw[vH.block B hlt (fun e=>hne e.symm)];exact hbk
 have d0:w2.cell? ⟨B,0,none⟩=some (.pointer (some ⟨B,0,none⟩)):=(by rw[Lib.cell_of_heap hb2];rfl);have d1:w2.cell? ⟨B,1,none⟩=some v:=(by rw[Lib.cell_of_heap hb2];rfl);have f1:w2.frozen? ⟨B,1,none⟩=false:=Lib.frozen_of_heap hb2 1;obtain ⟨ao,n',cap,rfl⟩:∃ao n' cap,v'=.slice ao n' cap:=by
  rcases mI.2 with ⟨hv,_⟩|⟨g,cap,cur,fz,hv,_⟩
  ·exact ⟨_,_,_,hv⟩
  ·exact ⟨_,_,_,hv⟩
 have hsc:Lib.strCells ⟨t.toArray⟩=Lib.byteCells t:=rfl;have YF:=Lib.BuilderAtF.put (T:=94) (e:=5) hB hb2 (bs':=bs++Lib.strCells ⟨t.toArray⟩) (by simpa [Lib.strCells_length,ByteArray.size] using mI) (by decide);have ZI:=(hb1.grown vH (by have:=hb1.size;omega) (fun k hk=>(aV.lt k hk).1)).setCell (p:=⟨B,1,none⟩) hB (.slice ao n' cap);rw[hsc] at YF;have aBR:=aHH YF;have aBS:=aHH ZI;clear YF ZI mI vH aV hbk hb2 hlt hb1 hne hsc
 go_wp2
 go_ret2
 exact ⟨rfl,by show Lib.IsBuilderF _ _ B B (Lib.byteCells (l++t)) _;rw[Hbc.out];exact Or.inr aBR.out,aBS.out⟩
theorem WR (A:Option Addr) (c:Nat) (ss:List Sn) (w:World) (hx:Reads w 7 A ss.length (iN ss)) (hl:ss.length≤1099511627776) (ht:∀s∈ss,s.t.length≤4) :
 Calls Tryz.prog 140 #[.slice A ss.length c] w fun e w'=>e=.returned (.string ⟨(eV ss).toArray⟩)∧Bl w w':=by
 obtain ⟨w1,hw1⟩:=aH0 (w.alloc (.cells #[.pointer none,.slice none 0 0] 94));have hb1:=aHU hw1;obtain ⟨B,hB⟩:=aH0 w.heap.size;have h0:Bui B [] w1:=(by rw[hw1,hB];exact nP w);have hx1:=hx.bl hb1;have hle:B≤w1.heap.size:=(by have:=hb1.le;omega);obtain ⟨HX,HT,H0,HW,HB⟩:=aHK hx ht h0 hw1 hB;clear hx ht h0 hx1 hw1 hB
 go_in
 go_upto_region 2 with fail;rw[←HW.out,←HB.out];go_wp2_with fail;go_loopw [8] (fun v wr=>∃k:Nat,k≤ss.length∧v=.int .i64 k∧Bl w wr∧B≤wr.heap.size∧Bui B (eV (ss.take k)) wr) (fun v _=>ss.length-(intOf v).toNat);case atStart=>exact ⟨0,Nat.zero_le _,rfl,hb1,hle,H0.out⟩
 case round=>
  obtain ⟨k,hk,rfl,hbr,hBr,hbu⟩:=hrel;have cT:=aAe HT.out k;by_cases hlt:k<ss.length
  ·have hg:ss[k]? = some ss[k]:=aH2 hlt;obtain ⟨s,hs⟩:=aH0 (ss[k]);rw[←hs] at hg;have hts:=HT.out s (List.mem_of_getElem? hg);have hsc:=JY hg;obtain ⟨ad,rfl,c0,c1,c2,c3,c4,c5,c6⟩:=aAd (HX.out.bl hbr) hg;have hbo:=(Bl.refl wr).alloc (.cells #[.string ⟨s.t.toArray⟩,.int .i64 s.X,.int .i64 s.Y,.int .i64 s.W,.int .i64 s.H,.int .i64 s.d,.int .i64 s.e] 157);have hcl:=fun w2 (hb:Bl wr w2)=>aO B (eV (ss.take k)) s.t w2 (fK hbu hb) (by omega) (by have:=hb.le;omega);have Hcl:=aHH hcl;have HSc:=aHH hsc;clear hs hg hcl hsc hbu;go_wp2_with fail;refine (Hcl.out _ hbo).mono ?_;rintro e w3 ⟨rfl,hb3,YG⟩;have hbl:=(hbr.alloc (.cells #[.string ⟨s.t.toArray⟩,.int .i64 s.X,.int .i64 s.Y,.int .i64 s.W,.int .i64 s.H,.int .i64 s.d,.int .i64 s.e] 157)).trans' HB.out.symm YG;have Hb3:=aHH hb3;have Hbl:=aHH hbl;have hsz:=YG.size;clear hb3 YG;go_wp2_with fail;exact ⟨⟨k+1,hlt,by go_num,Hbl.out,by simp at hsz;omega,by rw[HSc.out];exact Hb3.out⟩,by simp[intOf];omega⟩
  ·obtain rfl:k=ss.length:=(by omega);have YH:=hbu;rw[aH9] at YH;have Hbu:=aHH YH;clear hbu YH;go_wp2_with fail;refine (gG B _ _ Hbu.out hBr).mono ?_;rintro e w3 ⟨rfl,hb3⟩;have hbl:=hbr.trans' HB.out.symm hb3;go_wp2_with fail;go_ret;exact ⟨rfl,hbl⟩
def aT (l:List Nat):List Value:=l.map fun (n:Nat)=>.int .i64 (n:Int)
end Go.Proofs.YtllefinciimffaaGreatDoor
namespace Go.Proofs.YtllefinciimffaaGreatDoor
open Go.RowKit
def vA (f : Nat → Bool) : Nat → Bool
 |0=>false
 |k+1=>f k
def bE (f : Nat → Bool) : Nat → List Nat × Nat
 |0=>([],0)
 |k+1=>if f k=vA f k then ((bE f k).1,(bE f k).2+1) else ((bE f k).1++[(bE f k).2],1)
def jR (f:Nat→Bool) (k:Nat):List Nat:=(bE f k).1++[(bE f k).2]
theorem mR (f : Nat → Bool) : ∀ k, (bE f k).1.length ≤ k ∧ (bE f k).2 ≤ k
 |0=>⟨Nat.le_refl _,Nat.le_refl _⟩
 |k+1=>by
  have ih:=mR f k;show ((if f k=vA f k then ((bE f k).1,(bE f k).2+1) else ((bE f k).1++[(bE f k).2],1)):List Nat × Nat).1.length≤k+1∧((if f k=vA f k then ((bE f k).1,(bE f k).2+1) else ((bE f k).1++[(bE f k).2],1)):List Nat × Nat).2≤k+1;split
  ·exact ⟨by show (bE f k).1.length≤k+1;omega,by show (bE f k).2+1≤k+1;omega⟩
  ·refine ⟨?_,by show 1≤k+1;omega⟩;show ((bE f k).1++[(bE f k).2]).length≤k+1;rw[aH5,aIo];omega
theorem xN {f:Nat→Bool} {k:Nat} (h:f k=vA f k):bE f (k+1)=((bE f k).1,(bE f k).2+1):=if_pos h
theorem DF {f:Nat→Bool} {k:Nat} (h:f k≠vA f k):bE f (k+1)=((bE f k).1++[(bE f k).2],1):=if_neg h
def gU (r:List Nat × Nat):List Value:=aT r.1++[.int .i64 r.2]
theorem rQ (f:Nat→Bool) (k:Nat):gU (bE f k)=aT (jR f k):=by unfold gU jR aT;rw[aIp];rfl
theorem cY (l:List Nat):(aT l).length=l.length:=by unfold aT;rw[aH6]
theorem DG (l:List Nat) (c d:Nat):(aT l++[Value.int .i64 c]).set l.length (.int .i64 d)=aT l++[Value.int .i64 d]:=by
 rw[List.set_append_right _ _ (by rw[cY];omega),cY,Nat.sub_self];rfl
theorem F3 (l:List Nat) (c e d:Nat):(aT l++[Value.int .i64 c]++[Value.int .i64 e]).set (l.length+1) (.int .i64 d)=aT (l++[c])++[Value.int .i64 d]:=by
 rw[List.set_append_right _ _ (by rw[aH5,cY,aIo];omega),aH5,cY,aIo,Nat.sub_self];unfold aT;rw[aIp];rfl
theorem SW {l:List Nat} {n:Nat} (h:n=l.length) (c:Nat) (e:Value):(aT l++[Value.int .i64 c]++[e])[n+1]? = some e:=by
 subst h;have e1:(aT l++[Value.int .i64 c]).length=l.length+1:=(by rw[aH5,cY];rfl);rw[aIa (by omega),e1,Nat.sub_self];rfl
theorem SX {w:World} {t:TypeId} {u:Value}:(w.alloc (.cells #[u] t)).ownsRow w.heap.size t 1 (.slice (some ⟨w.heap.size,0,none⟩) 1 1) 1 [u]:=
 ⟨rfl,.inr ⟨w.heap.size,1,#[u],rfl,Nat.le_refl _,heap_alloc_new w _,Nat.le_refl _,by unfold maxLen;omega,rfl,rfl⟩⟩
def RunsOfRes (l:List Nat) (w:World) (e:Ending) (w':World):Prop:=∃R d,e=.returned (.slice R l.length d)∧Reads w' 1 R l.length (aT l)∧Bl w w'∧l.length≤d
theorem mS {w:World} {base:Nat} {e:TypeId} {n g cap:Nat} {xs:List Value} (h:w.ownsRow base e 1 (.slice (some ⟨g,0,none⟩) n cap) n xs) {j:Nat} {u:Value} (hj:xs[j]? = some u):w.cell? ⟨g,j,none⟩=some u:=by
 obtain ⟨A,c,e2,hr⟩:=bL h;injection e2 with e1 _ _;subst e1;have hl:=(aH3.1 hj).1;have cT:=hr.1;obtain ⟨ad,e3,hc⟩:=hr.2 (by omega);injection e3 with e3;subst e3;have h1:=hc j u hj;have e4:(⟨g,0,none⟩:Addr).add j=⟨g,j,none⟩:=(by unfold Addr.add;split<;>simp_all);rw[e4] at h1;exact h1
theorem OZ (W H:Nat) (A:Option Addr) (ac:Nat) (bs:List Bool) (y:Nat) (w:World) (hA:Reads w 1 A (W*H) (bs.map .bool)) (hW:W≤4000) (hH:H≤4000) (hy:y<H) :
 Calls Tryz.prog 191 #[.agg #[W,H,.slice A (W*H) ac],y] w (RunsOfRes (jR (fun x=>pix bs W x y) W) w):=by
 let w2:=(w).alloc (.cells #[W,H,.slice A (W*H) ac] 43);obtain ⟨w2b,w21⟩:=aHO (x:=w2) w _ _ rfl;have HA:=aHH (hA.bl w2b);obtain ⟨f,hf⟩:∃f,f=fun x=>pix bs W x y:=⟨_,rfl⟩;rw[←hf];have HF:=aHH hf;have k1:=w21.all3;clear hA hf
 go_in
 go_upto_region 2 with fail;obtain ⟨w3,hw3⟩:=aH0 (w2.alloc (.cells #[.int .i64 0] 3));have hb3:=aHU hw3;have lw2:w2.heap.size=w.heap.size+1:=(by simp[w2]);have h0:w3.ownsRow w2.heap.size 3 1 (.slice (some ⟨w.heap.size+1,0,none⟩) 1 1) 1 (gU (bE f 0)):=(by rw[hw3,←lw2];exact SX);have hw:(w.alloc (.cells #[W,H,.slice A (W*H) ac] 43)).alloc (.cells #[.int .i64 0] 3)=w3:=hw3.symm;rw[hw];clear hw hw3;have H0:=aHH h0;clear_value w2;have k1:=(w21.bl hb3).all3;clear h0;go_wp2_with fail;go_loopw [11,5,6] (fun u v x wr=>∃k:Nat,k≤W∧u=.int .i64 k∧x=.bool (vA f k)∧Bl w2 wr∧Hid (wr.ownsRow w2.heap.size 3 1 v ((bE f k).1.length+1) (gU (bE f k)))) (fun u _ _ _=>W-(RowKit.intOf u).toNat);case atStart=>exact ⟨0,Nat.zero_le _,rfl,rfl,hb3,H0⟩
 case round=>
  clear k1;obtain ⟨k,hk,rfl,rfl,hbr,aV⟩:=hrel;have k1:=(w21.bl hbr).all3;obtain ⟨g,cap,rfl,hgB,ZJ⟩:=gF aV.out (by omega);have aBT:=aHH ZJ;clear ZJ;by_cases hlt:k<W
  ·have hle:=mR f k;have hat:=uA W H A ac bs k y wr (HA.out.bl hbr) hW hH;rw[t8 bs W H k y hlt hy] at hat;have hfk:pix bs W k y=f k:=(by rw[HF.out]);rw[hfk] at hat;obtain ⟨l,hl⟩:=aH0 ((bE f k).1);obtain ⟨c,hc⟩:=aH0 ((bE f k).2);have hrc:gU (bE f k)=aT l++[.int .i64 c]:=(by rw[hl,hc];rfl);have vI:=aV.out;rw[hrc,←hl] at vI;have hs1:=xN (f:=f) (k:=k);have hs2:=DF (f:=f) (k:=k);rw[←hl,←hc] at hs1 hs2 hle;rw[←hl];have hin:vA f (k+1)=f k:=rfl;obtain ⟨n,hn⟩:=aH0 l.length;rw[←hn] at vI hle ⊢;obtain ⟨Hat,HOw,HIn,HNl,HBr⟩:=aHK hat vI hin hn hbr;obtain ⟨p,hp⟩:=aH0 (f k);rw[←hp] at Hat HIn hs1 hs2;obtain ⟨q,hq⟩:=aH0 (vA f k);rw[←hq] at hs1 hs2 ⊢;have hkn:((n+1:Nat):Int)-1=(n:Int):=(by omega);clear hat vI aV hrc hl hc hn hfk hp hq hin hbr;by_cases hpq:p=q
   ·have HS:=aHH (hs1 hpq);have aDM:(p != q)=false:=(by rw[hpq];exact bne_self_eq_false q);clear hs1 hs2;go_wp2_with fail;refine Hat.out.mono ?_;rintro e w4 ⟨rfl,hb4⟩;have aBU:=aHH (cX HOw.out hb4);have hcl:w4.cell? ⟨g,n,none⟩=some (.int .i64 c):=mS aBU.out (by rw[aIa (by rw[cY,HNl.out];omega),cY,HNl.out,Nat.sub_self];rfl);have hfz:=(kR aBU.out).2;have aGB:=aHH (HBr.out.trans hb4);have AF:=aHH (show (w4.setCell ⟨g,n,none⟩ (.int .i64 ((c:Int)+1))).ownsRow w2.heap.size 3 1 (.slice (some ⟨g,0,none⟩) (n+1) cap) ((bE f (k+1)).1.length+1) (gU (bE f (k+1))) by
     have h:=dO aBU.out n (.int .i64 ((c+1:Nat):Int));rw[HNl.out,DG,←HNl.out] at h;rw[HS.out];show World.ownsRow _ _ _ _ _ (l.length+1) (aT l++[.int .i64 ((c+1:Nat):Int)]);rw[←HNl.out];exact h)
    clear hb4;go_wp2_with fail;exact ⟨⟨k+1,hlt,by go_num,by rw[HIn.out,hpq],aGB.out.setCell hgB _,AF⟩,by simp[RowKit.intOf]<;>omega⟩
   ·have HS:=aHH (hs2 hpq);have aDM:(p != q)=true:=(by rw[bne_iff_ne];exact hpq);have hpe:(p==q)=false:=(by rw[aIr];exact hpq);have hnq:(!q)=p:=(by cases p<;>cases q<;>first|rfl|exact absurd rfl hpq);clear hs1 hs2;go_wp2_with fail;refine Hat.out.mono ?_;rintro e w4 ⟨rfl,hb4⟩;have aBU:=aHH (cX HOw.out hb4);have mJ:=HBr.out.trans hb4;have t1:w2.heap.size≤w4.heap.size:=mJ.le;have t2:(n+1+1)*8≤140737488355328:=(by omega);have t3:n+1+1≤maxLen:=(by unfold maxLen;omega);clear hb4;go_wp2_with (at_builtin;refine bI (w1:=w2) rfl (.tmp 22) (.tmp 23) 47 rfl 3 (.int .i64 0) 8 Tryz.underlying47 iI rfl w2.heap.size _ (n+1) (aT l++[.int .i64 c]) rfl (.int .i64 0) rfl ?a1 ?a2 ?a3 ?a4 ?a5 ?a6 ?a7 ?a8;exact rfl;exact mJ;exact Nat.le_refl _;exact t1;exact aBU.out;exact t2;exact t3;intro v' w8 bF hb8 hg8;obtain ⟨g2,cap2,rfl,hg2,-⟩:=gF bF (by omega);have vJ:=aHH bF;have HB8:=aHH hb8;have hcl:w8.cell? ⟨g2,n+1,none⟩=some (.int .i64 0):=mS vJ.out (SW HNl.out c _);have hfz:=(kR vJ.out).2;clear bF hb8 hg8);have hkn2:((n+1+1:Nat):Int)-1=((n+1:Nat):Int):=(by omega);have AF:=aHH (show (w8.setCell ⟨g2,n+1,none⟩ (.int .i64 1)).ownsRow w2.heap.size 3 1 (.slice (some ⟨g2,0,none⟩) (n+1+1) cap2) ((bE f (k+1)).1.length+1) (gU (bE f (k+1))) by
     have h:=dO vJ.out (n+1) (.int .i64 ((1:Nat):Int));have e:=F3 l c 0 1;rw[←HNl.out] at e;rw[show (Value.int .i64 (0:Int))=Value.int .i64 ((0:Nat):Int) from rfl,e] at h;rw[HS.out];show World.ownsRow _ _ _ _ _ ((l++[c]).length+1) (aT (l++[c])++[.int .i64 ((1:Nat):Int)]);rw[aH5,aIo,←HNl.out];exact h)
    go_wp2_with fail;exact ⟨⟨k+1,hlt,by go_num,by rw[HIn.out],HB8.out.setCell hg2 _,AF⟩,by simp[RowKit.intOf]<;>omega⟩
  ·obtain rfl:k=W:=(by omega);obtain ⟨A2,c2,e2,hr2⟩:=bL aV.out;injection e2 with q1 _ q3;subst q1;subst q3;have HRr:=aHH hr2;clear hr2 aV;have hll:(jR f k).length=(bE f k).1.length+1:=(by unfold jR;rw[aH5,aIo]);go_wp2_with fail;refine aIx (v:=.slice (some ⟨g,0,none⟩) ((bE f k).1.length+1) cap) (by simp[results,Tryz.results191,go_sem]) rfl ⟨some ⟨g,0,none⟩,cap,by rw[hll],?_,w2b.trans hbr,by rw[hll];exact aBT.out⟩;rw[hll,←rQ];exact HRr.out
structure Cd where
 k:Int
 t:List UInt8
 X:Int
 Y:Int
 W:Int
 n:Int
def Cd.cells (c:Cd):List Value:=[.int .i64 c.k,.string ⟨c.t.toArray⟩,.int .i64 c.X,.int .i64 c.Y,.int .i64 c.W,.int .i64 c.n]
def aK (cs:List Cd):List Value:=cs.flatMap Cd.cells
theorem xO (ss:List Cd):(aK ss).length=ss.length*6:=by
 unfold aK;induction ss with
 |nil=>rfl
 |cons l ls ih=>rw[aIM,aH5,ih,aH8];show 6+ls.length*6=(ls.length+1)*6;omega
theorem kM {ls:List Cd} {i:Nat} {l:Cd} (h:ls[i]? = some l) (j:Nat) (hj:j<6):(aK ls)[i*6+j]? = l.cells[j]?:=by
 induction ls generalizing i with
 |nil=>simp at h
 |cons x ls ih=>
  unfold aK;rw[aIM];rcases i with _|i
  ·simp only[aIq,Option.some.injEq] at h;subst h;rw[aIb (by show 0*6+j<6;omega)];simp
  ·rw[aIa (by show 6≤(i+1)*6+j;omega)];have e:(i+1)*6+j-x.cells.length=i*6+j:=by
    show (i+1)*6+j-6=i*6+j;omega
   rw[e];exact ih (by simpa using h)
theorem O0 {w:World} {A:Option Addr} {ss:List Cd} {i:Nat} {c:Cd} (h:Reads w 6 A ss.length (aK ss)) (hi:ss[i]? = some c):∃ad,A=some ad∧w.cell? (ad.add (i*6))=some (.int .i64 c.k)∧w.cell? ⟨(ad.add (i*6)).block,(ad.add (i*6)).off+1,none⟩=some (.string ⟨c.t.toArray⟩)∧w.cell? ⟨(ad.add (i*6)).block,(ad.add (i*6)).off+2,none⟩=some (.int .i64 c.X)∧w.cell? ⟨(ad.add (i*6)).block,(ad.add (i*6)).off+3,none⟩=some (.int .i64 c.Y)∧w.cell? ⟨(ad.add (i*6)).block,(ad.add (i*6)).off+4,none⟩=some (.int .i64 c.W)∧w.cell? ⟨(ad.add (i*6)).block,(ad.add (i*6)).off+5,none⟩=some (.int .i64 c.n):=by
 have hlt:i<ss.length:=(aH3.1 hi).1;obtain ⟨ad,e,hc⟩:=h.2 (by omega);have key:∀j v,j<6→c.cells[j]? = some v→w.cell? ((ad.add (i*6)).add j)=some v:=fun j v hj hv=>by
  rw[dZ];exact hc _ _ (by rw[kM hi j hj];exact hv)
 have k0:=key 0 _ (by omega) rfl;have k1:=key 1 _ (by omega) rfl;have k2:=key 2 _ (by omega) rfl;have k3:=key 3 _ (by omega) rfl;have k4:=key 4 _ (by omega) rfl;have k5:=key 5 _ (by omega) rfl;rw[Addr.add_zero'] at k0;rw[Addr.add_succ'] at k1 k2 k3 k4 k5;exact ⟨ad,e,k0,k1,k2,k3,k4,k5⟩
theorem Blk.all6' {w:World} {g:Nat} {t:TypeId} {a b c d e f:Value} (k:Blk w g t #[a,b,c,d,e,f]):w.cell? ⟨g,0,none⟩=some a∧w.cell? ⟨g,1,none⟩=some b∧w.cell? ⟨g,2,none⟩=some c∧w.cell? ⟨g,3,none⟩=some d∧w.cell? ⟨g,4,none⟩=some e∧w.cell? ⟨g,5,none⟩=some f∧∀i,w.frozen? ⟨g,i,none⟩=false:=
 ⟨k.cell 0,k.cell 1,k.cell 2,k.cell 3,k.cell 4,k.cell 5,k.frozen⟩
def jA (c:Cd):Bool:=inB c.X 0 4000&&(inB c.Y 0 4000&&(inB c.W 0 4000&&inB c.n 1 1000000))
def gL (c:Cd):Int:=if c.k≠1∧c.k≠2 then 1 else if jA c=false then 3 else 0
def eS (cs:List Cd):Int:=if aB (cs.map gL)=0 then aE (decide (10000<(cs.length:Int))) 4 else aB (cs.map gL)
theorem tF {α : Type} (f : α → Int) : ∀ (l : List α) (i : Nat) (x : α), aB ((l.take i).map f) = 0 → l[i]? = some x → f x ≠ 0 → aB (l.map f) = f x
 |[],i,x,_,h,_=>by simp at h
 |y :: l,0,x,_,h,hx=>by
  simp only[aIq,Option.some.injEq] at h;subst h;show (if f y=0 then _ else f y)=f y;rw[if_neg hx]
 |y :: l,i+1,x,h0,h,hx=>by
  have h1:(if f y=0 then aB ((l.take i).map f) else f y)=0:=h0;by_cases hy:f y=0
  ·rw[if_pos hy] at h1;show (if f y=0 then aB (l.map f) else f y)=f x;rw[if_pos hy];exact tF f l i x h1 (by simpa using h) hx
  ·rw[if_neg hy] at h1;exact absurd h1 hy
theorem oR {α : Type} (f : α → Int) : ∀ (l : List α) (i : Nat) (x : α), aB ((l.take i).map f) = 0 → l[i]? = some x → f x = 0 → aB ((l.take (i + 1)).map f) = 0
 |[],i,x,_,h,_=>by simp at h
 |y :: l,0,x,_,h,hx=>by
  simp only[aIq,Option.some.injEq] at h;subst h;show (if f y=0 then aB ((l.take 0).map f) else f y)=0;rw[if_pos hx];rfl
 |y :: l,i+1,x,h0,h,hx=>by
  have h1:(if f y=0 then aB ((l.take i).map f) else f y)=0:=h0;by_cases hy:f y=0
  ·rw[if_pos hy] at h1;show (if f y=0 then aB ((l.take (i+1)).map f) else f y)=0;rw[if_pos hy];exact oR f l i x h1 (by simpa using h) hx
  ·rw[if_neg hy] at h1;exact absurd h1 hy
theorem WS (n:Int) (w:World) :
 Calls Tryz.prog 238 #[n] w fun e w'=>e=.returned (.bool (inB n 0 4000))∧w=w':=by
 unfold inB;by_cases h1:0≤n<;>by_cases h2:n≤4000
 all_goals
  go_in
  go_wp2
  go_ret;exact ⟨by simp[*],rfl⟩
theorem F4 (A:Option Addr) (c:Nat) (zs:List Int) (w:World) (hx:Reads w 1 A zs.length (zs.map (.int .i64))) (hl:zs.length≤1000) :
 Calls Tryz.prog 200 #[.slice A zs.length c] w fun e w'=>e=.returned (.int .i64 (aB zs))∧w=w':=by
 have HX:=aHH hx;clear hx
 go_in
 go_wp2_with fail;go_loopw [8] (fun v wr=>∃i:Nat,i≤zs.length∧v=.int .i64 i∧wr=w∧Hid (aB ((zs.take i).map id)=0)) (fun v _=>zs.length-(RowKit.intOf v).toNat);case atStart=>exact ⟨0,Nat.zero_le _,rfl,by trivial,aHH rfl⟩
 case round=>
  obtain ⟨i,hi,rfl,rfl,H0⟩:=hrel;by_cases hlt:i<zs.length
  ·obtain ⟨z,hz⟩:∃z,zs[i]? = some z:=⟨_,aH2 hlt⟩;obtain ⟨ad,u,rfl,hu,hc⟩:=HX.out.at_ hlt;rw[aId,hz] at hu;obtain rfl:=aIw hu;have hin:(i:Int)<(zs.length:Int):=(by omega);by_cases h0:z=0
   ·have HG:=aHH (oR id zs i z H0.out hz h0);subst h0;clear hz;go_wp2_with fail;exact ⟨⟨i+1,hlt,by go_num,by trivial,HG⟩,by simp[RowKit.intOf]<;>omega⟩
   ·have HE:=aHH (show aB zs=z by have h:=tF id zs i z H0.out hz h0;rwa [List.map_id] at h);have hq:(z != 0)=true:=(by rw[bne_iff_ne];exact h0);clear hz h0;go_wp2_with fail;refine aIx (v:=.int .i64 z) (by simp[results,Tryz.results200,go_sem]) rfl ⟨by rw[HE.out],rfl⟩
  ·obtain rfl:i=zs.length:=(by omega);have h0:=H0.out;rw[aH9,List.map_id] at h0;have HE:=aHH h0;clear h0;go_wp2_with fail;go_ret;exact ⟨cP HE.out.symm,rfl⟩
def dH (c e:Cd):Bool:=decide (e.k=c.k)&&decide (e.t=c.t)
theorem JZ (g:Nat) (c e:Cd) (w:World) (hb:Blk w g 161 #[c.k,c.t,c.X,c.Y,c.W,c.n]) :
 Calls Tryz.prog 197 #[.agg #[e.k,e.t,e.X,e.Y,e.W,e.n],.pointer (some ⟨g,0,none⟩)] w fun r w'=>r=.returned (.bool (dH c e))∧Bl w w':=by
 have kb:=hb.all6';have lb:=hb.lt;by_cases h1:e.k=c.k
 ·have hq:(e.k==c.k)=true:=(by simp[h1]);have HV:=aHH (show dH c e=decide (e.t=c.t) by unfold dH;rw[aIu h1,Bool.true_and]);clear h1
  go_in
  go_wp2_with fail;go_ret;exact ⟨aS (by rw[HV.out,Bool.eq_iff_iff,beq_iff_eq,decide_eq_true_eq]),by first|exact (Bl.refl _).alloc _|exact ((Bl.refl _).alloc _).drew⟩
 ·have hq:(e.k==c.k)=false:=(by simp[h1]);have HV:=aHH (show dH c e=false by unfold dH;rw[aIt h1,Bool.false_and]);clear h1
  go_in
  go_wp2_with fail;go_ret;exact ⟨aS HV.out.symm,by first|exact (Bl.refl _).alloc _|exact ((Bl.refl _).alloc _).drew⟩
end Go.Proofs.YtllefinciimffaaGreatDoor
namespace Go.Proofs
open Go.Shelf
def Tryz.lays145_ren:Go.Shelf.Ren:=⟨fun|145=>171|220=>230|219=>133|217=>173|225=>174|224=>175|267=>176|266=>231|314=>232|n=>n,fun|9=>9|4=>4|59=>229|3=>3|5=>5|46=>233|146=>278|51=>277|n=>n,fun|1=>0|n=>n⟩
end Go.Proofs
namespace Go.Proofs.YtllefinciimffaaGreatDoor
open Go.RowKit Go.Shelf
def CutOk (w:World):Prop:=∃m:Int,w.cell? ⟨Tryz.lays145_ren.g 1,0,none⟩=some (.int .i64 m)
theorem CutOk.bl {w w':World} (h:CutOk w) (hb:Bl w w'):CutOk w':=let ⟨m,hm⟩:=h;⟨m,hb.at hm⟩
end Go.Proofs.YtllefinciimffaaGreatDoor
namespace Go.Proofs
open Go.Shelf
def Tryz.laysSortI_ren:Go.Shelf.Ren:=⟨fun|5=>143|8=>190|7=>189|19=>250|20=>251|10=>241|11=>242|12=>243|13=>244|14=>245|15=>246|16=>247|17=>248|18=>249|30=>289|31=>290|32=>291|33=>292|34=>293|35=>294|40=>331|n=>n,fun|23=>47|25=>3|3=>3|32=>233|22=>47|0=>0|44=>277|46=>270|4=>4|36=>289|35=>288|41=>182|5=>5|9=>9|53=>322|57=>189|63=>350|64=>351|n=>n,fun|n=>n⟩
theorem Tryz.laysSortI : Go.Proofs.SlLaysM.n5 Tryz.prog Tryz.laysSortI_ren := {
 mixed:=by kernel_rfl
 f5:=⟨Tryz.f143.name,by decide,Tryz.func143.trans (congrArg some (by kernel_rfl))⟩
 f7:=⟨Tryz.f189.name,by decide,Tryz.func189.trans (congrArg some (by kernel_rfl))⟩
 f8:=Tryz.func190.trans (congrArg some (by kernel_rfl))
 f10:=⟨Tryz.f241.name,by decide,Tryz.func241.trans (congrArg some (by kernel_rfl))⟩
 f11:=⟨Tryz.f242.name,by decide,Tryz.func242.trans (congrArg some (by kernel_rfl))⟩
 f12:=⟨Tryz.f243.name,by decide,Tryz.func243.trans (congrArg some (by kernel_rfl))⟩
 f13:=⟨Tryz.f244.name,by decide,Tryz.func244.trans (congrArg some (by kernel_rfl))⟩
 f14:=⟨Tryz.f245.name,by decide,Tryz.func245.trans (congrArg some (by kernel_rfl))⟩
 f15:=⟨Tryz.f246.name,by decide,Tryz.func246.trans (congrArg some (by kernel_rfl))⟩
 f16:=⟨Tryz.f247.name,by decide,Tryz.func247.trans (congrArg some (by kernel_rfl))⟩
 f17:=⟨Tryz.f248.name,by decide,Tryz.func248.trans (congrArg some (by kernel_rfl))⟩
 f18:=⟨Tryz.f249.name,by decide,Tryz.func249.trans (congrArg some (by kernel_rfl))⟩
 f19:=Tryz.func250.trans (congrArg some (by kernel_rfl))
 f20:=Tryz.func251.trans (congrArg some (by kernel_rfl))
 f30:=⟨Tryz.f289.name,by decide,Tryz.func289.trans (congrArg some (by kernel_rfl))⟩
 f31:=Tryz.func290.trans (congrArg some (by kernel_rfl))
 f32:=Tryz.func291.trans (congrArg some (by kernel_rfl))
 f33:=⟨Tryz.f292.name,by decide,Tryz.func292.trans (congrArg some (by kernel_rfl))⟩
 f34:=⟨Tryz.f293.name,by decide,Tryz.func293.trans (congrArg some (by kernel_rfl))⟩
 f35:=⟨Tryz.f294.name,by decide,Tryz.func294.trans (congrArg some (by kernel_rfl))⟩
 f40:=⟨Tryz.f331.name,by decide,Tryz.func331.trans (congrArg some (by kernel_rfl))⟩
 t0:=Tryz.underlying0
 a0:=Tryz.isAgg0
 z0:=Tryz.sizeOf0
 v0:=Tryz.zeroValue0
 t3:=Tryz.underlying3
 a3:=Tryz.isAgg3
 z3:=Tryz.sizeOf3
 v3:=Tryz.zeroValue3
 t4:=Tryz.underlying4
 a4:=Tryz.isAgg4
 z4:=Tryz.sizeOf4
 v4:=Tryz.zeroValue4
 t5:=Tryz.underlying5
 a5:=Tryz.isAgg5
 z5:=Tryz.sizeOf5
 v5:=Tryz.zeroValue5
 t9:=Tryz.underlying9
 a9:=Tryz.isAgg9
 z9:=Tryz.sizeOf9
 v9:=Tryz.zeroValue9
 t22:=Tryz.underlying47
 a22:=Tryz.isAgg47
 z22:=Tryz.sizeOf47
 v22:=Tryz.zeroValue47
 t23:=Tryz.underlying47
 a23:=Tryz.isAgg47
 z23:=Tryz.sizeOf47
 v23:=Tryz.zeroValue47
 t25:=Tryz.underlying3
 a25:=Tryz.isAgg3
 z25:=Tryz.sizeOf3
 v25:=Tryz.zeroValue3
 t32:=Tryz.underlying233
 a32:=Tryz.isAgg233
 z32:=Tryz.sizeOf233
 v32:=Tryz.zeroValue233
 t35:=Tryz.underlying288
 a35:=Tryz.isAgg288
 z35:=Tryz.sizeOf288
 v35:=Tryz.zeroValue288
 t36:=Tryz.underlying289
 a36:=Tryz.isAgg289
 z36:=Tryz.sizeOf289
 v36:=Tryz.zeroValue289
 t41:=Tryz.underlying182
 a41:=Tryz.isAgg182
 z41:=Tryz.sizeOf182
 v41:=Tryz.zeroValue182
 t44:=Tryz.underlying277
 a44:=Tryz.isAgg277
 z44:=Tryz.sizeOf277
 v44:=Tryz.zeroValue277
 t46:=Tryz.underlying270
 a46:=Tryz.isAgg270
 z46:=Tryz.sizeOf270
 v46:=Tryz.zeroValue270
 t53:=Tryz.underlying322
 a53:=Tryz.isAgg322
 z53:=Tryz.sizeOf322
 v53:=Tryz.zeroValue322
 t57:=Tryz.underlying189
 a57:=Tryz.isAgg189
 z57:=Tryz.sizeOf189
 v57:=Tryz.zeroValue189
 t63:=Tryz.underlying350
 a63:=Tryz.isAgg350
 z63:=Tryz.sizeOf350
 v63:=Tryz.zeroValue350
 t64:=Tryz.underlying351
 a64:=Tryz.isAgg351
 z64:=Tryz.sizeOf351
 v64:=Tryz.zeroValue351 }
end Go.Proofs
namespace Go.Proofs.YtllefinciimffaaGreatDoor
open Go.RowKit Go.Shelf Go.Sort
theorem rR (B g cap:Nat) (T:TypeId) (l:List Int) (w:World) (aV:w.ownsRow B T 1 (.slice (some ⟨g,0,none⟩) l.length cap) l.length (l.map (.int .i64))) (hn:l.length≤1000000) :
 Calls Tryz.prog 143 #[.slice (some ⟨g,0,none⟩) l.length cap] w fun e w'=>e=.returned (.tuple #[])∧Reads w' 1 (some ⟨g,0,none⟩) l.length ((mO l).map (.int .i64))∧w.heap.size≤w'.heap.size∧(∀k,k<w.heap.size→k≠g→w'.heap[k]? = w.heap[k]?)∧∀w0,Bl w0 w→w0.heap.size≤g→Bl w0 w':=by
 have JA:g<w.heap.size:=(aV.lt g rfl).2;have hH:Holds (Value.int .i64) w g 0 l.toArray:=fun j hj=>by
  have hj':j<l.length:=(by simpa using hj);rw[Nat.zero_add];refine ⟨?_,World.ownsRow.frozenAt aV j⟩;rw[World.ownsRow.cellAt aV j (by omega)];simp[hj']
 have AD:=AnyM.slices_Sort_int Tryz.laysSortI g 0 cap l w hH JA (by omega);refine Calls.mono (R:=fun e w'=>e=.returned (.tuple #[])∧∃n os,w'=grow (putRow (Value.int .i64) (Sort.ahead w n) g 0 (mO l).toArray) os) AD ?_;rintro e w' ⟨rfl,n,os,rfl⟩;have hp:Holds (Value.int .i64) (putRow (Value.int .i64) (Sort.ahead w n) g 0 (mO l).toArray) g 0 (mO l).toArray:=holds_putRow (Value.int .i64) _ _ _ l.toArray _ (fun j hj=>hH j hj) (by simp[wW]);have hsz:(putRow (Value.int .i64) (Sort.ahead w n) g 0 (mO l).toArray).heap.size=w.heap.size:=by
  unfold putRow mapBlock Sort.ahead;simp
 have hp2:=holds_grow (Value.int .i64) (putRow (Value.int .i64) (Sort.ahead w n) g 0 (mO l).toArray) os g 0 (mO l).toArray (by rw[hsz];exact JA) hp;refine ⟨rfl,⟨by simp[wW],fun hk=>⟨_,rfl,fun j u hu => ?_⟩⟩,by rw[←hsz];simp,fun k hk hne => ?_,fun w0 h0 hb => ?_⟩
 ·rw[aId,Option.map_eq_some_iff] at hu;obtain ⟨x,hx,rfl⟩:=hu;have hj:=(aH3.1 hx).1;have h:=(hp2 j (by simpa using hj)).1;rw[Addr.add_lit,h];have:(mO l).toArray[j]! = x:=by
   rw[getElem!_pos _ j (by simpa using hj)];simpa using aIw ((aH2 hj).symm.trans hx)
  rw[this]
 ·show ((putRow (Value.int .i64) (Sort.ahead w n) g 0 (mO l).toArray).heap++os)[k]? = _;rw[Array.getElem?_append_left (by omega)];unfold putRow mapBlock Sort.ahead;simp only[Array.getElem?_modify];rw[if_neg (Ne.symm hne)]
 ·have h1:Bl w0 (putRow (Value.int .i64) (Sort.ahead w n) g 0 (mO l).toArray):=Lib.below_putRow (q:=n) h0 hb;refine ⟨h1.os,h1.tape,h1.output,?_,fun k hk => ?_⟩
  ·have:=Below.size h1;show _≤((putRow (Value.int .i64) (Sort.ahead w n) g 0 (mO l).toArray).heap++os).size;simp;omega
  ·have h2:=Below.block h1 k hk;have h3:=Below.size h1;show ((putRow (Value.int .i64) (Sort.ahead w n) g 0 (mO l).toArray).heap++os)[k]? = _;rw[Array.getElem?_append_left (by omega)];exact h2
end Go.Proofs.YtllefinciimffaaGreatDoor
