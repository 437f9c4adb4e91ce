import Derived.Test.YtllefinciimffaaGreatDoorMClaimTopForms16
import Derived.Test.YtllefinciimffaaGreatDoorMClaimTopForms13
import Derived.Lib.OthersKept
set_option maxHeartbeats 20000000
set_option maxRecDepth 100000
namespace Go.Proofs.YtllefinciimffaaGreatDoor
open Go.RowKit Go.Shelf
def KeepsIt (w w':World):Prop:=∀(j:Nat) (s:ByteArray) (p:Nat),w.heap[j]? = some (.stringIter s p)→w'.heap[j]? = some (.stringIter s p)
theorem KeepsIt.refl (w:World):KeepsIt w w:=fun _ _ _ h=>h
theorem KeepsIt.trans {a b c:World} (h:KeepsIt a b) (k:KeepsIt b c):KeepsIt a c:=fun j s p e=>k j s p (h j s p e)
theorem KeepsIt.setCell {a w:World} (h:KeepsIt a w) (q:Addr) (u:Value):KeepsIt a (w.setCell q u):=fun j s p e=>by
 have h1:=h j s p e;show (w.setCell q u).heap[j]? = _;unfold World.setCell;simp only[Array.getElem?_modify];by_cases hj:q.block=j
 ·rw[if_pos hj,h1];rfl
 ·rw[if_neg hj,h1]
theorem KeepsIt.alloc {a w:World} (h:KeepsIt a w) (o:Obj):KeepsIt a (w.alloc o):=fun j s p e=>by
 have h1:=h j s p e;exact (Below.heap_alloc w o j (aL1.1 h1).1).trans h1
theorem KeepsIt.grown {a w w':World} {v:Value} {B n:Nat} {e:TypeId} {xs:List Value} (h:KeepsIt a w) (hg:w.grownBy w' v.ownBlock) (ho:w.ownsRowF B e 1 v n xs):KeepsIt a w':=fun j s p e=>by
 have h1:=h j s p e;rw[hg.block j (aL1.1 h1).1 (fun hv => ?_)]
 ·exact h1
 ·rcases ho.2 with ⟨h2,_⟩|⟨g,cap,cur,fz,h2,-,hh,-⟩
  ·subst h2;cases hv
  ·subst h2;injection hv with hv;subst hv;rw[h1] at hh;cases hh
theorem BK (B:Nat) (l:List UInt8) (c:UInt8) (w:World) (h:Bui B l w) (cL:l.length+1≤140737488355328) (hBw:B≤w.heap.size) :
 Calls Tryz.prog 124 #[.pointer (some ⟨B,0,none⟩),.int .u8 (c.toNat:Int)] w fun e w'=>e=.returned .nilIface∧Bui B (l++[c]) w'∧Below B w w'∧KeepsIt w w':=by
 obtain ⟨i0,hi,hz0,hz1,hz2⟩:=info_parts LG;obtain ⟨cv,hcv⟩:=aLt ((c.toNat:Int):Int);have hbc:Lib.byteCells (l++[c])=Lib.byteCells l++[.int .u8 cv]:=(by rw[Lib.byteCells_append,hcv];rfl);have hbl:(Lib.byteCells l).length=l.length:=Lib.byteCells_length l;rw[←hcv];have Hbc:=aLa hbc;have Hbl:=aLa hbl;clear hbc hbl hcv;have hck:Calls Tryz.prog 113 #[.pointer (some ⟨B,0,none⟩)] w fun e w'=>e=.returned (.tuple #[])∧Lib.BuilderAtF 94 5 B B (.pointer (some ⟨B,0,none⟩)) (Lib.byteCells l) w'∧Below B w w'∧KeepsIt w w':=by
  rcases h with h|h
  ·refine (nY B w h.cell0 h.shape h.frozen0).mono ?_;rintro e w' ⟨rfl,rfl⟩;exact ⟨rfl,h.used _,(Below.refl B w).setCell (p:=⟨B,0,none⟩) (Nat.le_refl _) _,(KeepsIt.refl w).setCell _ _⟩
  ·refine (CW B w h.cell0).mono ?_;rintro e w' ⟨rfl,rfl⟩;exact ⟨rfl,h,Below.refl B _,KeepsIt.refl _⟩
 obtain ⟨bs,hbs⟩:=aLt (Lib.byteCells l);rw[←hbs] at hck Hbc Hbl;have Hck:=aLa hck;clear hbs hck h
 go_in
 go_wp2_with (go_at_call 113;refine Hck.out.mono ?_);rintro e w1 ⟨rfl,h1,hb1,hk1⟩;obtain ⟨hB,v,hbk,cA,hne⟩:=h1;have HK1:=aLa hk1;clear hk1;have c0:w1.cell? ⟨B,0,none⟩=some (.pointer (some ⟨B,0,none⟩)):=(by rw[Lib.cell_of_heap hbk];rfl);have c1:w1.cell? ⟨B,1,none⟩=some v:=(by rw[Lib.cell_of_heap hbk];rfl);go_wp2_with (at_builtin;refine wpList_append_ownF _ rfl _ _ 92 rfl B 5 i0 (.int .u8 0) 1 1 Tryz.underlying92 hi hz0 hz1 hz2 rfl (by decide) _ _ _ rfl (cA.alloc _) ⟨w1.heap.size,0,none⟩ 1 1 [.int .u8 cv] rfl rfl ?c1 ?c2 ?c3 ?c4 ?c5 ?_);case c1=>
  intro j u hj
  match j,hj with
  |0,hj=>simp at hj;subst hj;simp[Addr.add]
 case c2=>intro u hu;simp at hu;subst hu;rfl
 case c3=>unfold maxLen;have:=Hbl.out;omega
 case c4=>have:=Hbl.out;omega
 case c5=>have:=hb1.size;simp;omega
 intro v' w2 uB xD _;have hlt:B<w1.heap.size:=by
  rcases Nat.lt_or_ge B w1.heap.size with h' | h'
  ·exact h'
  ·simp[Array.getElem?_eq_none h'] at hbk
 have hb2:w2.heap[B]? = some (.cells #[.pointer (some ⟨B,0,none⟩),v] 94 (0,0)):=by
  rw[xD.block B (by simp;omega) (fun e=>hne e.symm),Lib.alloc_old w1 _ B hlt];exact hbk
 have d0:w2.cell? ⟨B,0,none⟩=some (.pointer (some ⟨B,0,none⟩)):=(by rw[Lib.cell_of_heap hb2];rfl);have d1:w2.cell? ⟨B,1,none⟩=some v:=(by rw[Lib.cell_of_heap hb2];rfl);have f1:w2.frozen? ⟨B,1,none⟩=false:=Lib.frozen_of_heap hb2 1;obtain ⟨g,cap,rfl⟩:∃g cap,v'=.slice (some ⟨g,0,none⟩) (bs.length+1) cap:=by
  rcases uB.2 with ⟨_,h0⟩|⟨g,cap,cur,fz,hv,_⟩
  ·omega
  ·exact ⟨g,cap,hv⟩
 have QL:=Lib.BuilderAtF.put (T:=94) (e:=5) hB hb2 (bs':=bs++[.int .u8 cv]) (by simpa using uB) (by decide);have aCp:Below B w (w2.setCell ⟨B,1,none⟩ (.slice (some ⟨g,0,none⟩) (bs.length+1) cap)):=((hb1.alloc (by have:=hb1.size;omega) _).grown xD (by have:=hb1.size;simp;omega) (fun k hk=>(cA.lt k hk).1)).setCell (p:=⟨B,1,none⟩) hB _;have hki:KeepsIt w (w2.setCell ⟨B,1,none⟩ (.slice (some ⟨g,0,none⟩) (bs.length+1) cap)):=((HK1.out.alloc _).grown xD (cA.alloc _)).setCell _ _;obtain ⟨aEV,aEW,Hki⟩:=aLb QL aCp hki;clear QL aCp hki uB xD cA hbk hb2 hlt hb1 hne HK1
 go_wp2
 go_ret;exact ⟨rfl,by show Lib.IsBuilderF _ _ B B (Lib.byteCells (l++[c])) _;rw[Hbc.out];exact Or.inr aEV.out,aEW.out,Hki.out⟩
theorem aAV {B:Nat} {l:List UInt8} {w:World} (h:Bui B l w) {k:Nat} {s:ByteArray} {pos:Nat} (hk:w.heap[k]? = some (.stringIter s pos)) (pos':Nat):Bui B l (w.iterAt k s pos'):=
 h.elim (fun x=>.inl (x.iterAt hk pos')) (fun x=>.inr (x.iterAt hk pos'))
theorem aAW (c:UInt8) (l:List UInt8):exB (c :: l)=(97-c) :: exB l:=rfl
theorem JB (l:List UInt8):(⟨l.toArray⟩:ByteArray).extract 0 0=⟨#[]⟩:=by
 apply ByteArray.ext;rw[ByteArray.data_extract];simp
theorem MO {c:UInt8} {l cs:List UInt8}:aM (c :: l) cs=(cs.contains c&&aM l cs):=rfl
theorem aB9 {c:UInt8} (h:([48,49]:List UInt8).contains c=true):c=48∨c=49:=by
 simpa using h
theorem aDb (g : Nat) (eg : ∀ args w, (callFunc g args).run Tryz.prog w = .ok (.enter g args) w)
 (hf:∀(c:UInt8) (W:World),c=48∨c=49→Calls Tryz.prog g #[.int .i32 (c.toNat:Int)] W fun e w'=>e=.returned (.int .i32 ((97-c).toNat:Int))∧W=w')
 (c:UInt8) (l:List UInt8) (hm:aM (c :: l) [48,49]=true) (hl:l.length≤1000) (w:World) :
 Calls Tryz.prog 271 #[.func (.func g) #[] #[],.string ⟨(c :: l).toArray⟩] w fun e w'=>e=.returned (.string ⟨(exB (c :: l)).toArray⟩)∧Bl w w':=by
 rw[MO,aLV] at hm;obtain ⟨hc,hm⟩:=hm;have hc2:=aB9 hc;obtain ⟨m,hm1⟩:=aLt (l.length+1);have hsz:(⟨(c :: l).toArray⟩:ByteArray).size=m:=(by rw[Lib.size_mk,hm1];rfl);have hm2:m≤1001:=(by omega);have HMl:=aLa hm1;clear hm1 hl;obtain ⟨hfc,HF,HM⟩:=aLb (fun W=>hf c W hc2) hf hm;clear hf hm hc;have hne:((97-c).toNat:Int)≠(c.toNat:Int):=(by rcases hc2 with rfl|rfl<;>decide);have hr:(97-c).toNat<128:=(by rcases hc2 with rfl|rfl<;>decide);have aE8:c.toNat<128:=(by rcases hc2 with rfl|rfl<;>decide);have hc0:0<c.toNat:=(by rcases hc2 with rfl|rfl<;>decide);obtain ⟨r,hrr⟩:=aLt (97-c:UInt8);rw[←hrr] at hne hr hfc;have HR:=aLa hrr;clear hrr hc2;have hbq:((r.toNat:Int)==(c.toNat:Int))=false:=(by rw[aLU];exact hne);have aF7:((c.toNat:Int)==65533)=false:=(by rw[aLU];omega);have Hwr:=aLa (fun W hb hB=>FM w.heap.size [] r hr W hb (by decide) hB);have Hrl:=aLa (MG c aE8);clear hne
 go_in
 go_wp2_with fail;obtain ⟨B,hB⟩:=aLt w.heap.size;obtain ⟨w1,hw1⟩:=aLt (((w.alloc (.cells #[.pointer none,.slice none 0 0] 94)).iter ⟨(c :: l).toArray⟩ 0));have hit:w1.heap[B+1]? = some (.stringIter ⟨(c :: l).toArray⟩ 0):=by
  rw[hw1,hB];have h:=heap_alloc_new (w.alloc (.cells #[.pointer none,.slice none 0 0] 94)) (.stringIter ⟨(c :: l).toArray⟩ 0);rw[World.size_alloc] at h;exact h
 have hbk:w1.heap[B]? = some (.cells #[.pointer none,.slice none 0 0] 94 (0,0)):=by
  rw[hw1,hB];exact (Blk.new w 94 #[.pointer none,.slice none 0 0]).alloc (.stringIter ⟨(c :: l).toArray⟩ 0)
 have hb1:Bl w w1:=(by rw[hw1];exact ((Bl.refl w).alloc _).alloc _);have hs1:B+2≤w1.heap.size:=by
  rw[hw1,hB];show w.heap.size+2≤((w.alloc _).alloc (.stringIter ⟨(c :: l).toArray⟩ 0)).heap.size;simp
 rw[←hw1,←hB];rw[←hB] at Hwr;have HB:=aLa hB;clear hw1 hB;have hih:0<(⟨(c :: l).toArray⟩:ByteArray).size:=(by rw[hsz];have:=HMl.out;omega);have hg0:(⟨(c :: l).toArray⟩:ByteArray)[0]'hih=c:=rfl;have aBM:=fun ty=>Lib.run_next_ascii_at (P:=Tryz.prog) w1 (B+1) ⟨(c :: l).toArray⟩ 0 ty hit hih (by rw[hg0];exact aE8);have h2b:Bl w (w1.iterAt (B+1) ⟨(c :: l).toArray⟩ (0+1)):=Lib.below_iterAt hb1 (k:=B+1) (by rw[HB.out];omega) _ _;have h2k:(w1.iterAt (B+1) ⟨(c :: l).toArray⟩ (0+1)).heap[B]? = some (.cells #[.pointer none,.slice none 0 0] 94 (0,0)):=(Lib.iterAt_other w1 (B+1) B ⟨(c :: l).toArray⟩ (0+1) (by omega)).trans hbk;have h2s:B+2≤(w1.iterAt (B+1) ⟨(c :: l).toArray⟩ (0+1)).heap.size:=(by rw[Lib.iterAt_size];exact hs1);rw[hg0] at aBM;generalize w1.iterAt (B+1) ⟨(c :: l).toArray⟩ (0+1)=w2 at aBM h2b h2k h2s;have hnx:∀ty,(Instr.next (.pointer (some ⟨B+1,0,none⟩)) true ty).run Tryz.prog w1=.ok (.tuple #[.bool true,.int .i64 0,.int .i32 (c.toNat:Int)]) w2:=aBM;obtain ⟨H2b,H2k,H2s⟩:=aLb h2b h2k h2s;clear aBM h2b h2k h2s hit hbk hb1 hs1 hih hg0;refine wp_loop_rounds 1 ?_;rw[rounds_succ];go_wp2_with fail;refine (hfc.out _).mono ?_;rintro e w' ⟨rfl,rfl⟩;go_wp2_with fail;refine (Hrl.out _).mono ?_;rintro e w' ⟨rfl,rfl⟩;have hgr:=SJ B (m+4) w2 H2k.out (by have:=H2s.out;omega) (by omega) (by omega);rw[show ((m+4:Nat):Int)=(m:Int)+4 by omega] at hgr;have Hgr:=aLa hgr;clear hgr;go_wp2_with fail;refine Hgr.out.mono ?_;rintro e w3 ⟨rfl,hu3,hb3⟩;have hx0:=JB (c :: l);have hw3:B+2≤w3.heap.size:=aMb H2s.out hb3.size;have Hws:=aLa (aJ B [] [] w3 hu3 (by decide) (by omega));have Hb3:=aLa (Bl.trans' H2b.out HB.out.symm hb3);clear hu3 hb3;go_wp2_with fail;refine Hws.out.mono ?_;rintro e w4 ⟨rfl,hu4,hb4⟩;have hw4:B+2≤w4.heap.size:=aMb hw3 hb4.size;have aIu:=aLa (Hwr.out w4 hu4 (by omega));have Hb4:=aLa (Bl.trans' Hb3.out HB.out.symm hb4);clear hu4 hb4 Hb3 Hws Hwr hx0 hw3;have hr0:(0:Int)≤(r.toNat:Int):=(by omega);have hx1:(⟨(c :: l).toArray⟩:ByteArray).extract 1 m=⟨l.toArray⟩:=by
  rw[HMl.out];exact l9 (c :: l) 1
 have hm1:(1:Int)≤(m:Int):=(by have:=HMl.out;omega);go_wp2_with fail;refine aIu.out.mono ?_;rintro e w5 ⟨⟨v5,rfl⟩,hu5,hb5⟩;have hw5:B+2≤w5.heap.size:=aMb hw4 hb5.size;obtain ⟨aF8,Hu5,Hb5⟩:=aLb (BJ B [r] w5 hu5 (by simp)) hu5 (Bl.trans' Hb4.out HB.out.symm hb5);clear hu5 hb5 Hb4 aIu hw4;go_wp2_with fail;refine aF8.out.mono ?_;rintro e w' ⟨cc,rfl,rfl⟩;obtain ⟨cz,hcz⟩:=aLt (((cc+1:Nat):Int):Int);have hq0:(cz==0)=false:=(by rw[aLU];omega);rw[←hcz];clear hcz hx1 hm1 hnx aF8;have hsl:(⟨l.toArray⟩:ByteArray).size=l.length:=Lib.size_mk l;go_wp2_with fail;obtain ⟨K,hK⟩:=aLt w5.heap.size;obtain ⟨w6,hw6⟩:=aLt (w5.iter ⟨l.toArray⟩ 0);have hit:w6.heap[K]? = some (.stringIter ⟨l.toArray⟩ 0):=by
  rw[hw6,hK];exact heap_alloc_new w5 (.stringIter ⟨l.toArray⟩ 0)
 have hu6:Bui B (exB (c :: l.take 0)) w6:=by
  rw[hw6,aAW,←HR.out];exact Lib.IsBuilderF.alloc Hu5.out (.stringIter ⟨l.toArray⟩ 0)
 have hb6:Bl w w6:=(by rw[hw6];exact Hb5.out.alloc _);have hs6:B+2≤w6.heap.size:=by
  rw[hw6];show B+2≤(w5.alloc (.stringIter ⟨l.toArray⟩ 0)).heap.size;simp;omega
 rw[←hw6,←hK];have hBK:B+2≤K:=(by omega);have aG4:=aLa (And.intro hit (And.intro hu6 (And.intro hb6 hs6)));have HBK:=aLa hBK;clear hw6 hK hit hu6 hb6 hs6 hBK hw5 Hu5 Hb5;go_loopw [] (fun wi=>∃i:Nat,i≤l.length∧wi.heap[K]? = some (.stringIter ⟨l.toArray⟩ i)∧Bui B (exB (c :: l.take i)) wi∧Bl w wi∧B+2≤wi.heap.size) (fun wi=>l.length-wi.iterPos K);case atStart=>exact ⟨0,Nat.zero_le _,aG4.out⟩
 case round=>
  rename World=>wi;obtain ⟨i,hi,hit,hui,hbi,hsi⟩:=hrel;have hBK:=HBK.out;by_cases hlt:i<l.length
  ·have hih:i<(⟨l.toArray⟩:ByteArray).size:=(by rw[hsl];exact hlt);have hgi:=Lib.getElem_mk l i hih;obtain ⟨d,hd⟩:=aLt ((⟨l.toArray⟩:ByteArray)[i]'hih);rw[←hd] at hgi;have hdc:=aLO.1 (show (l.all fun b=>([48,49]:List UInt8).contains b)=true from HM.out) d (List.mem_of_getElem? hgi);have hd2:=aB9 hdc;have aG5:d.toNat<128:=(by rcases hd2 with rfl|rfl<;>decide);have aBM:=fun ty=>Lib.run_next_ascii_at (P:=Tryz.prog) wi K ⟨l.toArray⟩ i ty hit hih (by rw[←hd];exact aG5);have h7b:Bl w (wi.iterAt K ⟨l.toArray⟩ (i+1)):=Lib.below_iterAt hbi (k:=K) (by have:=HB.out;omega) _ _;have h7u:Bui B (exB (c :: l.take i)) (wi.iterAt K ⟨l.toArray⟩ (i+1)):=aAV hui hit (i+1);have h7i:=Lib.iterAt_heap wi K ⟨l.toArray⟩ i (i+1) hit;have h7s:B+2≤(wi.iterAt K ⟨l.toArray⟩ (i+1)).heap.size:=(by rw[Lib.iterAt_size];exact hsi);rw[←hd] at aBM;generalize wi.iterAt K ⟨l.toArray⟩ (i+1)=w7 at aBM h7b h7u h7i h7s;have hnx:∀ty,(Instr.next (.pointer (some ⟨K,0,none⟩)) true ty).run Tryz.prog wi=.ok (.tuple #[.bool true,.int .i64 (i:Int),.int .i32 (d.toNat:Int)]) w7:=aBM;have Hfd:=aLa (fun W=>HF.out d W hd2);obtain ⟨q,hq⟩:=aLt (97-d:UInt8);have hq1:q.toNat<128:=(by rw[hq];rcases hd2 with rfl|rfl<;>decide);have hq2:0<q.toNat:=(by rw[hq];rcases hd2 with rfl|rfl<;>decide);have hex:exB (c :: l.take (i+1))=exB (c :: l.take i)++[q]:=by
    rw[aMc,hgi,hq];unfold exB;simp
   have hxl:(exB (c :: l.take i)).length+1≤140737488355328:=by
    unfold exB;rw[aLz,aLB,aLA];have:=HMl.out;omega
   rw[←hq] at Hfd;have Hwb:=aLa (BK B _ q w7 h7u hxl (by omega));rw[←hex] at Hwb;obtain ⟨H7b,H7i,H7s,Hit⟩:=aLc h7b h7i h7s hit;have hq3:(q.toNat:Int)<128:=(by omega);have hq4:(0:Int)≤(q.toNat:Int):=(by omega);clear aBM h7b h7u h7i h7s hgi hd hdc hd2 hq hex hxl hit hui hbi hsi aG4;go_wp2_with fail;refine (Hfd.out _).mono ?_;rintro e w' ⟨rfl,rfl⟩;go_wp2_with fail;refine Hwb.out.mono ?_;rintro e w8 ⟨rfl,hu8,hb8,hk8⟩;have Hst:=aLa (show w8.heap[K]? = some (.stringIter ⟨l.toArray⟩ (i+1))∧Bui B (exB (c :: l.take (i+1))) w8∧Bl w w8∧B+2≤w8.heap.size from ⟨hk8 _ _ _ H7i.out,hu8,Bl.trans' H7b.out HB.out.symm hb8,aMb H7s.out hb8.size⟩);clear hu8 hb8 hk8;go_wp2_with fail;exact ⟨⟨i+1,hlt,Hst.out⟩,by simp only[World.iterPos,Hst.out.1,Hit.out];omega⟩
  ·obtain rfl:i=l.length:=(by omega);have hnx:∀ty,(Instr.next (.pointer (some ⟨K,0,none⟩)) true ty).run Tryz.prog wi=.ok (.tuple #[.bool false]) wi:=fun ty=>Lib.run_next_end_at wi K ⟨l.toArray⟩ l.length ty hit (by rw[hsl];omega);rw[aLC] at hui;have Hbs:=aLa (eY B _ wi hui (by omega));have Hbi:=aLa hbi;clear hui hbi hit aG4;go_wp2_with fail;refine Hbs.out.mono ?_;rintro e w9 ⟨rfl,hb9⟩;have hb:=Bl.trans' Hbi.out HB.out.symm hb9;go_wp2_with fail;go_ret;exact ⟨rfl,hb⟩
def jD : List (List UInt8) → List UInt8
 |[]=>[]
 |[x]=>x
 |x :: y :: l=>x++48 :: jD (y :: l)
theorem wK : ∀ (a : List (List UInt8)) (x : List UInt8), a ≠ [] → jD (a ++ [x]) = jD a ++ 48 :: x
 |[],_,h=>absurd rfl h
 |[a],x,_=>rfl
 |a :: b :: l,x,_=>by
  have ih:=wK (b :: l) x (by simp);show a++48 :: jD (b :: l++[x])=(a++48 :: jD (b :: l))++48 :: x;rw[ih];simp
theorem C6 : ∀ (b c : List (List UInt8)), (jD b).length ≤ (jD (b ++ c)).length
 |[],c=>Nat.zero_le _
 |[x],[]=>Nat.le_refl _
 |[x],y :: c=>by
  show x.length≤(x++48 :: jD (y :: c)).length;rw[aLy];omega
 |x :: y :: b,c=>by
  have ih:=C6 (y :: b) c;show (x++48 :: jD (y :: b)).length≤(x++48 :: jD (y :: b++c)).length;rw[aLy,aLy,aLB,aLB];omega
def oF : List (List UInt8) → Nat
 |[]=>0
 |x :: l=>x.length+oF l
theorem wL (a b:List (List UInt8)):oF (a++b)=oF a+oF b:=by
 induction a with
 |nil=>simp[oF]
 |cons x a ih=>show x.length+oF (a++b)=x.length+oF a+oF b;rw[ih];omega
theorem C7 {ts:List (List UInt8)} {k:Nat} {x:List UInt8} (h:ts[k]? = some x):oF (ts.take (k+1))=oF (ts.take k)+x.length:=by
 rw[aMc,h,wL];rfl
theorem O3 (ts:List (List UInt8)) (k:Nat):oF (ts.take k)≤oF ts:=by
 conv=>rhs;rw[←aLK k ts]
 rw[wL];omega
theorem JC : ∀ ts : List (List UInt8), (jD ts).length = oF ts + (ts.length - 1)
 |[]=>rfl
 |[x]=>by show x.length=x.length+0+0;omega
 |x :: y :: l=>by
  have ih:=JC (y :: l);show (x++48 :: jD (y :: l)).length=x.length+oF (y :: l)+_;rw[aLy,aLB,ih];simp only[aLB];omega
theorem MP {ts:List (List UInt8)} {k:Nat} {x:List UInt8} (hk:1≤k) (h:ts[k]? = some x):jD (ts.take (k+1))=jD (ts.take k)++[48]++x:=by
 have hlt:=(aLw.1 h).1;rw[aMc,h];show jD (ts.take k++[x])=_;rw[wK _ _ (by intro e;have:=congrArg List.length e;rw[aLA,List.length_nil] at this;omega)];simp
theorem WN (A:Option Addr) (c:Nat) (ts:List (List UInt8)) (w:World) (hx:Reads w 1 A ts.length (bE ts)) (cL:(jD ts).length≤1000) (hn:ts.length≤1000) (hc:ts.length≤c) :
 Calls Tryz.prog 214 #[.slice A ts.length c,.string ⟨#[48]⟩] w fun e w'=>e=.returned (.string ⟨(jD ts).toArray⟩)∧Bl w w':=by
 have HX:=aLa hx;have hjl:=JC ts;by_cases h0:ts.length=0
 ·obtain rfl:=List.eq_nil_of_length_eq_zero h0;clear hx
  go_in
  go_wp2_with fail;try simp only[Exit.inBlock,Exit.then]
  go_ret;exact ⟨rfl,Bl.refl _⟩
 ·by_cases h1:ts.length=1
  ·obtain ⟨x,rfl⟩:∃x,ts=[x]:=by
    match ts,h1 with
    |[x],_=>exact ⟨x,rfl⟩
   obtain ⟨ad,rfl,c0⟩:=kS hx (i:=0) rfl;rw[Addr.add_zero'] at c0;clear hx
   go_in
   go_wp2_with fail;try simp only[Exit.inBlock,Exit.then]
   go_ret;exact ⟨rfl,Bl.refl _⟩
  ·obtain ⟨n,hnn⟩:∃n,ts.length=n+2:=⟨ts.length-2,by omega⟩;have aDO:((ts.length:Int)==0)=false:=aLU.2 (by omega);have hne1:((ts.length:Int)==1)=false:=aLU.2 (by omega);have aF9:(ts.length:Int)-1=((n+1:Nat):Int):=(by omega);obtain ⟨m,hm⟩:=aLt (n+1);rw[←hm] at aF9;have hm0:¬(m=0):=(by omega);have hdv:¬((9223372036854775807:Int) / (m:Int)≤1):=by
    have e:(9223372036854775807:Int) / (m:Int)=((9223372036854775807 / m:Nat):Int):=IntWalk.up_div (x:=9223372036854775807) rfl rfl;rw[e];have:2≤9223372036854775807 / m:=(by rw[Nat.le_div_iff_mul_le (by omega)];omega);omega
   have hln:oF ts+m≤1000:=(by omega);obtain ⟨HN,HM,HJ,HL⟩:=aLc hnn hm hjl cL;obtain ⟨ad,hA,-⟩:=kS hx (i:=0) (aLv (by omega));subst hA;have hc2:2≤c:=(by omega);clear hx hnn hm hjl h0 h1 cL hc
   go_in
   go_wp2_with fail;go_loopw [5,41] (fun u v wr=>∃k:Nat,k≤ts.length∧v=.int .i64 k∧u=.int .i64 ((m+oF (ts.take k):Nat):Int)∧Bl w wr) (fun _ v _=>ts.length-(intOf v).toNat);case atStart=>exact ⟨0,Nat.zero_le _,rfl,rfl,Bl.refl _⟩
   case round=>
    obtain ⟨k,hk,rfl,rfl,hbr⟩:=hrel;by_cases hkn:k<ts.length
    ·have hg:ts[k]? = some ts[k]:=aLv hkn;obtain ⟨x,hxx⟩:=aLt (ts[k]);rw[←hxx] at hg;obtain ⟨ad',hA,c0⟩:=kS (HX.out.bl hbr) hg;injection hA with hA;subst hA;have hst:=C7 hg;have hle:=O3 ts (k+1);obtain ⟨u,hu⟩:=aLt (m+oF (ts.take k));rw[←hu];have hu2:u+x.length=m+oF (ts.take (k+1)):=(by omega);have hu3:u+x.length≤1000:=(by omega);have hsz:(⟨x.toArray⟩:ByteArray).size=x.length:=Lib.size_mk x;have HU:=aLa hu2;clear hg hxx hst hle hu hu2;go_wp2_with fail;exact ⟨⟨k+1,hkn,by go_num,by rw[←HU.out]<;>simp,hbr⟩,by simp[intOf]<;>omega⟩
    ·obtain rfl:k=ts.length:=(by omega);rw[aLC];have hgr:=tG wr.heap.size (m+oF ts) wr rfl (by omega);have Hgr:=aLa hgr;clear hgr;go_wp2_with fail;refine Hgr.out.mono ?_;rintro e w1 ⟨rfl,hbu,hb1⟩;obtain ⟨B,hB⟩:=aLt wr.heap.size;rw[←hB] at hbu ⊢;have HB:=aLa hB;have HBu:=aLa hbu;obtain ⟨x0,hx0⟩:∃x0,ts[0]? = some x0:=⟨_,aLv (by have:=HN.out;omega)⟩;obtain ⟨ad',hA,c0⟩:=kS (HX.out.bl (hbr.trans hb1)) hx0;injection hA with hA;subst hA;rw[Addr.add_zero'] at c0;have hj1:jD (ts.take 1)=x0:=(by rw[aMc,hx0];rfl);have hx0l:x0.length≤1000:=by
      have h1:=O3 ts 1;rw[C7 hx0] at h1;omega
     have GP:B≤w1.heap.size:=(by rw[hB];exact hb1.le);have hws:=aJ B [] x0 w1 hbu (by simp;omega) GP;rw[List.nil_append] at hws;have Hws:=aLa hws;have HJ1:=aLa hj1;clear hbu hB hx0 hj1 hws Hgr;go_wp2_with fail;refine Hws.out.mono ?_;rintro e w2 ⟨rfl,UQ,QO⟩;have hb2:=Bl.trans' hb1 HB.out.symm QO;have aJ1:=aLa UQ;clear UQ Hws QO;have hls2:(ts.length:Int)-1=(m:Int):=aF9;go_wp2_with fail;go_loopw [65] (fun v wq=>∃k:Nat,k≤m∧v=.int .i64 k∧Hid (Bui B (jD (ts.take (k+1))) wq)∧Bl wr wq∧B≤wq.heap.size) (fun v _=>m-(intOf v).toNat);case atStart=>exact ⟨0,Nat.zero_le _,rfl,(by rw[Nat.zero_add,HJ1.out];exact aJ1),hb2,(by have:=hb2.le;have:=HB.out;omega)⟩
     case round=>
      rename World=>wq;obtain ⟨k,hk,rfl,hbq,hbw,hBq⟩:=hrel;by_cases hkm:k<m
      ·obtain ⟨x,hxk⟩:∃x,ts[k+1]? = some x:=⟨_,aLv (by have:=HN.out;have:=HM.out;omega)⟩;obtain ⟨ad',hA,c0⟩:=kS (HX.out.bl (hbr.trans hbw)) hxk;injection hA with hA;subst hA;have hjt:=MP (show 1≤k+1 by omega) hxk;have aJ2:(jD (ts.take (k+1))).length+1+x.length≤1000:=by
        have h1:=C6 (ts.take (k+1+1)) (ts.drop (k+1+1));rw[aLK,hjt,aLy,aLy,aLR] at h1;have:=HL.out;omega
       obtain ⟨j,hj⟩:=aLt (jD (ts.take (k+1)));rw[←hj] at hjt aJ2 hbq;have Hjt:=aLa hjt;have c0':wq.cell? ⟨ad.block,ad.off+1+k,none⟩=some (.string ⟨x.toArray⟩):=by
        rw[Addr.add_succ'] at c0;rw[show ad.off+1+k=ad.off+(k+1) by omega];exact c0
       have Hw1:=aLa (aJ B j [48] wq hbq.out (by simp;omega) hBq);have HB2:=aLa hbw;clear c0 hjt hxk hj hbq hbw;go_wp2_with fail;refine Hw1.out.mono ?_;rintro e w3 ⟨rfl,aIv,UT⟩;have hb3:=Bl.trans' HB2.out HB.out.symm UT;have ZM:B≤w3.heap.size:=aMb hBq UT.size;have Hw2:=aLa (aJ B (j++[48]) x w3 aIv (by simp;omega) ZM);have HB3:=aLa hb3;clear Hw1 aIv UT hb3 c0';go_wp2_with fail;refine Hw2.out.mono ?_;rintro e w4 ⟨rfl,aG6,UU⟩;rw[←Hjt.out] at aG6;have HB4:=aLa (Bl.trans' HB3.out HB.out.symm UU);have aJ3:=aLa aG6;have aBJ:B≤w4.heap.size:=aMb ZM UU.size;clear Hw2 aG6 UU;go_wp2_with fail;exact ⟨⟨k+1,hkm,by go_num,aJ3,HB4.out,aBJ⟩,by simp[intOf]<;>omega⟩
      ·obtain rfl:k=m:=(by omega);have gA:jD (ts.take (k+1))=jD ts:=(by rw[aL6 (by have:=HN.out;have:=HM.out;omega)]);have aF7:=hbq.out;rw[gA] at aF7;have Hst:=aLa (eY B (jD ts) wq aF7 hBq);have HB2:=aLa hbw;clear hbq aF7 gA hbw;go_wp2_with fail;refine Hst.out.mono ?_;rintro e w5 ⟨rfl,QP⟩;have HB5:=aLa (Bl.trans' HB2.out HB.out.symm QP);clear Hst QP;go_wp2_with fail;go_ret;exact ⟨rfl,hbr.trans HB5.out⟩
end Go.Proofs.YtllefinciimffaaGreatDoor
namespace Go.Proofs.YtllefinciimffaaGreatDoor
open Go.ChangeShapes Go.WideShapes Go.ChangeAt Go.RowKit Go.Joins
section
variable {H:Type} {enc:TypeId × Value→H} {P:Program} {w:World} {base:Nat} {spare:Nat→Bool} {gY:Bool}
theorem uY {α : Type} (f : α → List Value) (k : Nat) (hf : ∀ a, (f a).length = k) (Q : α → Prop) {t e : TypeId} (ht : P.underlying t = some (.slice e)) (hk : P.cellsOf e = k) {fuel : Nat} {a0 : Option Addr} {len cap : Nat} {x : DataW H × List MemPlace}
 (hel:∀n' cs x',DataW.trod enc P w base spare gY n' e cs=some x'→∃a,cs=f a∧Q a) (h:DataW.trod enc P w base spare gY fuel t [.slice a0 len cap]=some x) :
 ∃l:List α,l.length=len∧Reads w k a0 len (l.flatMap f)∧(∀a∈l,Q a)∧len≤9223372036854775807∧len≤cap:=by
 rcases OZ ht h with ⟨rfl,rfl,rfl⟩|⟨a,n',rfl,hlc,hcm,aJ4⟩
 ·exact ⟨[],rfl,⟨by simp,fun h=>absurd h (by decide)⟩,(fun p hp=>by cases hp),by omega,by omega⟩
 ·obtain ⟨l,hl,hls⟩:=uV (Q:=fun i (b:α)=>(∀(j:Nat) u,(f b)[j]? = some u→w.cell? (a.add (i*k+j))=some u)∧Q b) len (fun i hi=>by
   obtain ⟨cs,x',_,hc,htr⟩:=aJ4 i hi;obtain ⟨b,rfl,hq⟩:=hel _ _ _ htr;rw[hk] at hc;exact ⟨b,hc,hq⟩)
  refine ⟨l,hl,⟨by rw[mE f k hf,hl],fun _=>⟨a,rfl,fun j u hj => ?_⟩⟩,fun b hb => ?_,by unfold maxLen at hcm;omega,hlc⟩
  ·have hlt:j<l.length*k:=(by rw[←mE f k hf];exact (aLw.1 hj).1);have hk0:0<k:=by
    rcases Nat.eq_zero_or_pos k with h0|h0
    ·rw[h0] at hlt;omega
    ·exact h0
   have hi:j / k<l.length:=(Nat.div_lt_iff_lt_mul hk0).2 hlt;have hg:l[j / k]? = some l[j / k]:=aLv hi;have em:j=j / k*k+j % k:=(by rw[Nat.mul_comm];exact (Nat.div_add_mod j k).symm);rw[em] at hj ⊢;rw[V5 f k hf hg (j % k) (Nat.mod_lt _ hk0)] at hj;exact (hls _ _ hg).1 _ _ hj
  ·obtain ⟨i,hi⟩:=List.getElem?_of_mem hb;exact (hls i b hi).2
end
section
variable {H:Type} {enc:TypeId × Value→H} {w:World} {base b0:Nat} {spare:Nat→Bool} {gY:Bool} {r:Reach}
theorem SL:Tryz.prog.cellsOf 4=1:=by kernel_rfl
theorem zB:Tryz.prog.cellsOf 58=4:=by kernel_rfl
theorem MQ:Tryz.prog.cellsOf 59=1:=by kernel_rfl
theorem JD:Tryz.prog.cellsOf 85=5:=by kernel_rfl
theorem SM:Tryz.prog.cellsOf 22=1:=by kernel_rfl
theorem JE:Tryz.prog.cellsOf 61=9:=by kernel_rfl
theorem SN:Tryz.prog.cellsOf 23=1:=by kernel_rfl
theorem zC:Tryz.prog.cellsOf 104=4:=by kernel_rfl
theorem C8:Tryz.prog.cellsOf 24=1:=by kernel_rfl
theorem SO:Tryz.prog.cellsOf 26=8:=by kernel_rfl
theorem aCa {fuel:Nat} {cs:List Value} {x:DataW H × List MemPlace} (h:DataW.trod enc Tryz.prog w base spare gY fuel 58 cs=some x):∃b:Bx,cs=b.cells:=by
 obtain ⟨xs,n,_,_,hl,cL,hfs⟩:=DataW.trod_struct Tryz.underlying58 h;rw[zB] at hl
 match cs,hl,xs,cL with
 |[c0,c1,c2,c3],_,[y0,y1,y2,y3],_=>have h0:DataW.trod enc Tryz.prog w base spare gY n 3 ((List.drop 0 [c0,c1,c2,c3]).take (Tryz.prog.cellsOf 3))=some y0:=hfs 0 _ rfl;have h1:DataW.trod enc Tryz.prog w base spare gY n 3 ((List.drop 1 [c0,c1,c2,c3]).take (Tryz.prog.cellsOf 3))=some y1:=hfs 1 _ rfl;have h2:DataW.trod enc Tryz.prog w base spare gY n 3 ((List.drop 2 [c0,c1,c2,c3]).take (Tryz.prog.cellsOf 3))=some y2:=hfs 2 _ rfl;have h3:DataW.trod enc Tryz.prog w base spare gY n 3 ((List.drop 3 [c0,c1,c2,c3]).take (Tryz.prog.cellsOf 3))=some y3:=hfs 3 _ rfl;simp only[jC,List.drop_zero,List.drop_succ_cons,List.take_succ_cons,List.take_zero] at h0 h1 h2 h3;obtain ⟨a,e0,_,_⟩:=DataW.trod_int Tryz.underlying3 h0;obtain ⟨b,e1,_,_⟩:=DataW.trod_int Tryz.underlying3 h1;obtain ⟨c,e2,_,_⟩:=DataW.trod_int Tryz.underlying3 h2;obtain ⟨d,e3,_,_⟩:=DataW.trod_int Tryz.underlying3 h3;simp at e0 e1 e2 e3;subst e0 e1 e2 e3;exact ⟨⟨a,b,c,d⟩,rfl⟩
theorem WO {fuel:Nat} {cs:List Value} {x:DataW H × List MemPlace} (h:DataW.trod enc Tryz.prog w base spare gY fuel 85 cs=some x):∃a:Anc,cs=a.cells∧Reads w 1 a.A a.m (a.bs.map .bool):=by
 obtain ⟨xs,n,_,_,hl,cL,hfs⟩:=DataW.trod_struct Tryz.underlying85 h;rw[JD] at hl
 match cs,hl,xs,cL with
 |[c0,c1,c2,c3,c4],_,[y0,y1,y2],_=>have h0:DataW.trod enc Tryz.prog w base spare gY n 43 ((List.drop 0 [c0,c1,c2,c3,c4]).take (Tryz.prog.cellsOf 43))=some y0:=hfs 0 _ rfl;have h1:DataW.trod enc Tryz.prog w base spare gY n 3 ((List.drop 3 [c0,c1,c2,c3,c4]).take (Tryz.prog.cellsOf 3))=some y1:=hfs 1 _ rfl;have h2:DataW.trod enc Tryz.prog w base spare gY n 3 ((List.drop 4 [c0,c1,c2,c3,c4]).take (Tryz.prog.cellsOf 3))=some y2:=hfs 2 _ rfl;simp only[jC,uW,List.drop_zero,List.drop_succ_cons,List.take_succ_cons,List.take_zero] at h0 h1 h2;obtain ⟨p,e0,_,hr⟩:=V2 h0;obtain ⟨b,e1,_,_⟩:=DataW.trod_int Tryz.underlying3 h1;obtain ⟨c,e2,_,_⟩:=DataW.trod_int Tryz.underlying3 h2;unfold Pg.cells at e0;simp at e0 e1 e2;obtain ⟨rfl,rfl,rfl⟩:=e0;subst e1 e2;exact ⟨⟨p.W,p.H,p.A,p.m,p.c,p.bs,b,c⟩,rfl,hr⟩
theorem aAX {fuel:Nat} {cs:List Value} {x:DataW H × List MemPlace} (h:DataW.trod enc Tryz.prog w base spare gY fuel 61 cs=some x):∃f:Fld,cs=f.cells∧(BxsAt w f.M f.marks∧f.marks.length≤f.mc∧f.marks.length≤9223372036854775807∧f.name.length≤9223372036854775807):=by
 obtain ⟨xs,n,_,_,hl,cL,hfs⟩:=DataW.trod_struct Tryz.underlying61 h;rw[JE] at hl
 match cs,hl,xs,cL with
 |[c0,c1,c2,c3,c4,c5,c6,c7,c8],_,[y0,y1,y2,y3,y4,y5],_=>have h0:DataW.trod enc Tryz.prog w base spare gY n 9 ((List.drop 0 [c0,c1,c2,c3,c4,c5,c6,c7,c8]).take (Tryz.prog.cellsOf 9))=some y0:=hfs 0 _ rfl;have h1:DataW.trod enc Tryz.prog w base spare gY n 3 ((List.drop 1 [c0,c1,c2,c3,c4,c5,c6,c7,c8]).take (Tryz.prog.cellsOf 3))=some y1:=hfs 1 _ rfl;have h2:DataW.trod enc Tryz.prog w base spare gY n 58 ((List.drop 2 [c0,c1,c2,c3,c4,c5,c6,c7,c8]).take (Tryz.prog.cellsOf 58))=some y2:=hfs 2 _ rfl;have h3:DataW.trod enc Tryz.prog w base spare gY n 59 ((List.drop 6 [c0,c1,c2,c3,c4,c5,c6,c7,c8]).take (Tryz.prog.cellsOf 59))=some y3:=hfs 3 _ rfl;have h4:DataW.trod enc Tryz.prog w base spare gY n 3 ((List.drop 7 [c0,c1,c2,c3,c4,c5,c6,c7,c8]).take (Tryz.prog.cellsOf 3))=some y4:=hfs 4 _ rfl;have h5:DataW.trod enc Tryz.prog w base spare gY n 4 ((List.drop 8 [c0,c1,c2,c3,c4,c5,c6,c7,c8]).take (Tryz.prog.cellsOf 4))=some y5:=hfs 5 _ rfl;simp only[jC,kH,zB,MQ,SL,List.drop_zero,List.drop_succ_cons,List.take_succ_cons,List.take_zero] at h0 h1 h2 h3 h4 h5;obtain ⟨s,e0,_,w0⟩:=DataW.trod_string Tryz.underlying9 h0;obtain ⟨k,e1,_,_⟩:=DataW.trod_int Tryz.underlying3 h1;obtain ⟨b,e2⟩:=aCa h2;obtain ⟨A,m,cc,rfl⟩:=fM Tryz.underlying59 h3;obtain ⟨mo,e4,_,_⟩:=DataW.trod_int Tryz.underlying3 h4;obtain ⟨nd,e5,_⟩:=DataW.trod_bool Tryz.underlying4 h5;obtain ⟨t,rfl⟩:=iY s;unfold Bx.cells at e2;simp at e0 e1 e2 e4 e5;obtain ⟨rfl,rfl,rfl,rfl⟩:=e2;subst e0 e1 e4 e5;obtain ⟨l,rfl,hr,-,hn,hc⟩:=uY Bx.cells 4 (fun _=>rfl) (fun _=>True) Tryz.underlying59 zB (fun n' cs x' h=>by obtain ⟨b,e⟩:=aCa h;exact ⟨b,e,trivial⟩) h3;exact ⟨⟨t,k,b,A,cc,l,mo,nd⟩,rfl,hr,hc,hn,by rw[Lib.size_mk] at w0;exact w0⟩
theorem aDc {fuel:Nat} {cs:List Value} {x:DataW H × List MemPlace} (h:DataW.trod enc Tryz.prog w base spare gY fuel 104 cs=some x):∃r:Rul,cs=r.cells∧(r.field.length≤9223372036854775807∧r.other.length≤9223372036854775807∧r.text.length≤9223372036854775807):=by
 obtain ⟨xs,n,_,_,hl,cL,hfs⟩:=DataW.trod_struct Tryz.underlying104 h;rw[zC] at hl
 match cs,hl,xs,cL with
 |[c0,c1,c2,c3],_,[y0,y1,y2,y3],_=>have h0:DataW.trod enc Tryz.prog w base spare gY n 3 ((List.drop 0 [c0,c1,c2,c3]).take (Tryz.prog.cellsOf 3))=some y0:=hfs 0 _ rfl;have h1:DataW.trod enc Tryz.prog w base spare gY n 9 ((List.drop 1 [c0,c1,c2,c3]).take (Tryz.prog.cellsOf 9))=some y1:=hfs 1 _ rfl;have h2:DataW.trod enc Tryz.prog w base spare gY n 9 ((List.drop 2 [c0,c1,c2,c3]).take (Tryz.prog.cellsOf 9))=some y2:=hfs 2 _ rfl;have h3:DataW.trod enc Tryz.prog w base spare gY n 9 ((List.drop 3 [c0,c1,c2,c3]).take (Tryz.prog.cellsOf 9))=some y3:=hfs 3 _ rfl;simp only[jC,kH,List.drop_zero,List.drop_succ_cons,List.take_succ_cons,List.take_zero] at h0 h1 h2 h3;obtain ⟨k,e0,_,_⟩:=DataW.trod_int Tryz.underlying3 h0;obtain ⟨s1,e1,_,w1⟩:=DataW.trod_string Tryz.underlying9 h1;obtain ⟨s2,e2,_,w2⟩:=DataW.trod_string Tryz.underlying9 h2;obtain ⟨s3,e3,_,w3⟩:=DataW.trod_string Tryz.underlying9 h3;obtain ⟨t1,rfl⟩:=iY s1;obtain ⟨t2,rfl⟩:=iY s2;obtain ⟨t3,rfl⟩:=iY s3;simp at e0 e1 e2 e3;subst e0 e1 e2 e3;rw[Lib.size_mk] at w1 w2 w3;exact ⟨⟨k,t1,t2,t3⟩,rfl,w1,w2,w3⟩
theorem aDd {fuel:Nat} {cs:List Value} {x:DataW H × List MemPlace} (h:DataW.trod enc Tryz.prog w base spare gY fuel 26 cs=some x):∃f:Frm,cs=f.cells∧FrmAt w f:=by
 obtain ⟨xs,n,_,_,hl,cL,hfs⟩:=DataW.trod_struct Tryz.underlying26 h;rw[SO] at hl
 match cs,hl,xs,cL with
 |[c0,c1,c2,c3,c4,c5,c6,c7],_,[y0,y1,y2,y3,y4,y5,y6,y7],_=>have h0:DataW.trod enc Tryz.prog w base spare gY n 9 ((List.drop 0 [c0,c1,c2,c3,c4,c5,c6,c7]).take (Tryz.prog.cellsOf 9))=some y0:=hfs 0 _ rfl;have h1:DataW.trod enc Tryz.prog w base spare gY n 3 ((List.drop 1 [c0,c1,c2,c3,c4,c5,c6,c7]).take (Tryz.prog.cellsOf 3))=some y1:=hfs 1 _ rfl;have h2:DataW.trod enc Tryz.prog w base spare gY n 3 ((List.drop 2 [c0,c1,c2,c3,c4,c5,c6,c7]).take (Tryz.prog.cellsOf 3))=some y2:=hfs 2 _ rfl;have h3:DataW.trod enc Tryz.prog w base spare gY n 3 ((List.drop 3 [c0,c1,c2,c3,c4,c5,c6,c7]).take (Tryz.prog.cellsOf 3))=some y3:=hfs 3 _ rfl;have h4:DataW.trod enc Tryz.prog w base spare gY n 3 ((List.drop 4 [c0,c1,c2,c3,c4,c5,c6,c7]).take (Tryz.prog.cellsOf 3))=some y4:=hfs 4 _ rfl;have h5:DataW.trod enc Tryz.prog w base spare gY n 22 ((List.drop 5 [c0,c1,c2,c3,c4,c5,c6,c7]).take (Tryz.prog.cellsOf 22))=some y5:=hfs 5 _ rfl;have h6:DataW.trod enc Tryz.prog w base spare gY n 23 ((List.drop 6 [c0,c1,c2,c3,c4,c5,c6,c7]).take (Tryz.prog.cellsOf 23))=some y6:=hfs 6 _ rfl;have h7:DataW.trod enc Tryz.prog w base spare gY n 24 ((List.drop 7 [c0,c1,c2,c3,c4,c5,c6,c7]).take (Tryz.prog.cellsOf 24))=some y7:=hfs 7 _ rfl;simp only[jC,kH,SM,SN,C8,List.drop_zero,List.drop_succ_cons,List.take_succ_cons,List.take_zero] at h0 h1 h2 h3 h4 h5 h6 h7;obtain ⟨s,e0,_,w0⟩:=DataW.trod_string Tryz.underlying9 h0;obtain ⟨a,e1,_,_⟩:=DataW.trod_int Tryz.underlying3 h1;obtain ⟨b,e2,_,_⟩:=DataW.trod_int Tryz.underlying3 h2;obtain ⟨c,e3,_,_⟩:=DataW.trod_int Tryz.underlying3 h3;obtain ⟨d,e4,_,_⟩:=DataW.trod_int Tryz.underlying3 h4;obtain ⟨A1,m1,q1,rfl⟩:=fM Tryz.underlying22 h5;obtain ⟨A2,m2,q2,rfl⟩:=fM Tryz.underlying23 h6;obtain ⟨A3,m3,q3,rfl⟩:=fM Tryz.underlying24 h7;obtain ⟨t,rfl⟩:=iY s;simp at e0 e1 e2 e3 e4;subst e0 e1 e2 e3 e4;obtain ⟨l1,rfl,hr1,hq1,hn1,hc1⟩:=uY Anc.cells 5 (fun _=>rfl) (fun a=>Reads w 1 a.A a.m (a.bs.map .bool)) Tryz.underlying22 JD (fun n' cs x' h=>WO h) h5;obtain ⟨l2,rfl,hr2,hq2,hn2,hc2⟩:=uY Fld.cells 9 (fun _=>rfl) (fun f=>BxsAt w f.M f.marks∧f.marks.length≤f.mc∧f.marks.length≤9223372036854775807∧f.name.length≤9223372036854775807) Tryz.underlying23 JE (fun n' cs x' h=>aAX h) h6;obtain ⟨l3,rfl,hr3,hq3,hn3,hc3⟩:=uY Rul.cells 4 (fun _=>rfl) (fun r=>r.field.length≤9223372036854775807∧r.other.length≤9223372036854775807∧r.text.length≤9223372036854775807) Tryz.underlying24 zC (fun n' cs x' h=>aDc h) h7;exact ⟨⟨t,a,b,c,d,A1,q1,l1,A2,q2,l2,A3,q3,l3⟩,rfl,⟨⟨hr1,hq1⟩,⟨hr2,hq2⟩,⟨hr3,hq3⟩,by rw[Lib.size_mk] at w0;exact w0,⟨hc1,hn1⟩,⟨hc2,hn2⟩,⟨hc3,hn3⟩⟩⟩
end
section
variable {H:Type} {enc:TypeId × Value→H} {P:Program} {w:World} {base b0:Nat} {spare:Nat→Bool} {gY:Bool} {r:Reach}
theorem O4 {d:DataW H} {l:List (DataW H)} (h:d∈l):Rows.uptoBulk d≤Rows.uptoBulkAll l:=by
 induction l with
 |nil=>cases h
 |cons x r ih=>
  simp only[Rows.uptoBulkAll];cases aLN.1 h with
  |inl e=>subst e;omega
  |inr e=>have:=ih e;omega
theorem aMl {x:DataW H} {l:List (DataW H × List MemPlace)} {y:DataW H × List MemPlace} (hx:x=.agg (l.map (·.1))) (hy:y∈l):Rows.uptoBulk y.1≤Rows.uptoBulk x:=by
 have h:=O4 (List.mem_map_of_mem (f:=(·.1)) hy);subst hx;simp only[Rows.uptoBulk];omega
theorem SP {α:Type} (f:α→List Value) (k:Nat) (hf:∀a,(f a).length=k) {A:Addr} {l:List α} {i:Nat} {a:α} {cs:List Value} (hr:Reads w k (some A) l.length (l.flatMap f)) (hi:l[i]? = some a) (hc:w.cells? base (A.add (i*k)) k=some cs):cs=f a:=by
 obtain ⟨ad,e,key⟩:=gM f k hf hr hi;obtain rfl:=aLZ e;obtain ⟨k1,k2⟩:=yW hc;refine List.ext_getElem? fun j => ?_;rcases Nat.lt_or_ge j k with hj|hj
 ·have h1:cs[j]? = some cs[j]:=aLv (by omega);have h2:(f a)[j]? = some ((f a)[j]'(by rw[hf];exact hj)):=aLv _;have e1:=k2 j _ h1;have e2:=key j _ hj h2;rw[e1] at e2;rw[h1,h2,e2]
 ·rw[aL5 (by omega),aL5 (by rw[hf];exact hj)]
theorem C9 {α : Type} (f : α → List Value) (k : Nat) (hf : ∀ a, (f a).length = k) (Q : α → Nat → Prop) (hm : ∀ a m n, m ≤ n → Q a m → Q a n) {t e : TypeId} (ht : P.underlying t = some (.slice e)) (hk : P.cellsOf e = k) {fuel : Nat} {A : Option Addr} {l : List α} {c : Nat} {x : DataW H × List MemPlace}
 (hel:∀a∈l,∀n' x',DataW.trod enc P w base spare gY n' e (f a)=some x'→Q a (Rows.uptoBulk x'.1)) (h:DataW.trod enc P w base spare gY fuel t [.slice A l.length c]=some x) (hr:Reads w k A l.length (l.flatMap f)):∀a∈l,Q a (Rows.uptoBulk x.1):=by
 rcases DataW.trod_slice ht h with ⟨hcs,_⟩|⟨a,len',cap',elems,rest,n,_,hcs,hx,_,hl,hmx,cL,hee,_⟩
 ·simp only[List.cons.injEq,Value.slice.injEq,and_true] at hcs;have:l=[]:=List.eq_nil_of_length_eq_zero hcs.2.1;intro a ha;rw[this] at ha;cases ha
 ·simp only[List.cons.injEq,Value.slice.injEq,and_true] at hcs;obtain ⟨rfl,rfl,rfl⟩:=hcs;intro b hb;obtain ⟨i,hi⟩:=List.getElem?_of_mem hb;have hlt:=(aLw.1 hi).1;have h1:=hee i hlt;rw[aLv (by omega)] at h1;obtain ⟨cs,hcs,htr⟩:=Option.bind_eq_some_iff.1 h1;rw[hk] at hcs;obtain rfl:=SP f k hf hr hi hcs;refine hm b _ _ ?_ (hel b hb _ _ htr);have h2:=O4 (List.mem_map_of_mem (f:=(·.1)) (List.getElem_mem (l:=elems) (n:=i) (by omega)));rw[hx];simp only[Rows.uptoBulk];omega
end
section
variable {H:Type} {enc:TypeId × Value→H} {w:World} {base b0:Nat} {spare:Nat→Bool} {gY:Bool} {r:Reach}
theorem WP {fuel:Nat} {r:Rul} {x:DataW H × List MemPlace} (h:DataW.trod enc Tryz.prog w base spare gY fuel 104 r.cells=some x):r.text.length≤Rows.uptoBulk x.1:=by
 obtain ⟨xs,n,_,hx,hl,cL,hfs⟩:=DataW.trod_struct Tryz.underlying104 h;have h3:DataW.trod enc Tryz.prog w base spare gY n 9 ((r.cells.drop 3).take (Tryz.prog.cellsOf 9))=xs[3]?:=hfs 3 _ rfl
 match xs,cL with
 |[y0,y1,y2,y3],_=>unfold Rul.cells at h3;simp only[kH,List.drop_zero,List.drop_succ_cons,List.take_succ_cons,List.take_zero,aLT,List.getElem?_cons_succ] at h3;obtain ⟨s,e0,e1,w0⟩:=DataW.trod_string Tryz.underlying9 h3;have hb:=aMl (x:=x.1) (l:=[y0,y1,y2,y3]) (y:=y3) (by rw[hx]) (by simp);simp only[List.cons.injEq,and_true,Value.string.injEq] at e0;subst e0;rw[e1] at hb;simp only[Rows.uptoBulk] at hb;omega
theorem WQ {fuel:Nat} {f:Frm} {x:DataW H × List MemPlace} (h:DataW.trod enc Tryz.prog w base spare gY fuel 26 f.cells=some x) (hF:FrmAt w f):∀r∈f.lr,r.text.length≤Rows.uptoBulk x.1:=by
 obtain ⟨xs,n,_,hx,hl,cL,hfs⟩:=DataW.trod_struct Tryz.underlying26 h;have h7:DataW.trod enc Tryz.prog w base spare gY n 24 ((f.cells.drop 7).take (Tryz.prog.cellsOf 24))=xs[7]?:=hfs 7 _ rfl
 match xs,cL with
 |[y0,y1,y2,y3,y4,y5,y6,y7],_=>unfold Frm.cells at h7;simp only[C8,List.drop_zero,List.drop_succ_cons,List.take_succ_cons,List.take_zero,aLT,List.getElem?_cons_succ] at h7;have hb:=aMl (x:=x.1) (l:=[y0,y1,y2,y3,y4,y5,y6,y7]) (y:=y7) (by rw[hx]) (by simp);intro r hr;have:=C9 Rul.cells 4 (fun _=>rfl) (fun a k=>a.text.length≤k) (fun a m n h1 h2=>aMb h2 h1) Tryz.underlying24 zC (fun a _ n' x' h'=>WP h') h7 hF.ruls.1 r hr;omega
theorem SQ {v:Value} {d:DataW H} {p:List MemPlace} (hv:Value.okWide Tryz.prog w r b0 26 v) (h:DataW.Trod enc Tryz.prog w base spare gY 26 v d p):∃f:Frm,v=f.val∧FrmAt w f∧f.small (Rows.uptoBulk d):=by
 obtain ⟨cs,rfl,hsz⟩:=okWide_struct Tryz.underlying26 hv;obtain ⟨fuel,hf⟩:=h;obtain ⟨f,e,hF⟩:=aDd hf;rw[e] at hf;refine ⟨f,?_,hF,WQ hf hF⟩;have e2:cs=f.cells.toArray:=by
  have:(Value.agg cs).cells.toList=cs.toList:=rfl;rw[this] at e;rw[←e]
 rw[e2];rfl
def FrmsAt (w:World) (L:Option Addr) (l:List Frm):Prop:=Reads w 8 L l.length (l.flatMap Frm.cells)∧∀f∈l,FrmAt w f
theorem FrmsAt.bl {w w':World} {L:Option Addr} {l:List Frm} (h:FrmsAt w L l) (hb:Bl w w'):FrmsAt w' L l:=⟨h.1.bl hb,fun f hf=>(h.2 f hf).bl hb⟩
theorem FrmsAt.at_ {w:World} {L:Option Addr} {l:List Frm} {i:Nat} {f:Frm} (h:FrmsAt w L l) (hi:l[i]? = some f):∃ad,L=some ad∧w.cell? (ad.add (i*8))=some (.string ⟨f.name.toArray⟩)∧w.cell? ⟨(ad.add (i*8)).block,(ad.add (i*8)).off+1,none⟩=some (.int .i64 f.W) ∧
 w.cell? ⟨(ad.add (i*8)).block,(ad.add (i*8)).off+2,none⟩=some (.int .i64 f.H)∧w.cell? ⟨(ad.add (i*8)).block,(ad.add (i*8)).off+3,none⟩=some (.int .i64 f.reach)∧w.cell? ⟨(ad.add (i*8)).block,(ad.add (i*8)).off+4,none⟩=some (.int .i64 f.dark) ∧
 w.cell? ⟨(ad.add (i*8)).block,(ad.add (i*8)).off+5,none⟩=some (.slice f.AL f.la.length f.ac)∧w.cell? ⟨(ad.add (i*8)).block,(ad.add (i*8)).off+6,none⟩=some (.slice f.FL f.lf.length f.fc)∧w.cell? ⟨(ad.add (i*8)).block,(ad.add (i*8)).off+7,none⟩=some (.slice f.RL f.lr.length f.rc):=by
 obtain ⟨ad,e,key⟩:=gM Frm.cells 8 (fun _=>rfl) h.1 hi;have k0:=key 0 _ (by omega) rfl;have k1:=key 1 _ (by omega) rfl;have k2:=key 2 _ (by omega) rfl;have k3:=key 3 _ (by omega) rfl;have k4:=key 4 _ (by omega) rfl;have k5:=key 5 _ (by omega) rfl;have k6:=key 6 _ (by omega) rfl;have k7:=key 7 _ (by omega) rfl;rw[Addr.add_zero'] at k0;rw[Addr.add_succ'] at k1 k2 k3 k4 k5 k6 k7;exact ⟨ad,e,k0,k1,k2,k3,k4,k5,k6,k7⟩
end
section
variable {H:Type} {enc:TypeId × Value→H} {w:World} {base b0:Nat} {spare:Nat→Bool} {gY:Bool} {r:Reach}
theorem SR:Tryz.prog.cellsOf 47=1:=by kernel_rfl
theorem zD:Tryz.prog.cellsOf 69=4:=by kernel_rfl
theorem WR (l:List Int):l.flatMap (fun i=>[Value.int .i64 i])=l.map (.int .i64):=by
 induction l with
 |nil=>rfl
 |cons a l ih=>rw[aMi,ih];rfl
theorem aAY {fuel:Nat} {cs:List Value} {x:DataW H × List MemPlace} (h:DataW.trod enc Tryz.prog w base spare gY fuel 69 cs=some x):∃v:Vlu,cs=v.cells∧(Reads w 1 v.M v.marks.length (v.marks.map (.int .i64))∧v.field.length≤9223372036854775807∧v.text.length≤9223372036854775807∧v.marks.length≤9223372036854775807):=by
 obtain ⟨xs,n,_,_,hl,cL,hfs⟩:=DataW.trod_struct Tryz.underlying69 h;rw[zD] at hl
 match cs,hl,xs,cL with
 |[c0,c1,c2,c3],_,[y0,y1,y2,y3],_=>have h0:DataW.trod enc Tryz.prog w base spare gY n 9 ((List.drop 0 [c0,c1,c2,c3]).take (Tryz.prog.cellsOf 9))=some y0:=hfs 0 _ rfl;have h1:DataW.trod enc Tryz.prog w base spare gY n 9 ((List.drop 1 [c0,c1,c2,c3]).take (Tryz.prog.cellsOf 9))=some y1:=hfs 1 _ rfl;have h2:DataW.trod enc Tryz.prog w base spare gY n 47 ((List.drop 2 [c0,c1,c2,c3]).take (Tryz.prog.cellsOf 47))=some y2:=hfs 2 _ rfl;have h3:DataW.trod enc Tryz.prog w base spare gY n 3 ((List.drop 3 [c0,c1,c2,c3]).take (Tryz.prog.cellsOf 3))=some y3:=hfs 3 _ rfl;simp only[jC,kH,SR,List.drop_zero,List.drop_succ_cons,List.take_succ_cons,List.take_zero] at h0 h1 h2 h3;obtain ⟨s0,e0,_,w0⟩:=DataW.trod_string Tryz.underlying9 h0;obtain ⟨s1,e1,_,w1⟩:=DataW.trod_string Tryz.underlying9 h1;obtain ⟨A,m,cc,rfl⟩:=fM Tryz.underlying47 h2;obtain ⟨k,e3,_,_⟩:=DataW.trod_int Tryz.underlying3 h3;obtain ⟨t0,rfl⟩:=iY s0;obtain ⟨t1,rfl⟩:=iY s1;simp at e0 e1 e3;subst e0 e1 e3;obtain ⟨l,rfl,hr,-,hn,hc⟩:=uY (fun i:Int=>[Value.int .i64 i]) 1 (fun _=>rfl) (fun _=>True) Tryz.underlying47 jC (fun n' cs x' h=>by obtain ⟨i,e,_,_⟩:=DataW.trod_int Tryz.underlying3 h;exact ⟨i,e,trivial⟩) h2;rw[WR] at hr;rw[Lib.size_mk] at w0 w1;exact ⟨⟨t0,t1,A,cc,l,k⟩,rfl,hr,w0,w1,hn⟩
theorem ST {fuel:Nat} {v:Vlu} {x:DataW H × List MemPlace} (h:DataW.trod enc Tryz.prog w base spare gY fuel 69 v.cells=some x):v.text.length≤Rows.uptoBulk x.1:=by
 obtain ⟨xs,n,_,hx,hl,cL,hfs⟩:=DataW.trod_struct Tryz.underlying69 h;have h3:DataW.trod enc Tryz.prog w base spare gY n 9 ((v.cells.drop 1).take (Tryz.prog.cellsOf 9))=xs[1]?:=hfs 1 _ rfl
 match xs,cL with
 |[y0,y1,y2,y3],_=>unfold Vlu.cells at h3;simp only[kH,List.drop_zero,List.drop_succ_cons,List.take_succ_cons,List.take_zero,aLT,List.getElem?_cons_succ] at h3;obtain ⟨s,e0,e1,w0⟩:=DataW.trod_string Tryz.underlying9 h3;have hb:=aMl (x:=x.1) (l:=[y0,y1,y2,y3]) (y:=y1) (by rw[hx]) (by simp);simp only[List.cons.injEq,and_true,Value.string.injEq] at e0;subst e0;rw[e1] at hb;simp only[Rows.uptoBulk] at hb;omega
theorem MR {v:Value} {d:DataW H} {p:List MemPlace} (hv:Value.okWide Tryz.prog w r b0 50 v) (h:DataW.Trod enc Tryz.prog w base spare gY 50 v d p):∃(L:Option Addr) (c:Nat) (l:List Vlu),v=.slice L l.length c∧VlusAt w L l∧l.length≤9223372036854775807∧l.length≤c∧∀v∈l,v.text.length≤Rows.uptoBulk d:=by
 obtain ⟨A,n,c,rfl⟩:=okWide_slice Tryz.underlying50 hv;obtain ⟨fuel,hf⟩:=h;have hf':DataW.trod enc Tryz.prog w base spare gY fuel 50 [.slice A n c]=some (d,p):=hf;obtain ⟨l,rfl,hr,hq,hn,hc⟩:=uY Vlu.cells 4 (fun _=>rfl) (fun v=>Reads w 1 v.M v.marks.length (v.marks.map (.int .i64))∧v.field.length≤9223372036854775807∧v.text.length≤9223372036854775807∧v.marks.length≤9223372036854775807) Tryz.underlying50 zD (fun n' cs x' h=>aAY h) hf';exact ⟨A,c,l,rfl,⟨hr,hq⟩,hn,hc,C9 Vlu.cells 4 (fun _=>rfl) (fun (v:Vlu) k=>v.text.length≤k) (fun a m n h1 h2=>aMb h2 h1) Tryz.underlying50 zD (fun a ha n' x' h'=>ST h') hf' hr⟩
end
end Go.Proofs.YtllefinciimffaaGreatDoor
