import Derived.Test.YtllefinciimffaaGreatDoorMClaimFields13
import Derived.Test.YtllefinciimffaaGreatDoorMClaimFields15
set_option maxHeartbeats 20000000
set_option maxRecDepth 100000
namespace Go.Proofs.YtllefinciimffaaGreatDoor
open Go.ChangeShapes Go.WideShapes Go.ChangeAt Go.RowKit Go.Joins
section
variable {H:Type} {enc:TypeId × Value→H} {P:Program} {w:World} {base:Nat} {spare:Nat→Bool} {iX:Bool}
theorem DS {α : Type} (f : α → List Value) (k : Nat) (hf : ∀ a, (f a).length = k) (Q : α → Prop) {t e : TypeId} (ht : P.underlying t = some (.slice e)) (hk : P.cellsOf e = k) {fuel : Nat} {a0 : Option Addr} {len cap : Nat} {x : DataW H × List MemPlace}
 (hel:∀n' cs x',DataW.trod enc P w base spare iX n' e cs=some x'→∃a,cs=f a∧Q a) (h:DataW.trod enc P w base spare iX fuel t [.slice a0 len cap]=some x) :
 ∃l:List α,l.length=len∧Reads w k a0 len (l.flatMap f)∧(∀a∈l,Q a)∧len≤9223372036854775807∧len≤cap:=by
 rcases MY ht h with ⟨rfl,rfl,rfl⟩|⟨a,n',rfl,hlc,hcm,aGL⟩
 ·exact ⟨[],rfl,⟨by simp,fun h=>absurd h (by decide)⟩,(fun p hp=>by cases hp),by omega,by omega⟩
 ·obtain ⟨l,hl,hls⟩:=tJ (Q:=fun i (b:α)=>(∀(j:Nat) u,(f b)[j]? = some u→w.cell? (a.add (i*k+j))=some u)∧Q b) len (fun i hi=>by
   obtain ⟨cs,x',_,hc,htr⟩:=aGL i hi;obtain ⟨b,rfl,hq⟩:=hel _ _ _ htr;rw[hk] at hc;exact ⟨b,hc,hq⟩)
  refine ⟨l,hl,⟨by rw[lS f k hf,hl],fun _=>⟨a,rfl,fun j u hj => ?_⟩⟩,fun b hb => ?_,by unfold maxLen at hcm;omega,hlc⟩
  ·have hlt:j<l.length*k:=(by rw[←lS f k hf];exact (aH3.1 hj).1);have hk0:0<k:=by
    rcases Nat.eq_zero_or_pos k with h0|h0
    ·rw[h0] at hlt;omega
    ·exact h0
   have hi:j / k<l.length:=(Nat.div_lt_iff_lt_mul hk0).2 hlt;have hg:l[j / k]? = some l[j / k]:=aH2 hi;have em:j=j / k*k+j % k:=(by rw[Nat.mul_comm];exact (Nat.div_add_mod j k).symm);rw[em] at hj ⊢;rw[TH f k hf hg (j % k) (Nat.mod_lt _ hk0)] at hj;exact (hls _ _ hg).1 _ _ hj
  ·obtain ⟨i,hi⟩:=List.getElem?_of_mem hb;exact (hls i b hi).2
end
section
variable {H:Type} {enc:TypeId × Value→H} {w:World} {base b0:Nat} {spare:Nat→Bool} {iX:Bool} {r:Reach}
theorem PW:Tryz.prog.cellsOf 4=1:=by kernel_rfl
theorem x7:Tryz.prog.cellsOf 58=4:=by kernel_rfl
theorem KJ:Tryz.prog.cellsOf 59=1:=by kernel_rfl
theorem GV:Tryz.prog.cellsOf 85=5:=by kernel_rfl
theorem PZ:Tryz.prog.cellsOf 22=1:=by kernel_rfl
theorem GW:Tryz.prog.cellsOf 61=9:=by kernel_rfl
theorem P3:Tryz.prog.cellsOf 23=1:=by kernel_rfl
theorem x8:Tryz.prog.cellsOf 104=4:=by kernel_rfl
theorem BG:Tryz.prog.cellsOf 24=1:=by kernel_rfl
theorem P4:Tryz.prog.cellsOf 26=8:=by kernel_rfl
theorem Y8 {fuel:Nat} {cs:List Value} {x:DataW H × List MemPlace} (h:DataW.trod enc Tryz.prog w base spare iX fuel 58 cs=some x):∃b:Bx,cs=b.cells:=by
 obtain ⟨xs,n,_,_,hl,cT,hfs⟩:=DataW.trod_struct Tryz.underlying58 h;rw[x7] at hl
 match cs,hl,xs,cT with
 |[c0,c1,c2,c3],_,[y0,y1,y2,y3],_=>have h0:DataW.trod enc Tryz.prog w base spare iX n 3 ((List.drop 0 [c0,c1,c2,c3]).take (Tryz.prog.cellsOf 3))=some y0:=hfs 0 _ rfl;have h1:DataW.trod enc Tryz.prog w base spare iX n 3 ((List.drop 1 [c0,c1,c2,c3]).take (Tryz.prog.cellsOf 3))=some y1:=hfs 1 _ rfl;have h2:DataW.trod enc Tryz.prog w base spare iX n 3 ((List.drop 2 [c0,c1,c2,c3]).take (Tryz.prog.cellsOf 3))=some y2:=hfs 2 _ rfl;have h3:DataW.trod enc Tryz.prog w base spare iX n 3 ((List.drop 3 [c0,c1,c2,c3]).take (Tryz.prog.cellsOf 3))=some y3:=hfs 3 _ rfl;simp only[kV,List.drop_zero,List.drop_succ_cons,List.take_succ_cons,List.take_zero] at h0 h1 h2 h3;obtain ⟨a,e0,_,_⟩:=DataW.trod_int Tryz.underlying3 h0;obtain ⟨b,e1,_,_⟩:=DataW.trod_int Tryz.underlying3 h1;obtain ⟨c,e2,_,_⟩:=DataW.trod_int Tryz.underlying3 h2;obtain ⟨d,e3,_,_⟩:=DataW.trod_int Tryz.underlying3 h3;simp at e0 e1 e2 e3;subst e0 e1 e2 e3;exact ⟨⟨a,b,c,d⟩,rfl⟩
theorem TR {fuel:Nat} {cs:List Value} {x:DataW H × List MemPlace} (h:DataW.trod enc Tryz.prog w base spare iX fuel 85 cs=some x):∃a:Anc,cs=a.cells∧Reads w 1 a.A a.m (a.bs.map .bool):=by
 obtain ⟨xs,n,_,_,hl,cT,hfs⟩:=DataW.trod_struct Tryz.underlying85 h;rw[GV] at hl
 match cs,hl,xs,cT with
 |[c0,c1,c2,c3,c4],_,[y0,y1,y2],_=>have h0:DataW.trod enc Tryz.prog w base spare iX n 43 ((List.drop 0 [c0,c1,c2,c3,c4]).take (Tryz.prog.cellsOf 43))=some y0:=hfs 0 _ rfl;have h1:DataW.trod enc Tryz.prog w base spare iX n 3 ((List.drop 3 [c0,c1,c2,c3,c4]).take (Tryz.prog.cellsOf 3))=some y1:=hfs 1 _ rfl;have h2:DataW.trod enc Tryz.prog w base spare iX n 3 ((List.drop 4 [c0,c1,c2,c3,c4]).take (Tryz.prog.cellsOf 3))=some y2:=hfs 2 _ rfl;simp only[kV,tK,List.drop_zero,List.drop_succ_cons,List.take_succ_cons,List.take_zero] at h0 h1 h2;obtain ⟨p,e0,_,hr⟩:=TD h0;obtain ⟨b,e1,_,_⟩:=DataW.trod_int Tryz.underlying3 h1;obtain ⟨c,e2,_,_⟩:=DataW.trod_int Tryz.underlying3 h2;unfold Pg.cells at e0;simp at e0 e1 e2;obtain ⟨rfl,rfl,rfl⟩:=e0;subst e1 e2;exact ⟨⟨p.W,p.H,p.A,p.m,p.c,p.bs,b,c⟩,rfl,hr⟩
theorem XB {fuel:Nat} {cs:List Value} {x:DataW H × List MemPlace} (h:DataW.trod enc Tryz.prog w base spare iX fuel 61 cs=some x):∃f:Fld,cs=f.cells∧(BxsAt w f.M f.marks∧f.marks.length≤f.mc∧f.marks.length≤9223372036854775807∧f.name.length≤9223372036854775807):=by
 obtain ⟨xs,n,_,_,hl,cT,hfs⟩:=DataW.trod_struct Tryz.underlying61 h;rw[GW] at hl
 match cs,hl,xs,cT with
 |[c0,c1,c2,c3,c4,c5,c6,c7,c8],_,[y0,y1,y2,y3,y4,y5],_=>have h0:DataW.trod enc Tryz.prog w base spare iX n 9 ((List.drop 0 [c0,c1,c2,c3,c4,c5,c6,c7,c8]).take (Tryz.prog.cellsOf 9))=some y0:=hfs 0 _ rfl;have h1:DataW.trod enc Tryz.prog w base spare iX n 3 ((List.drop 1 [c0,c1,c2,c3,c4,c5,c6,c7,c8]).take (Tryz.prog.cellsOf 3))=some y1:=hfs 1 _ rfl;have h2:DataW.trod enc Tryz.prog w base spare iX n 58 ((List.drop 2 [c0,c1,c2,c3,c4,c5,c6,c7,c8]).take (Tryz.prog.cellsOf 58))=some y2:=hfs 2 _ rfl;have h3:DataW.trod enc Tryz.prog w base spare iX n 59 ((List.drop 6 [c0,c1,c2,c3,c4,c5,c6,c7,c8]).take (Tryz.prog.cellsOf 59))=some y3:=hfs 3 _ rfl;have h4:DataW.trod enc Tryz.prog w base spare iX n 3 ((List.drop 7 [c0,c1,c2,c3,c4,c5,c6,c7,c8]).take (Tryz.prog.cellsOf 3))=some y4:=hfs 4 _ rfl;have h5:DataW.trod enc Tryz.prog w base spare iX n 4 ((List.drop 8 [c0,c1,c2,c3,c4,c5,c6,c7,c8]).take (Tryz.prog.cellsOf 4))=some y5:=hfs 5 _ rfl;simp only[kV,mV,x7,KJ,PW,List.drop_zero,List.drop_succ_cons,List.take_succ_cons,List.take_zero] at h0 h1 h2 h3 h4 h5;obtain ⟨s,e0,_,w0⟩:=DataW.trod_string Tryz.underlying9 h0;obtain ⟨k,e1,_,_⟩:=DataW.trod_int Tryz.underlying3 h1;obtain ⟨b,e2⟩:=Y8 h2;obtain ⟨A,m,cc,rfl⟩:=fE Tryz.underlying59 h3;obtain ⟨mo,e4,_,_⟩:=DataW.trod_int Tryz.underlying3 h4;obtain ⟨nd,e5,_⟩:=DataW.trod_bool Tryz.underlying4 h5;obtain ⟨t,rfl⟩:=jG s;unfold Bx.cells at e2;simp at e0 e1 e2 e4 e5;obtain ⟨rfl,rfl,rfl,rfl⟩:=e2;subst e0 e1 e4 e5;obtain ⟨l,rfl,hr,-,hn,hc⟩:=DS Bx.cells 4 (fun _=>rfl) (fun _=>True) Tryz.underlying59 x7 (fun n' cs x' h=>by obtain ⟨b,e⟩:=Y8 h;exact ⟨b,e,trivial⟩) h3;exact ⟨⟨t,k,b,A,cc,l,mo,nd⟩,rfl,hr,hc,hn,by rw[Lib.size_mk] at w0;exact w0⟩
theorem aAm {fuel:Nat} {cs:List Value} {x:DataW H × List MemPlace} (h:DataW.trod enc Tryz.prog w base spare iX fuel 104 cs=some x):∃r:Rul,cs=r.cells∧(r.field.length≤9223372036854775807∧r.other.length≤9223372036854775807∧r.text.length≤9223372036854775807):=by
 obtain ⟨xs,n,_,_,hl,cT,hfs⟩:=DataW.trod_struct Tryz.underlying104 h;rw[x8] at hl
 match cs,hl,xs,cT with
 |[c0,c1,c2,c3],_,[y0,y1,y2,y3],_=>have h0:DataW.trod enc Tryz.prog w base spare iX n 3 ((List.drop 0 [c0,c1,c2,c3]).take (Tryz.prog.cellsOf 3))=some y0:=hfs 0 _ rfl;have h1:DataW.trod enc Tryz.prog w base spare iX n 9 ((List.drop 1 [c0,c1,c2,c3]).take (Tryz.prog.cellsOf 9))=some y1:=hfs 1 _ rfl;have h2:DataW.trod enc Tryz.prog w base spare iX n 9 ((List.drop 2 [c0,c1,c2,c3]).take (Tryz.prog.cellsOf 9))=some y2:=hfs 2 _ rfl;have h3:DataW.trod enc Tryz.prog w base spare iX n 9 ((List.drop 3 [c0,c1,c2,c3]).take (Tryz.prog.cellsOf 9))=some y3:=hfs 3 _ rfl;simp only[kV,mV,List.drop_zero,List.drop_succ_cons,List.take_succ_cons,List.take_zero] at h0 h1 h2 h3;obtain ⟨k,e0,_,_⟩:=DataW.trod_int Tryz.underlying3 h0;obtain ⟨s1,e1,_,w1⟩:=DataW.trod_string Tryz.underlying9 h1;obtain ⟨s2,e2,_,w2⟩:=DataW.trod_string Tryz.underlying9 h2;obtain ⟨s3,e3,_,w3⟩:=DataW.trod_string Tryz.underlying9 h3;obtain ⟨t1,rfl⟩:=jG s1;obtain ⟨t2,rfl⟩:=jG s2;obtain ⟨t3,rfl⟩:=jG s3;simp at e0 e1 e2 e3;subst e0 e1 e2 e3;rw[Lib.size_mk] at w1 w2 w3;exact ⟨⟨k,t1,t2,t3⟩,rfl,w1,w2,w3⟩
theorem aAn {fuel:Nat} {cs:List Value} {x:DataW H × List MemPlace} (h:DataW.trod enc Tryz.prog w base spare iX fuel 26 cs=some x):∃f:Frm,cs=f.cells∧FrmAt w f:=by
 obtain ⟨xs,n,_,_,hl,cT,hfs⟩:=DataW.trod_struct Tryz.underlying26 h;rw[P4] at hl
 match cs,hl,xs,cT with
 |[c0,c1,c2,c3,c4,c5,c6,c7],_,[y0,y1,y2,y3,y4,y5,y6,y7],_=>have h0:DataW.trod enc Tryz.prog w base spare iX n 9 ((List.drop 0 [c0,c1,c2,c3,c4,c5,c6,c7]).take (Tryz.prog.cellsOf 9))=some y0:=hfs 0 _ rfl;have h1:DataW.trod enc Tryz.prog w base spare iX n 3 ((List.drop 1 [c0,c1,c2,c3,c4,c5,c6,c7]).take (Tryz.prog.cellsOf 3))=some y1:=hfs 1 _ rfl;have h2:DataW.trod enc Tryz.prog w base spare iX n 3 ((List.drop 2 [c0,c1,c2,c3,c4,c5,c6,c7]).take (Tryz.prog.cellsOf 3))=some y2:=hfs 2 _ rfl;have h3:DataW.trod enc Tryz.prog w base spare iX n 3 ((List.drop 3 [c0,c1,c2,c3,c4,c5,c6,c7]).take (Tryz.prog.cellsOf 3))=some y3:=hfs 3 _ rfl;have h4:DataW.trod enc Tryz.prog w base spare iX n 3 ((List.drop 4 [c0,c1,c2,c3,c4,c5,c6,c7]).take (Tryz.prog.cellsOf 3))=some y4:=hfs 4 _ rfl;have h5:DataW.trod enc Tryz.prog w base spare iX n 22 ((List.drop 5 [c0,c1,c2,c3,c4,c5,c6,c7]).take (Tryz.prog.cellsOf 22))=some y5:=hfs 5 _ rfl;have h6:DataW.trod enc Tryz.prog w base spare iX n 23 ((List.drop 6 [c0,c1,c2,c3,c4,c5,c6,c7]).take (Tryz.prog.cellsOf 23))=some y6:=hfs 6 _ rfl;have h7:DataW.trod enc Tryz.prog w base spare iX n 24 ((List.drop 7 [c0,c1,c2,c3,c4,c5,c6,c7]).take (Tryz.prog.cellsOf 24))=some y7:=hfs 7 _ rfl;simp only[kV,mV,PZ,P3,BG,List.drop_zero,List.drop_succ_cons,List.take_succ_cons,List.take_zero] at h0 h1 h2 h3 h4 h5 h6 h7;obtain ⟨s,e0,_,w0⟩:=DataW.trod_string Tryz.underlying9 h0;obtain ⟨a,e1,_,_⟩:=DataW.trod_int Tryz.underlying3 h1;obtain ⟨b,e2,_,_⟩:=DataW.trod_int Tryz.underlying3 h2;obtain ⟨c,e3,_,_⟩:=DataW.trod_int Tryz.underlying3 h3;obtain ⟨d,e4,_,_⟩:=DataW.trod_int Tryz.underlying3 h4;obtain ⟨A1,m1,q1,rfl⟩:=fE Tryz.underlying22 h5;obtain ⟨A2,m2,q2,rfl⟩:=fE Tryz.underlying23 h6;obtain ⟨A3,m3,q3,rfl⟩:=fE Tryz.underlying24 h7;obtain ⟨t,rfl⟩:=jG s;simp at e0 e1 e2 e3 e4;subst e0 e1 e2 e3 e4;obtain ⟨l1,rfl,hr1,hq1,hn1,hc1⟩:=DS Anc.cells 5 (fun _=>rfl) (fun a=>Reads w 1 a.A a.m (a.bs.map .bool)) Tryz.underlying22 GV (fun n' cs x' h=>TR h) h5;obtain ⟨l2,rfl,hr2,hq2,hn2,hc2⟩:=DS Fld.cells 9 (fun _=>rfl) (fun f=>BxsAt w f.M f.marks∧f.marks.length≤f.mc∧f.marks.length≤9223372036854775807∧f.name.length≤9223372036854775807) Tryz.underlying23 GW (fun n' cs x' h=>XB h) h6;obtain ⟨l3,rfl,hr3,hq3,hn3,hc3⟩:=DS Rul.cells 4 (fun _=>rfl) (fun r=>r.field.length≤9223372036854775807∧r.other.length≤9223372036854775807∧r.text.length≤9223372036854775807) Tryz.underlying24 x8 (fun n' cs x' h=>aAm h) h7;exact ⟨⟨t,a,b,c,d,A1,q1,l1,A2,q2,l2,A3,q3,l3⟩,rfl,⟨⟨hr1,hq1⟩,⟨hr2,hq2⟩,⟨hr3,hq3⟩,by rw[Lib.size_mk] at w0;exact w0,⟨hc1,hn1⟩,⟨hc2,hn2⟩,⟨hc3,hn3⟩⟩⟩
end
section
variable {H:Type} {enc:TypeId × Value→H} {P:Program} {w:World} {base b0:Nat} {spare:Nat→Bool} {iX:Bool} {r:Reach}
theorem M2 {d:DataW H} {l:List (DataW H)} (h:d∈l):Rows.uptoBulk d≤Rows.uptoBulkAll l:=by
 induction l with
 |nil=>cases h
 |cons x r ih=>
  simp only[Rows.uptoBulkAll];cases aIk.1 h with
  |inl e=>subst e;omega
  |inr e=>have:=ih e;omega
theorem M3 {x:DataW H} {l:List (DataW H × List MemPlace)} {y:DataW H × List MemPlace} (hx:x=.agg (l.map (·.1))) (hy:y∈l):Rows.uptoBulk y.1≤Rows.uptoBulk x:=by
 have h:=M2 (List.mem_map_of_mem (f:=(·.1)) hy);subst hx;simp only[Rows.uptoBulk];omega
theorem P5 {α:Type} (f:α→List Value) (k:Nat) (hf:∀a,(f a).length=k) {A:Addr} {l:List α} {i:Nat} {a:α} {cs:List Value} (hr:Reads w k (some A) l.length (l.flatMap f)) (hi:l[i]? = some a) (hc:w.cells? base (A.add (i*k)) k=some cs):cs=f a:=by
 obtain ⟨ad,e,key⟩:=iB f k hf hr hi;obtain rfl:=aIw e;obtain ⟨k1,k2⟩:=xV hc;refine List.ext_getElem? fun j => ?_;rcases Nat.lt_or_ge j k with hj|hj
 ·have h1:cs[j]? = some cs[j]:=aH2 (by omega);have h2:(f a)[j]? = some ((f a)[j]'(by rw[hf];exact hj)):=aH2 _;have e1:=k2 j _ h1;have e2:=key j _ hj h2;rw[e1] at e2;rw[h1,h2,e2]
 ·rw[aIC (by omega),aIC (by rw[hf];exact hj)]
theorem P6 {α : Type} (f : α → List Value) (k : Nat) (hf : ∀ a, (f a).length = k) (Q : α → Nat → Prop) (hm : ∀ a m n, m ≤ n → Q a m → Q a n) {t e : TypeId} (ht : P.underlying t = some (.slice e)) (hk : P.cellsOf e = k) {fuel : Nat} {A : Option Addr} {l : List α} {c : Nat} {x : DataW H × List MemPlace}
 (hel:∀a∈l,∀n' x',DataW.trod enc P w base spare iX n' e (f a)=some x'→Q a (Rows.uptoBulk x'.1)) (h:DataW.trod enc P w base spare iX fuel t [.slice A l.length c]=some x) (hr:Reads w k A l.length (l.flatMap f)):∀a∈l,Q a (Rows.uptoBulk x.1):=by
 rcases DataW.trod_slice ht h with ⟨hcs,_⟩|⟨a,len',cap',elems,rest,n,_,hcs,hx,_,hl,hmx,cT,hee,_⟩
 ·simp only[List.cons.injEq,Value.slice.injEq,and_true] at hcs;have:l=[]:=List.eq_nil_of_length_eq_zero hcs.2.1;intro a ha;rw[this] at ha;cases ha
 ·simp only[List.cons.injEq,Value.slice.injEq,and_true] at hcs;obtain ⟨rfl,rfl,rfl⟩:=hcs;intro b hb;obtain ⟨i,hi⟩:=List.getElem?_of_mem hb;have hlt:=(aH3.1 hi).1;have h1:=hee i hlt;rw[aH2 (by omega)] at h1;obtain ⟨cs,hcs,htr⟩:=Option.bind_eq_some_iff.1 h1;rw[hk] at hcs;obtain rfl:=P5 f k hf hr hi hcs;refine hm b _ _ ?_ (hel b hb _ _ htr);have h2:=M2 (List.mem_map_of_mem (f:=(·.1)) (List.getElem_mem (l:=elems) (n:=i) (by omega)));rw[hx];simp only[Rows.uptoBulk];omega
end
section
variable {H:Type} {enc:TypeId × Value→H} {w:World} {base b0:Nat} {spare:Nat→Bool} {iX:Bool} {r:Reach}
theorem TS {fuel:Nat} {r:Rul} {x:DataW H × List MemPlace} (h:DataW.trod enc Tryz.prog w base spare iX fuel 104 r.cells=some x):r.text.length≤Rows.uptoBulk x.1:=by
 obtain ⟨xs,n,_,hx,hl,cT,hfs⟩:=DataW.trod_struct Tryz.underlying104 h;have h3:DataW.trod enc Tryz.prog w base spare iX n 9 ((r.cells.drop 3).take (Tryz.prog.cellsOf 9))=xs[3]?:=hfs 3 _ rfl
 match xs,cT with
 |[y0,y1,y2,y3],_=>unfold Rul.cells at h3;simp only[mV,List.drop_zero,List.drop_succ_cons,List.take_succ_cons,List.take_zero,aIq,List.getElem?_cons_succ] at h3;obtain ⟨s,e0,e1,w0⟩:=DataW.trod_string Tryz.underlying9 h3;have hb:=M3 (x:=x.1) (l:=[y0,y1,y2,y3]) (y:=y3) (by rw[hx]) (by simp);simp only[List.cons.injEq,and_true,Value.string.injEq] at e0;subst e0;rw[e1] at hb;simp only[Rows.uptoBulk] at hb;omega
theorem TU {fuel:Nat} {f:Frm} {x:DataW H × List MemPlace} (h:DataW.trod enc Tryz.prog w base spare iX fuel 26 f.cells=some x) (hF:FrmAt w f):∀r∈f.lr,r.text.length≤Rows.uptoBulk x.1:=by
 obtain ⟨xs,n,_,hx,hl,cT,hfs⟩:=DataW.trod_struct Tryz.underlying26 h;have h7:DataW.trod enc Tryz.prog w base spare iX n 24 ((f.cells.drop 7).take (Tryz.prog.cellsOf 24))=xs[7]?:=hfs 7 _ rfl
 match xs,cT with
 |[y0,y1,y2,y3,y4,y5,y6,y7],_=>unfold Frm.cells at h7;simp only[BG,List.drop_zero,List.drop_succ_cons,List.take_succ_cons,List.take_zero,aIq,List.getElem?_cons_succ] at h7;have hb:=M3 (x:=x.1) (l:=[y0,y1,y2,y3,y4,y5,y6,y7]) (y:=y7) (by rw[hx]) (by simp);intro r hr;have:=P6 Rul.cells 4 (fun _=>rfl) (fun a k=>a.text.length≤k) (fun a m n h1 h2=>aII h2 h1) Tryz.underlying24 x8 (fun a _ n' x' h'=>TS h') h7 hF.ruls.1 r hr;omega
theorem P7 {v:Value} {d:DataW H} {p:List MemPlace} (hv:Value.okWide Tryz.prog w r b0 26 v) (h:DataW.Trod enc Tryz.prog w base spare iX 26 v d p):∃f:Frm,v=f.val∧FrmAt w f∧f.small (Rows.uptoBulk d):=by
 obtain ⟨cs,rfl,hsz⟩:=okWide_struct Tryz.underlying26 hv;obtain ⟨fuel,hf⟩:=h;obtain ⟨f,e,hF⟩:=aAn hf;rw[e] at hf;refine ⟨f,?_,hF,TU hf hF⟩;have e2:cs=f.cells.toArray:=by
  have:(Value.agg cs).cells.toList=cs.toList:=rfl;rw[this] at e;rw[←e]
 rw[e2];rfl
def FrmsAt (w:World) (L:Option Addr) (l:List Frm):Prop:=Reads w 8 L l.length (l.flatMap Frm.cells)∧∀f∈l,FrmAt w f
theorem FrmsAt.bl {w w':World} {L:Option Addr} {l:List Frm} (h:FrmsAt w L l) (hb:Bl w w'):FrmsAt w' L l:=⟨h.1.bl hb,fun f hf=>(h.2 f hf).bl hb⟩
theorem FrmsAt.at_ {w:World} {L:Option Addr} {l:List Frm} {i:Nat} {f:Frm} (h:FrmsAt w L l) (hi:l[i]? = some f):∃ad,L=some ad∧w.cell? (ad.add (i*8))=some (.string ⟨f.name.toArray⟩)∧w.cell? ⟨(ad.add (i*8)).block,(ad.add (i*8)).off+1,none⟩=some (.int .i64 f.W) ∧
 w.cell? ⟨(ad.add (i*8)).block,(ad.add (i*8)).off+2,none⟩=some (.int .i64 f.H)∧w.cell? ⟨(ad.add (i*8)).block,(ad.add (i*8)).off+3,none⟩=some (.int .i64 f.reach)∧w.cell? ⟨(ad.add (i*8)).block,(ad.add (i*8)).off+4,none⟩=some (.int .i64 f.dark) ∧
 w.cell? ⟨(ad.add (i*8)).block,(ad.add (i*8)).off+5,none⟩=some (.slice f.AL f.la.length f.ac)∧w.cell? ⟨(ad.add (i*8)).block,(ad.add (i*8)).off+6,none⟩=some (.slice f.FL f.lf.length f.fc)∧w.cell? ⟨(ad.add (i*8)).block,(ad.add (i*8)).off+7,none⟩=some (.slice f.RL f.lr.length f.rc):=by
 obtain ⟨ad,e,key⟩:=iB Frm.cells 8 (fun _=>rfl) h.1 hi;have k0:=key 0 _ (by omega) rfl;have k1:=key 1 _ (by omega) rfl;have k2:=key 2 _ (by omega) rfl;have k3:=key 3 _ (by omega) rfl;have k4:=key 4 _ (by omega) rfl;have k5:=key 5 _ (by omega) rfl;have k6:=key 6 _ (by omega) rfl;have k7:=key 7 _ (by omega) rfl;rw[Addr.add_zero'] at k0;rw[Addr.add_succ'] at k1 k2 k3 k4 k5 k6 k7;exact ⟨ad,e,k0,k1,k2,k3,k4,k5,k6,k7⟩
end
end Go.Proofs.YtllefinciimffaaGreatDoor
namespace Go.Proofs.YtllefinciimffaaGreatDoor
open Go.RowKit
def aBA : List Value → Sn
 |[.string t,.int _ X,.int _ Y,.int _ W,.int _ H,.int _ d,.int _ e]=>⟨t.data.toList,X,Y,W,H,d,e⟩
 |_=>⟨[],0,0,0,0,0,0⟩
theorem P8 (s:Sn):aBA s.cells=s:=rfl
def DT (bs:List Bool) (W H:Nat) (ls:List Ltr) (most ht gs:Int):List (List Value):=bK (gN bs W H ls most ht) gs H (aD (kH bs W H) W) (aD (kH bs W H) W).length
def zY (bs:List Bool) (W H:Nat) (ls:List Ltr) (most ht gs:Int):List Sn:=(DT bs W H ls most ht gs).map aBA
structure SnLine (s:Sn):Prop where
 ok:SnOk s
 X:0≤s.X∧s.X≤4000
 Y:s.Y=0
 W:0≤s.W∧s.W≤4000
theorem BI {bs : List Bool} {W H : Nat} {ls : List Ltr} {most ht gs : Int} {ps : List Piece} (hW : W ≤ 4000) (hin : ∀ p ∈ ps, 1 ≤ p.2 ∧ p.1 + p.2 ≤ W) (hgs : 0 ≤ gs) : ∀ i, i ≤ ps.length → ∀ row ∈ bK (gN bs W H ls most ht) gs H ps i, ∃ (t : ByteArray) (X V h d e : Int), row = [.string t, .int .i64 X, .int .i64 0, .int .i64 V, .int .i64 h, .int .i64 d, .int .i64 e] ∧ (0 ≤ X ∧ X ≤ 4000) ∧ (0 ≤ V ∧ V ≤ 4000)
 |0,_,row,h=>by cases h
 |i+1,hi,row,h=>by
  have hm:∀j,j<ps.length→bJ ps j∈ps:=fun j hj=>by
   unfold bJ;rw[aH4,aH2 hj];exact List.getElem_mem _
  have e2:bK (gN bs W H ls most ht) gs H ps (i+1)=bK (gN bs W H ls most ht) gs H ps i++(if 0<i∧gs≤jB ps i then [cU (nQ ps (i-1)) (jB ps i) H] else [])++[gN bs W H ls most ht (bJ ps i)]:=rfl;rw[e2] at h;rcases aIj.1 h with h|h
  ·rcases aIj.1 h with h|h
   ·exact BI hW hin hgs i (by omega) row h
   ·split at h
    ·rename_i hc
     rw[aIn.1 h];have h1:=hin _ (hm (i-1) (by omega));have h2:=hin _ (hm i (by omega));have h3:nQ ps (i-1)=(((bJ ps (i-1)).1+(bJ ps (i-1)).2:Nat):Int):=(by unfold nQ;simp);have h4:jB ps i=((bJ ps i).1:Int)-nQ ps (i-1):=rfl;exact ⟨_,_,_,_,_,_,rfl,by omega,by omega⟩
    ·cases h
  ·rw[aIn.1 h];have h2:=hin _ (hm i (by omega));obtain ⟨t,d1,d2,hf⟩:=rT (cS (fS (bJ ps i).2 H (iU bs W (bJ ps i).1 0)) (bJ ps i).2 H [] ls) (bJ ps i).1 (bJ ps i).2 H most ht;exact ⟨_,_,_,_,_,_,hf,by omega,by omega⟩
theorem KK {bs:List Bool} {W H:Nat} {ls:List Ltr} {most ht gs:Int} (hW:W≤4000) (hH:H≤4000) (hl:∀l∈ls,(l.W≤64∧l.H≤4000)∧l.text.length≤4) (hgs:0≤gs) :
 (DT bs W H ls most ht gs).flatten=iN (zY bs W H ls most ht gs)∧(DT bs W H ls most ht gs).length=(zY bs W H ls most ht gs).length∧(∀s∈zY bs W H ls most ht gs,SnLine s)∧(zY bs W H ls most ht gs).length≤8000:=by
 have hin:=kS (kH bs W H) W;have hpl:=kI (kH bs W H) W;obtain ⟨ss,e,hs,hn⟩:=S5 (bs:=bs) (W:=W) (H:=H) (most:=most) (ht:=ht) (gs:=gs) (ps:=aD (kH bs W H) W) hH hl (fun p hp=>by have:=hin p hp;omega) _ (Nat.le_refl _);have hS:zY bs W H ls most ht gs=ss:=by
  unfold zY DT;rw[e,List.map_map];exact List.map_id'' (fun s=>P8 s) ss
 have hV:DT bs W H ls most ht gs=ss.map Sn.cells:=e;rw[hS];refine ⟨by rw[hV];exact WV ss,by rw[hV,aH6],fun s hm => ?_,by omega⟩;obtain ⟨t,X,V,h,d,e',he,h1,h2⟩:=BI (bs:=bs) (H:=H) (ls:=ls) (most:=most) (ht:=ht) (gs:=gs) hW hin hgs _ (Nat.le_refl _) s.cells (by rw[e];exact List.mem_map_of_mem hm);unfold Sn.cells at he;simp only[List.cons.injEq,Value.int.injEq,true_and,and_true] at he;obtain ⟨-,hX,hY,hV',-⟩:=he;exact ⟨hs s hm,by rw[hX];exact h1,hY,by rw[hV'];exact h2⟩
def r5 (bs:List Bool) (W:Nat) (dark:Int) (b:Bx):Bool:=decide (dark*b.W*b.H≤(EW bs W b.X.toNat b.Y.toNat b.W.toNat b.H.toNat:Int)*1000)
def dA (bs : List Bool) (W : Nat) (dark : Int) (ms : List Bx) : Nat → List Int
 |0=>[]
 |i+1=>dA bs W dark ms i++(match ms[i]? with|none=>[]|some b=>if r5 bs W dark b=true then [(i:Int)] else [])
theorem r6 {bs:List Bool} {W:Nat} {dark:Int} {ms:List Bx} {i:Nat} {b:Bx} (h:ms[i]? = some b):dA bs W dark ms (i+1)=dA bs W dark ms i++(if r5 bs W dark b=true then [(i:Int)] else []):=by
 show dA bs W dark ms i++(match ms[i]? with|none=>[]|some b=>if r5 bs W dark b=true then [(i:Int)] else [])=_;rw[h]
theorem gC (bs : List Bool) (W : Nat) (dark : Int) (ms : List Bx) : ∀ i, (dA bs W dark ms i).length ≤ i
 |0=>Nat.le_refl _
 |i+1=>by
  have ih:=gC bs W dark ms i;show (dA bs W dark ms i++(match ms[i]? with|none=>[]|some b=>if r5 bs W dark b=true then [(i:Int)] else [])).length≤_;rw[aH5];split
  ·simp;omega
  ·split<;>simp<;>omega
def fN (s:Sn):Bool:=decide (s.t=[32])
def eY (ss : List Sn) : Nat → Int
 |0=>0
 |i+1=>eY ss i+(match ss[i]? with|none=>0|some s=>if fN s=true then 0 else s.W)
def jX (ss : List Sn) : Nat → Int
 |0=>0
 |i+1=>jX ss i+(match ss[i]? with|none=>0|some s=>if fN s=true then 0 else 1000*max s.d 0)
def mX (ss : List Sn) : Nat → Bool
 |0=>false
 |i+1=>mX ss i||(match ss[i]? with|none=>false|some s => !fN s&&decide (s.d<0))
theorem kY {ss:List Sn} {i:Nat} {s:Sn} (h:ss[i]? = some s):eY ss (i+1)=eY ss i+if fN s=true then 0 else s.W:=by
 show _+(match ss[i]? with|none=>(0:Int)|some s=>if fN s=true then 0 else s.W)=_;rw[h]
theorem qN {ss:List Sn} {i:Nat} {s:Sn} (h:ss[i]? = some s):jX ss (i+1)=jX ss i+if fN s=true then 0 else 1000*max s.d 0:=by
 show _+(match ss[i]? with|none=>(0:Int)|some s=>if fN s=true then 0 else 1000*max s.d 0)=_;rw[h]
theorem x9 {ss:List Sn} {i:Nat} {s:Sn} (h:ss[i]? = some s):mX ss (i+1)=(mX ss i||(!fN s&&decide (s.d<0))):=by
 show (_||(match ss[i]? with|none=>false|some s => !fN s&&decide (s.d<0)))=_;rw[h]
theorem r7 {ss : List Sn} (hs : ∀ s ∈ ss, SnLine s) : ∀ i, 0 ≤ eY ss i ∧ eY ss i ≤ 4000 * i
 |0=>by simp[eY]
 |i+1=>by
  have ih:=r7 hs i;cases hg:ss[i]? with
  |none=>
   have e:eY ss (i+1)=eY ss i:=by
    show _+(match ss[i]? with|none=>(0:Int)|some s=>if fN s=true then 0 else s.W)=_;rw[hg];simp
   rw[e];omega
  |some s=>have h:=(hs s (List.mem_of_getElem? hg)).W;rw[kY hg];split<;>omega
theorem yA {ss : List Sn} (hs : ∀ s ∈ ss, SnLine s) : ∀ i, 0 ≤ jX ss i ∧ jX ss i ≤ 32000000000 * i
 |0=>by simp[jX]
 |i+1=>by
  have ih:=yA hs i;cases hg:ss[i]? with
  |none=>
   have e:jX ss (i+1)=jX ss i:=by
    show _+(match ss[i]? with|none=>(0:Int)|some s=>if fN s=true then 0 else 1000*max s.d 0)=_;rw[hg];simp
   rw[e];omega
  |some s=>have h:=(hs s (List.mem_of_getElem? hg)).ok.2.1;rw[qN hg];split<;>omega
def KM (ht:Int) (ss:List Sn):List UInt8 × Int:=
 if eY ss ss.length=0 then ([],1000) else if mX ss ss.length=true then (eV ss,0) else (eV ss,max (1000-jX ss ss.length / (ht*eY ss ss.length)) 0)
end Go.Proofs.YtllefinciimffaaGreatDoor
namespace Go.Proofs.YtllefinciimffaaGreatDoor
open Go.RowKit Go.Shelf
theorem TW (bs:List Bool) (W X Y BW BH:Nat):EW bs W X Y BW BH≤BH*BW:=by
 unfold EW;refine mB (c:=BW) (fun j => ?_) BH;have:=mB (f:=fun i=>b1 (pix bs W (X+i) (Y+j))) (c:=1) (fun i=>cAb _) BW;omega
def MarksOk (ms:List Bx) (W H:Nat):Prop:=∀b∈ms,∃X Y bw bh:Nat,b=⟨X,Y,bw,bh⟩∧1≤bw∧1≤bh∧X+bw≤W∧Y+bh≤H
theorem GX {cs:List Bool} {W:Nat} {dark:Int} {X Y bw bh:Nat}:r5 cs W dark ⟨X,Y,bw,bh⟩=decide (dark*(bw:Int)*(bh:Int)≤(EW cs W X Y bw bh:Int)*1000):=rfl
theorem TX {dark:Int} (hd:1≤dark∧dark≤1000) {bw bh W H:Nat} (h1:bw≤W) (h2:bh≤H) (h3:W*H≤1048576) (h4:W≤4000):(0≤dark*(bw:Int)∧dark*(bw:Int)≤4000000)∧(0≤dark*(bw:Int)*(bh:Int)∧dark*(bw:Int)*(bh:Int)≤1048576000):=by
 have hm:bw*bh≤1048576:=aII (aIH h1 h2) h3;have e:((bw*bh:Nat):Int)=(bw:Int)*(bh:Int):=aIG ..;refine ⟨⟨Int.mul_nonneg (by omega) (by omega),?_⟩,Int.mul_nonneg (Int.mul_nonneg (by omega) (by omega)) (by omega),?_⟩
 ·exact Int.le_trans (Int.mul_le_mul hd.2 (show (bw:Int)≤4000 by omega) (by omega) (by decide)) (by decide)
 ·rw[Int.mul_assoc,←e];exact Int.le_trans (Int.mul_le_mul hd.2 (show ((bw*bh:Nat):Int)≤1048576 by omega) (by omega) (by decide)) (by decide)
theorem BJ (f:Frm) (x:Fld) (W H:Nat) (C:Option Addr) (cc:Nat) (cs:List Bool) (w:World) (hs:aM (W:Int) (H:Int)=0) (hM:BxsAt w x.M x.marks) (hmk:MarksOk x.marks W H) (V6:x.marks.length≤20) (hd:1≤f.dark∧f.dark≤1000) (hC:Reads w 1 C (W*H) (cs.map .bool)) :
 Calls Tryz.prog 77 #[f.val,x.val,.agg #[W,H,.slice C (W*H) cc]] w fun e w'=>∃v,e=.returned v∧w'.ownsRow w.heap.size 3 1 v (dA cs W f.dark x.marks x.marks.length).length ((dA cs W f.dark x.marks x.marks.length).map (.int .i64))∧Bl w w':=by
 have hz:=aR hs;have hW4:W≤4000:=(by omega);have hWH:W*H≤1048576:=(by have:=aIG W H;omega);have hp:aF (W:Int) (H:Int) (W*H)=0:=(by unfold aF;rw[if_pos hs,if_pos (by simp)]);have hik:=fun (X Y bw bh:Nat) (wx:World) (hx:Reads wx 1 C (W*H) (cs.map .bool)) (h1:1≤bw) (h2:1≤bh) (h3:X+bw≤W) (h4:Y+bh≤H)=>show Calls Tryz.prog 135 #[.agg #[W,H,.slice C (W*H) cc],.agg #[X,Y,bw,bh]] wx fun e w'=>e=.returned (.tuple #[.int .i64 (EW cs W X Y bw bh),.int .i64 0])∧Bl wx w' from
  (Z8 (W:Int) (H:Int) C (W*H) cc cs X Y bw bh wx hx).mono fun e w' ⟨n,he,_,hn,hb⟩=>by
    have h0:fG (W:Int) (H:Int) (W*H) (X:Int) (Y:Int) (bw:Int) (bh:Int)=0:=by
     unfold fG;rw[hp,show dG (X:Int) (Y:Int) (bw:Int) (bh:Int) (W:Int) (H:Int)=true from aIu (by omega)];rfl
    have h5:=hn h0;simp only[aIF] at h5;rw[he,h0,h5];exact ⟨rfl,hb⟩
 obtain ⟨MT,hMT⟩:=aH0 (dA cs W f.dark x.marks);rw[←hMT];have hML:=fun i=>gC cs W f.dark x.marks i;have hMS:=fun i b (h:x.marks[i]? = some b)=>r6 (bs:=cs) (W:=W) (dark:=f.dark) h;simp only[←hMT] at hML hMS;have hM0:MT 0=[]:=(by rw[hMT];rfl);obtain ⟨nm,fW,fH,reach,dark,AL,ac,la,FL,fc,lf,RL,rc,lr⟩:=f;obtain ⟨xn,xk,xb,M,mc,ms,xm,xd⟩:=x;simp only at hM hmk V6 hd hMS;show Calls _ _ _ w fun e w'=>∃v,e=.returned v∧w'.ownsRow w.heap.size 3 1 v (MT ms.length).length ((MT ms.length).map (.int .i64))∧Bl w w';unfold Frm.val Fld.val;let w1:=(((w).alloc (.cells #[nm,fW,fH,reach,dark,.slice AL la.length ac,.slice FL lf.length fc,.slice RL lr.length rc] 26)).alloc (.cells #[xn,xk,xb.X,xb.Y,xb.W,xb.H,.slice M ms.length mc,xm,.bool xd] 61)).alloc (.cells #[W,H,.slice C (W*H) cc] 43);obtain ⟨w1b,w11,w12,w13⟩:=aHQ (x:=w1) w _ _ _ _ _ _ rfl;obtain ⟨HM,HC,HIk,HML,HMS,HM0,HMk⟩:=aHM (hM.bl w1b) (hC.bl w1b) hik hML hMS hM0 hmk;have k1:=w11.all8;have k2:=w12.all9;have k3:=w13.all3;have dM:=aHH w1b;have aBh:=w1b.le;clear hM hC hik hML hMS hMT hM0 hmk w1b hs hz hp
 go_in
 go_upto_region 1 with fail;rw[show ((w.alloc (.cells #[nm,fW,fH,reach,dark,.slice AL la.length ac,.slice FL lf.length fc,.slice RL lr.length rc] 26)).alloc (.cells #[xn,xk,xb.X,xb.Y,xb.W,xb.H,.slice M ms.length mc,xm,.bool xd] 61)).alloc (.cells #[W,H,.slice C (W*H) cc] 43)=w1 from rfl];clear_value w1;go_wp2_with fail;go_loopw [7,15] (fun s u wr=>∃i:Nat,i≤ms.length∧u=.int .i64 i∧Bl w1 wr∧wr.ownsRow w1.heap.size 3 1 s (MT i).length ((MT i).map (.int .i64))) (fun _ u _=>ms.length-(RowKit.intOf u).toNat);case atStart=>exact ⟨0,Nat.zero_le _,rfl,Bl.refl _,by rw[HM0.out];exact World.ownsRow_nil _ _ _ _⟩
 case round=>
  obtain ⟨i,hi,rfl,hb,aV⟩:=hrel;have k1:=(w11.bl hb).all8;have k2:=(w12.bl hb).all9;have k3:=(w13.bl hb).all3;have Hb:=aHH hb;have HO:=aHH aV;clear hb aV;by_cases hlt:i<ms.length
  ·have hg:ms[i]? = some ms[i]:=aH2 hlt;obtain ⟨b,hb0⟩:=aH0 (ms[i]);rw[←hb0] at hg;obtain ⟨X,Y,bw,bh,rfl,hw1,hh1,hXW,hYH⟩:=HMk.out b (List.mem_of_getElem? hg);have hst:=HMS.out i _ hg;rw[GX] at hst;obtain ⟨ad,eM,c1,c2,c3,c4⟩:=BxsAt.at_ (HM.out.bl Hb.out) hg;subst eM;simp only at c1 c2 c3 c4;have hbd:=TX hd (show bw≤W by omega) (show bh≤H by omega) hWH hW4;have aDZ:EW cs W X Y bw bh≤1048576:=aII (TW cs W X Y bw bh) (aII (aIH (show bh≤H by omega) (show bw≤W by omega)) (by rw[Nat.mul_comm];exact hWH));have cI:=fun wx hx=>HIk.out X Y bw bh wx hx hw1 hh1 hXW hYH;obtain ⟨n,hn⟩:=aH0 (EW cs W X Y bw bh);rw[←hn] at hst aDZ;simp only[←hn] at cI;have fP:=aHH cI;have Hst:=aHH hst;have hni:=HML.out i;have aGM:=HML.out (i+1);clear hg hb0 cI hst hn;go_upto_region 5 with fail;obtain ⟨w2,hw2⟩:=aH0 (wr.alloc (.cells #[X,Y,bw,bh] 58));have b2:=aHV hw2;have hb2:=aHU hw2;rw[←hw2];have Hb2:=aHH (Hb.out.trans hb2);have Hr2:=aHH hb2;have k1:=(w11.bl Hb2.out).all8;have k3:=(w13.bl Hb2.out).all3;have k4:=b2.all4;have B2:=aHH b2;clear hw2 b2 hb2 c1 c2 c3 c4 k2;go_upto_region 6 with (go_at_call 135;refine (fP.out _ (HC.out.bl Hb2.out)).mono ?_;rintro e w3 ⟨rfl,hb3⟩);have Hb3:=aHH (Hb2.out.trans hb3);have k1:=(w11.bl Hb3.out).all8;have k4:=(B2.out.bl hb3).all4;have HO3:=aHH (cX HO.out (Hr2.out.trans hb3));have Hr3:=aHH hb3;clear k3 hb3;by_cases ht:dark*(bw:Int)*(bh:Int)≤(n:Int)*1000
   ·rw[aIu ht] at Hst;have hsx:MT (i+1)=MT i++[(i:Int)]:=Hst.out;have Hsx:=aHH hsx;have hl3:=Hb3.out.le;clear Hst hsx;go_wp2_with (at_builtin;refine bI (w1:=w1) rfl (.tmp 37) (.tmp 39) 47 rfl 3 (.int .i64 0) 8 Tryz.underlying47 iI rfl w1.heap.size _ (MT i).length _ rfl (.int .i64 i) rfl rfl Hb3.out (Nat.le_refl _) hl3 HO3.out (by omega) (by unfold maxLen;omega) ?_;intro v' w8 bF hb8 hg8);go_wp2_with fail;exact ⟨⟨i+1,hlt,by go_num,hb8,by rw[Hsx.out,aH5,aIp];exact bF⟩,by simp[RowKit.intOf];omega⟩
   ·rw[aIt ht] at Hst;have hsx:MT (i+1)=MT i:=(by rw[Hst.out];simp);have Hsx:=aHH hsx;clear Hst hsx;go_wp2_with fail;exact ⟨⟨i+1,hlt,by go_num,Hb3.out,by rw[Hsx.out];exact HO3.out⟩,by simp[RowKit.intOf];omega⟩
  ·obtain rfl:i=ms.length:=(by omega);go_wp2_with fail;go_ret;exact ⟨_,rfl,MR HO.out aBh,dM.out.trans Hb.out⟩
theorem uS (f:Frm) (x:Fld) (W H:Nat) (C:Option Addr) (cc:Nat) (cs:List Bool) (w:World) (hs:aM (W:Int) (H:Int)=0) (hM:BxsAt w x.M x.marks) (hmk:MarksOk x.marks W H) (V6:x.marks.length≤20) (hd:1≤f.dark∧f.dark≤1000) (hC:Reads w 1 C (W*H) (cs.map .bool)) :
 Calls Tryz.prog 23 #[f.val,x.val,.agg #[W,H,.slice C (W*H) cc]] w fun e w'=>∃v,e=.returned v∧w'.ownsRow w.heap.size 3 1 v (dA cs W f.dark x.marks x.marks.length).length ((dA cs W f.dark x.marks x.marks.length).map (.int .i64))∧Bl w w':=by
 have hz:=aR hs;have hW4:W≤4000:=(by omega);have hH4:H≤4000:=(by omega);have hWH:W*H≤1048576:=(by have:=aIG W H;omega);have hik:=fun (X Y bw bh:Nat) (wx:World) (hx:Reads wx 1 C (W*H) (cs.map .bool)) (h3:X+bw≤W) (h4:Y+bh≤H)=>wR W H X Y bw bh C cc cs wx hx hW4 hH4 h3 h4;obtain ⟨MT,hMT⟩:=aH0 (dA cs W f.dark x.marks);rw[←hMT];have hML:=fun i=>gC cs W f.dark x.marks i;have hMS:=fun i b (h:x.marks[i]? = some b)=>r6 (bs:=cs) (W:=W) (dark:=f.dark) h;simp only[←hMT] at hML hMS;have hM0:MT 0=[]:=(by rw[hMT];rfl);obtain ⟨nm,fW,fH,reach,dark,AL,ac,la,FL,fc,lf,RL,rc,lr⟩:=f;obtain ⟨xn,xk,xb,M,mc,ms,xm,xd⟩:=x;simp only at hM hmk V6 hd hMS;show Calls _ _ _ w fun e w'=>∃v,e=.returned v∧w'.ownsRow w.heap.size 3 1 v (MT ms.length).length ((MT ms.length).map (.int .i64))∧Bl w w';unfold Frm.val Fld.val;let w1:=(((w).alloc (.cells #[nm,fW,fH,reach,dark,.slice AL la.length ac,.slice FL lf.length fc,.slice RL lr.length rc] 26)).alloc (.cells #[xn,xk,xb.X,xb.Y,xb.W,xb.H,.slice M ms.length mc,xm,.bool xd] 61)).alloc (.cells #[W,H,.slice C (W*H) cc] 43);obtain ⟨w1b,w11,w12,w13⟩:=aHQ (x:=w1) w _ _ _ _ _ _ rfl;obtain ⟨HM,HC,HIk,HML,HMS,HM0,HMk⟩:=aHM (hM.bl w1b) (hC.bl w1b) hik hML hMS hM0 hmk;have k1:=w11.all8;have k2:=w12.all9;have k3:=w13.all3;have dM:=aHH w1b;have aBh:=w1b.le;clear hM hC hik hML hMS hMT hM0 hmk w1b hs hz
 go_in
 go_upto_region 1 with fail;rw[show ((w.alloc (.cells #[nm,fW,fH,reach,dark,.slice AL la.length ac,.slice FL lf.length fc,.slice RL lr.length rc] 26)).alloc (.cells #[xn,xk,xb.X,xb.Y,xb.W,xb.H,.slice M ms.length mc,xm,.bool xd] 61)).alloc (.cells #[W,H,.slice C (W*H) cc] 43)=w1 from rfl];clear_value w1;go_wp2_with fail;go_loopw [7,13] (fun s u wr=>∃i:Nat,i≤ms.length∧u=.int .i64 i∧Bl w1 wr∧wr.ownsRow w1.heap.size 3 1 s (MT i).length ((MT i).map (.int .i64))) (fun _ u _=>ms.length-(RowKit.intOf u).toNat);case atStart=>exact ⟨0,Nat.zero_le _,rfl,Bl.refl _,by rw[HM0.out];exact World.ownsRow_nil _ _ _ _⟩
 case round=>
  obtain ⟨i,hi,rfl,hb,aV⟩:=hrel;have k1:=(w11.bl hb).all8;have k2:=(w12.bl hb).all9;have k3:=(w13.bl hb).all3;have Hb:=aHH hb;have HO:=aHH aV;clear hb aV;by_cases hlt:i<ms.length
  ·have hg:ms[i]? = some ms[i]:=aH2 hlt;obtain ⟨b,hb0⟩:=aH0 (ms[i]);rw[←hb0] at hg;obtain ⟨X,Y,bw,bh,rfl,hw1,hh1,hXW,hYH⟩:=HMk.out b (List.mem_of_getElem? hg);have hst:=HMS.out i _ hg;rw[GX] at hst;obtain ⟨ad,eM,c1,c2,c3,c4⟩:=BxsAt.at_ (HM.out.bl Hb.out) hg;subst eM;simp only at c1 c2 c3 c4;have hbd:=TX hd (show bw≤W by omega) (show bh≤H by omega) hWH hW4;have aDZ:EW cs W X Y bw bh≤1048576:=aII (TW cs W X Y bw bh) (aII (aIH (show bh≤H by omega) (show bw≤W by omega)) (by rw[Nat.mul_comm];exact hWH));have cI:=fun wx hx=>HIk.out X Y bw bh wx hx hXW hYH;obtain ⟨n,hn⟩:=aH0 (EW cs W X Y bw bh);rw[←hn] at hst aDZ;simp only[←hn] at cI;have fP:=aHH cI;have Hst:=aHH hst;have hni:=HML.out i;have aGM:=HML.out (i+1);clear hg hb0 cI hst hn;go_upto_region 5 with fail;obtain ⟨w2,hw2⟩:=aH0 (wr.alloc (.cells #[X,Y,bw,bh] 58));have b2:=aHV hw2;have hb2:=aHU hw2;rw[←hw2];have Hb2:=aHH (Hb.out.trans hb2);have Hr2:=aHH hb2;have k1:=(w11.bl Hb2.out).all8;have k3:=(w13.bl Hb2.out).all3;have k4:=b2.all4;have B2:=aHH b2;clear hw2 b2 hb2 c1 c2 c3 c4 k2;refine aHZ [aHX 0,aHX 1,aHX 4,aHX 5,aHX 6,aHX 7,aHX 8,aHX 9,aHX 10,aHX 11,aHY 2,aHX 3,aHX 12] (by kernel_rfl) ?_
   iterate 10
    apply Flow.calm2 _ _ rfl rfl
    ·intro a b c d;obtain ⟨e,f⟩:=b.rule;go_simp;(try go_ints);exact d
    ·intro a b;simp only[sqA];exact b
   apply Flow.move rfl;go_wp2_with fail;refine (fP.out _ (HC.out.bl Hb2.out.drew)).mono ?_;rintro e w3 ⟨rfl,HB1⟩;obtain ⟨hc3,hf3⟩:=HB1.rule;go_wp2_with fail;refine ⟨fun _=>(by first|exact HB1|exact Bl.refl _),?_⟩
   iterate 2
    apply Flow.calm2 _ _ rfl rfl
    ·intro a b c d;obtain ⟨e,f⟩:=b.rule;go_simp;(try go_ints);exact d
    ·intro a b;simp only[sqA];exact b
   refine Flow.done ?_;have hb3:Bl w2 w3:=Bl.ofDrew HB1;have Hb3:=aHH (Hb2.out.trans hb3);have HO3:=aHH (cX HO.out (Hr2.out.trans hb3));clear k3 hb3;by_cases ht:dark*(bw:Int)*(bh:Int)≤(n:Int)*1000
   ·rw[aIu ht] at Hst;have hsx:MT (i+1)=MT i++[(i:Int)]:=Hst.out;have Hsx:=aHH hsx;have hl3:=Hb3.out.le;clear Hst hsx;go_wp2_with (at_builtin;refine bI (w1:=w1) rfl (.tmp 31) (.tmp 33) 47 rfl 3 (.int .i64 0) 8 Tryz.underlying47 iI rfl w1.heap.size _ (MT i).length _ rfl (.int .i64 i) rfl rfl Hb3.out (Nat.le_refl _) hl3 HO3.out (by omega) (by unfold maxLen;omega) ?_;intro v' w8 bF hb8 hg8);go_wp2_with fail;exact ⟨⟨i+1,hlt,by go_num,hb8,by rw[Hsx.out,aH5,aIp];exact bF⟩,by simp[RowKit.intOf];omega⟩
   ·rw[aIt ht] at Hst;have hsx:MT (i+1)=MT i:=(by rw[Hst.out];simp);have Hsx:=aHH hsx;clear Hst hsx;go_wp2_with fail;exact ⟨⟨i+1,hlt,by go_num,Hb3.out,by rw[Hsx.out];exact HO3.out⟩,by simp[RowKit.intOf];omega⟩
  ·obtain rfl:i=ms.length:=(by omega);go_wp2_with fail;go_ret;exact ⟨_,rfl,MR HO.out aBh,dM.out.trans Hb.out⟩
end Go.Proofs.YtllefinciimffaaGreatDoor
