import Derived.Test.YtllefinciimffaaGreatDoorMClaimFields9
import Derived.Test.YtllefinciimffaaGreatDoorMClaimFields10
import Derived.Shelf.Strings.Builder2
import Derived.Shelf.Vars
import Derived.Shelf.Strings.Search3
import Derived.Shelf.Strings.Prefix
import Derived.Lib.Strings
import Derived.Lib.SlBy
import Derived.Shelf.Strings.Split
import Derived.HandedShaped
set_option maxHeartbeats 20000000
set_option maxRecDepth 100000
namespace Go.Proofs
open Go.Shelf
def Tryz.lays241_ren:Go.Shelf.Ren:=⟨fun|241=>316|277=>338|n=>n,fun|70=>91|3=>3|0=>0|72=>94|37=>92|5=>5|n=>n,fun|n=>n⟩
theorem Tryz.lays241 : Go.Proofs.Lays.n241 Tryz.prog Tryz.lays241_ren := {
 mixed:=by kernel_rfl
 f241:=Tryz.func316.trans (congrArg some (by kernel_rfl))
 f277:=Tryz.func338.trans (congrArg some (by kernel_rfl))
 t0:=Tryz.underlying0
 a0:=Tryz.isAgg0
 z0:=Tryz.sizeOf0
 v0:=Tryz.zeroValue0
 t3:=Tryz.underlying3
 a3:=Tryz.isAgg3
 z3:=Tryz.sizeOf3
 v3:=Tryz.zeroValue3
 t37:=Tryz.underlying92
 a37:=Tryz.isAgg92
 z37:=Tryz.sizeOf92
 v37:=Tryz.zeroValue92
 t70:=Tryz.underlying91
 a70:=Tryz.isAgg91
 z70:=Tryz.sizeOf91
 v70:=Tryz.zeroValue91
 t72:=Tryz.underlying94
 a72:=Tryz.isAgg94
 z72:=Tryz.sizeOf94
 v72:=Tryz.zeroValue94 }
theorem Tryz.builderExtra241:Builder.Extra Tryz.prog Tryz.lays241_ren where
 sizeBuilder:=by kernel_rfl
 liesBuilder:=by kernel_rfl
 t5:=Tryz.underlying5
 a5:=Tryz.isAgg5
 z5:=Tryz.sizeOf5
 v5:=Tryz.zeroValue5
 infoByte:=by kernel_rfl
 cellsByte:=by kernel_rfl
 sizeByte:=by kernel_rfl
 neB5:=by decide
end Go.Proofs
namespace Go.Proofs.YtllefinciimffaaGreatDoor
open Go.RowKit Go.Shelf
theorem xP (B n:Nat) (w:World) (hB:B=w.heap.size) (hn:n≤1048576) :
 Calls Tryz.prog 270 #[.pointer (some ⟨B,0,none⟩),n] (w.alloc (.cells #[.pointer none,.slice none 0 0] 94)) fun e w'=>e=.returned (.tuple #[])∧Bui B [] w'∧Bl w w':=by
 subst hB;obtain ⟨w0,hw0⟩:=aH0 (w.alloc (.cells #[.pointer none,.slice none 0 0] 94));obtain ⟨B,hB⟩:=aH0 w.heap.size;have hbk:w0.heap[B]? = some (.cells #[.pointer none,.slice none 0 0] 94 (0,0)):=(by rw[hw0,hB];exact heap_alloc_new w _);have hb0:=aHU hw0;have hBw:B≤w0.heap.size:=(by rw[hB];exact hb0.le);rw[←hw0,←hB];have HB:=aHH hB;clear hw0 hB;have aAF:(w0.setCell ⟨B,0,none⟩ (.pointer (some ⟨B,0,none⟩))).heap[B]? = some (.cells #[.pointer (some ⟨B,0,none⟩),.slice none 0 0] 94 (0,0)):=by
  simp[World.setCell,Array.getElem?_modify,hbk]
 have c1:(w0.setCell ⟨B,0,none⟩ (.pointer (some ⟨B,0,none⟩))).cell? ⟨B,1,none⟩=some (.slice none 0 0):=(by rw[Lib.cell_of_heap aAF];rfl);have hb1:Bl w (w0.setCell ⟨B,0,none⟩ (.pointer (some ⟨B,0,none⟩))):=hb0.setCell (by rw[HB.out];exact Nat.le_refl _) _;have hck:=nO B w0 (by rw[Lib.cell_of_heap hbk];rfl) (by simp[World.shape?,hbk]) (Lib.frozen_of_heap hbk 0);have Hck:=aHH hck;obtain ⟨w1,hw1⟩:=aH0 (w0.setCell ⟨B,0,none⟩ (.pointer (some ⟨B,0,none⟩)));have JB:B≤w1.heap.size:=(by rw[hw1];simpa using hBw);rw[←hw1] at aAF c1 hb1;have HW1:=aHH hw1;have aCS:=aHH aAF;clear hck hw1 hbk
 go_in
 go_wp2_with fail;refine Hck.out.mono ?_;rintro e w2 ⟨rfl,rfl⟩;rw[←HW1.out];have hU:Bui B [] w1:=Or.inr (Lib.BuilderAtF.of ⟨Nat.le_refl _,.slice none 0 0,aCS.out,World.ownsRow_nil _ _ _ _,by simp[Value.ownBlock]⟩);have HU:=aHH hU;clear hU;go_upto_region 3 with fail;refine aHZ [aHX 0,aHX 1,aHX 2,aHX 3,aHX 4,aHX 5,aHX 6,aHX 7,aHX 8,aHX 9,aHX 10,aHX 11,aHX 12] (by kernel_rfl) ?_;apply Flow.mv _ rfl
 ·intro a b;simp only[sqA,Act.eval,sqC];exact b
 iterate 4
  apply Flow.calm2 _ _ rfl rfl
  ·intro a b c d;obtain ⟨e,f⟩:=b.rule;go_simp;(try go_ints);exact d
  ·intro a b;simp only[sqA];exact b
 apply Flow.mv _ rfl
 ·intro a b;simp only[sqA,Act.eval,sqC];exact b
 iterate 5
  apply Flow.calm2 _ _ rfl rfl
  ·intro a b c d;obtain ⟨e,f⟩:=b.rule;go_simp;(try go_ints);exact d
  ·intro a b;simp only[sqA];exact b
 apply Flow.mv _ rfl
 ·intro a b;simp only[sqA,Act.eval,sqC];exact b
 apply Flow.calm2 _ _ rfl rfl
 ·intro a b c d;obtain ⟨e,f⟩:=b.rule;go_simp;(try go_ints);exact d
 ·intro a b;simp only[sqA];exact b
 refine Flow.done ?_;by_cases h0:n=0
 ·subst h0;go_wp2_with fail
  go_end0
  exact ⟨rfl,fK HU.out (Bl.refl _).drew,hb1.drew⟩
 ·have hlt:(0:Int)<(n:Int):=(by omega);go_wp2_with fail;refine (Any.Builder_grow_fresh Tryz.lays241 Tryz.builderExtra241 B B n w1.drew (Nat.le_refl _) aCS.out (by simpa using JB) (by omega)).mono ?_;rintro e w2 ⟨rfl,h1,h2⟩;go_wp2_with fail
  go_end0
  exact ⟨rfl,Or.inr (Lib.BuilderAtF.of h1),Bl.trans' hb1.drew HB.out.symm h2⟩
end Go.Proofs.YtllefinciimffaaGreatDoor
namespace Go.Proofs
open Go.Shelf
def Tryz.lays99_ren:Go.Shelf.Ren:=⟨fun|99=>269|206=>315|n=>n,fun|9=>9|4=>4|3=>3|n=>n,fun|n=>n⟩
theorem Tryz.lays99 : Go.Proofs.Lays.n99 Tryz.prog Tryz.lays99_ren := {
 mixed:=by kernel_rfl
 f99:=Tryz.func269.trans (congrArg some (by kernel_rfl))
 f206:=Tryz.func315.trans (congrArg some (by kernel_rfl))
 t3:=Tryz.underlying3
 a3:=Tryz.isAgg3
 z3:=Tryz.sizeOf3
 v3:=Tryz.zeroValue3
 t4:=Tryz.underlying4
 a4:=Tryz.isAgg4
 z4:=Tryz.sizeOf4
 v4:=Tryz.zeroValue4
 t9:=Tryz.underlying9
 a9:=Tryz.isAgg9
 z9:=Tryz.sizeOf9
 v9:=Tryz.zeroValue9 }
def Tryz.lays144_ren:Go.Shelf.Ren:=⟨fun|144=>172|143=>73|219=>133|217=>173|225=>174|224=>175|267=>176|266=>231|314=>232|n=>n,fun|9=>9|4=>4|3=>3|5=>5|46=>233|146=>278|51=>277|n=>n,fun|1=>0|n=>n⟩
end Go.Proofs
namespace Go.Proofs.YtllefinciimffaaGreatDoor
open Go.RowKit Go.Shelf
def SubOk (w:World):Prop:=∃m:Int,w.cell? ⟨Tryz.lays144_ren.g 1,0,none⟩=some (.int .i64 m)
theorem SubOk.bl {w w':World} (h:SubOk w) (hb:Bl w w'):SubOk w':=let ⟨m,hm⟩:=h;⟨m,hb.at hm⟩
theorem dE (s p:List UInt8) (w:World):Calls Tryz.prog 269 #[s,p] w fun e w'=>e=.returned (.bool (Lib.hasPrefix s p))∧w=w':=by
 have h:=Any.strings_HasPrefix Tryz.lays99 ⟨s.toArray⟩ ⟨p.toArray⟩ w;refine Calls.mono (R:=fun e w'=>e=.returned (.bool (Lib.hasPrefix s p))∧w'=w) h ?_;rintro e w' ⟨rfl,rfl⟩;exact ⟨rfl,rfl⟩
theorem iA (l:List UInt8) (k:Nat):(⟨l.toArray⟩:ByteArray).extract k l.length=⟨(l.drop k).toArray⟩:=by
 apply ByteArray.ext;rw[ByteArray.data_extract];apply Array.ext';simp only[Array.toList_extract,List.extract_eq_take_drop];exact aID (by simp)
theorem e9 {t:List UInt8} {i:Nat} {b:UInt8} (h:t[i]? = some b):∃hi:i<(⟨t.toArray⟩:ByteArray).size,(⟨t.toArray⟩:ByteArray)[i]'hi=b:=by
 have hl:=(aH3.1 h).1;have hi:i<(⟨t.toArray⟩:ByteArray).size:=(by rw[Lib.size_mk];exact hl);exact ⟨hi,aIw ((Lib.getElem_mk t i hi).symm.trans h)⟩
end Go.Proofs.YtllefinciimffaaGreatDoor
namespace Go.Proofs.YtllefinciimffaaGreatDoor
open Go.RowKit
structure Pg where
 W:Int
 H:Int
 A:Option Addr
 m:Nat
 c:Nat
 bs:List Bool
def Pg.cells (p:Pg):List Value:=[.int .i64 p.W,.int .i64 p.H,.slice p.A p.m p.c]
def Pg.val (p:Pg):Value:=.agg #[p.W,p.H,.slice p.A p.m p.c]
def J0 (ps:List Pg):List Value:=ps.flatMap Pg.cells
theorem O4 {ps:List Pg} {i:Nat} {p:Pg} (h:ps[i]? = some p) (j:Nat) (hj:j<3):(J0 ps)[i*3+j]? = p.cells[j]?:=by
 induction ps generalizing i with
 |nil=>simp at h
 |cons x ps ih=>
  unfold J0;rw[aIM];rcases i with _|i
  ·simp only[aIq,Option.some.injEq] at h;subst h;rw[aIb (by show 0*3+j<3;omega)];simp
  ·rw[aIa (by show 3≤(i+1)*3+j;omega)];have e:(i+1)*3+j-x.cells.length=i*3+j:=by
    show (i+1)*3+j-3=i*3+j;omega
   rw[e];exact ih (by simpa using h)
def PgsAt (w:World) (S:Option Addr) (ps:List Pg):Prop:=Reads w 3 S ps.length (J0 ps)∧∀p∈ps,Reads w 1 p.A p.m (p.bs.map .bool)
theorem PgsAt.bl {w w':World} {S:Option Addr} {ps:List Pg} (h:PgsAt w S ps) (hb:Bl w w'):PgsAt w' S ps:=⟨h.1.bl hb,fun p hp=>(h.2 p hp).bl hb⟩
theorem PgsAt.at_ {w:World} {S:Option Addr} {ps:List Pg} {i:Nat} {p:Pg} (h:PgsAt w S ps) (hi:ps[i]? = some p):∃ad,S=some ad∧w.cell? (ad.add (i*3))=some (.int .i64 p.W)∧w.cell? ⟨(ad.add (i*3)).block,(ad.add (i*3)).off+1,none⟩=some (.int .i64 p.H) ∧
 w.cell? ⟨(ad.add (i*3)).block,(ad.add (i*3)).off+2,none⟩=some (.slice p.A p.m p.c):=by
 have hlt:i<ps.length:=(aH3.1 hi).1;obtain ⟨ad,e,hc⟩:=h.1.2 (by omega);have key:∀j v,j<3→p.cells[j]? = some v→w.cell? ((ad.add (i*3)).add j)=some v:=fun j v hj hv=>by
  rw[dZ];exact hc _ _ (by rw[O4 hi j hj];exact hv)
 have k0:=key 0 _ (by omega) rfl;have k1:=key 1 _ (by omega) rfl;have k2:=key 2 _ (by omega) rfl;rw[Addr.add_zero'] at k0;rw[Addr.add_succ'] at k1 k2;exact ⟨ad,e,k0,k1,k2⟩
def Ltr.key (l:Ltr):List UInt8 × Int × Int × Int × Nat × List Bool:=(l.text,aF l.W l.H l.m,if aF l.W l.H l.m=0 then (l.W,l.H,l.m,l.bs) else (0,0,0,[]))
abbrev Key:=List UInt8 × Int × Int × Int × Nat × List Bool
def Ltr.zero:Ltr:=⟨[],0,0,none,0,0,[]⟩
theorem p5 (p : Cd → Bool) (d : Cd) : ∀ (l : List Cd) (i : Nat), Lib.idxByFrom (fun _ y => p y) d l i = match l.findIdx? p with | some k => ((i + k : Nat) : Int) | none => -1
 |[],i=>rfl
 |y :: l,i=>by
  unfold Lib.idxByFrom;rw[List.findIdx?_cons];cases hp:p y with
  |true=>simp
  |false=>
   simp only[Bool.false_eq_true,if_false];rw[p5 p d l (i+1)];cases l.findIdx? p with
   |none=>rfl
   |some k=>simp only[Option.map_some];congr 1;omega
theorem O5 (p:Cd→Bool) (d:Cd) (l:List Cd):Lib.idxBy (fun _ y=>p y) l d=match l.findIdx? p with|some k=>(k:Int)|none => -1:=by
 unfold Lib.idxBy;rw[p5];cases l.findIdx? p with
 |none=>rfl
 |some k=>simp
def uO (o c:Cd):Cd:=⟨o.k,o.t,min o.X c.X,min o.Y c.Y,max (o.X+o.W) (c.X+c.W)-min o.X c.X,o.n+c.n⟩
def VZ (out:List Cd) (c:Cd):List Cd:=match out.findIdx? (dH c) with
 |none=>out++[c]
 |some i=>out.set i (uO (out.getD i c) c)
def cB (cs:List Cd):List Cd:=cs.foldl VZ []
theorem qJ {cs:List Cd} {i:Nat} {c:Cd} (h:cs[i]? = some c):cB (cs.take (i+1))=VZ (cB (cs.take i)) c:=by
 unfold cB;rw[aIJ,h,List.foldl_append];rfl
def CdOk (N:Nat) (e:Cd):Prop:=(e.k=1∨e.k=2)∧0≤e.X∧e.X≤4000∧0≤e.Y∧e.Y≤4000∧0≤e.W∧e.X+e.W≤8000∧1≤e.n∧e.n≤(N:Int)*1000000∧e.t.length≤9223372036854775807
theorem CdOk.mono {N M:Nat} {e:Cd} (h:CdOk N e) (hm:N≤M):CdOk M e:=by
 obtain ⟨a,b,c,d,e',f,g,h1,h2,h3⟩:=h;exact ⟨a,b,c,d,e',f,g,h1,by omega,h3⟩
theorem qK {c:Cd} (h:gL c=0) (ht:c.t.length≤9223372036854775807):CdOk 1 c:=by
 unfold gL at h;by_cases hk:c.k≠1∧c.k≠2
 ·rw[if_pos hk] at h;cases h
 ·rw[if_neg hk] at h;cases hr:jA c with
  |false=>rw[hr] at h;cases h
  |true=>unfold jA inB at hr;simp only[aIs,decide_eq_true_eq] at hr;exact ⟨by omega,by omega,by omega,by omega,by omega,by omega,by omega,by omega,by omega,ht⟩
theorem S3 {N:Nat} {o c:Cd} (ho:CdOk N o) (hc:CdOk 1 c):CdOk (N+1) (uO o c):=by
 obtain ⟨a,b,c',d,e',f,g,h1,h2,h3⟩:=ho;obtain ⟨a2,b2,c2,d2,e2,f2,g2,h4,h5,h6⟩:=hc;exact ⟨a,by show 0≤min _ _;omega,by show min _ _≤_;omega,by show 0≤min _ _;omega,by show min _ _≤_;omega,by show 0≤max _ _-min _ _;omega,by show min _ _+(max _ _-min _ _)≤_;omega,by show 1≤o.n+c.n;omega,by show o.n+c.n≤_;omega,h3⟩
theorem aAf {N:Nat} {out:List Cd} {c:Cd} (ho:∀e∈out,CdOk N e) (hc:CdOk 1 c):∀e∈VZ out c,CdOk (N+1) e:=by
 intro e he;unfold VZ at he;cases hf:out.findIdx? (dH c) with
 |none=>
  rw[hf] at he;rcases aIj.1 he with he|he
  ·exact (ho e he).mono (by omega)
  ·rw[aIn.1 he];exact hc.mono (by omega)
 |some i=>
  rw[hf] at he;have hi:i<out.length:=(List.findIdx?_eq_some_iff_findIdx_eq.1 hf).1;rcases List.mem_or_eq_of_mem_set he with he|rfl
  ·exact (ho e he).mono (by omega)
  ·refine S3 ?_ hc;rw[aH4,aH2 hi];exact ho _ (List.getElem_mem hi)
theorem WT (out:List Cd) (c:Cd):(VZ out c).length≤out.length+1:=by
 unfold VZ;cases out.findIdx? (dH c) with
 |none=>simp
 |some i=>simp
theorem rW {cs : List Cd} (h : ∀ c ∈ cs, CdOk 1 c) : ∀ i, i ≤ cs.length → (∀ e ∈ cB (cs.take i), CdOk i e) ∧ (cB (cs.take i)).length ≤ i
 |0,_=>⟨fun e he=>by simp[cB] at he,by simp[cB]⟩
 |i+1,hi=>by
  obtain ⟨c,hc⟩:∃c,cs[i]? = some c:=⟨_,aH2 (by omega)⟩;obtain ⟨h1,h2⟩:=rW h i (by omega);rw[qJ hc];exact ⟨aAf h1 (h c (List.mem_of_getElem? hc)),aII (WT _ _) (by omega)⟩
theorem F8 {out:List Cd} {c:Cd} (h:out.findIdx? (dH c)=none):VZ out c=out++[c]:=by unfold VZ;rw[h]
theorem xQ {out:List Cd} {c o:Cd} {i:Nat} (h:out.findIdx? (dH c)=some i) (ho:out[i]? = some o):VZ out c=out.set i (uO o c):=by
 unfold VZ;rw[h];show out.set i (uO (out.getD i c) c)=_;rw[aH4,ho];rfl
theorem S4 {out:List Cd} {c:Cd} {i:Nat} (h:out.findIdx? (dH c)=some i):i<out.length:=(List.findIdx?_eq_some_iff_findIdx_eq.1 h).1
def RI (c:Cd):Int × List UInt8:=(c.k,c.t)
theorem nR (c e:Cd):dH c e=true↔RI e=RI c:=by
 unfold dH RI;simp
def PlacesOf (m:List ((Int × List UInt8) × Int)) (out:List Cd):Prop:=∀c:Cd,m.lookup (RI c)=(out.findIdx? (dH c)).map fun i=>(i:Int)
theorem PlacesOf.nil:PlacesOf [] []:=fun _=>rfl
theorem PlacesOf.append {m:List ((Int × List UInt8) × Int)} {out:List Cd} {c:Cd} (h:PlacesOf m out) (hn:out.findIdx? (dH c)=none):PlacesOf ((RI c,(out.length:Int)) :: m) (out++[c]):=by
 intro d;by_cases hk:RI d=RI c
 ·have e1:dH d=dH c:=by
   funext e
   rw[Bool.eq_iff_iff,nR,nR,hk]
  have e2:dH c c=true:=(nR c c).2 rfl;rw[e1,List.findIdx?_append,hn,hk];simp[List.lookup,e2]
 ·have e2:dH d c=false:=by
   cases hs:dH d c with
   |false=>rfl
   |true=>exact absurd ((nR d c).1 hs).symm hk
  rw[List.findIdx?_append];have hb:(RI d==RI c)=false:=(by simpa using hk);simp only[List.lookup,hb,h d];cases out.findIdx? (dH d) with
  |none=>simp[e2]
  |some i=>simp
theorem PlacesOf.set {m:List ((Int × List UInt8) × Int)} {out:List Cd} {c o:Cd} {i:Nat} (h:PlacesOf m out) (ho:out[i]? = some o):PlacesOf m (out.set i (uO o c)):=by
 intro d;have aCT:∀(l:List Cd) (i:Nat) (o:Cd),l[i]? = some o→(l.set i (uO o c)).findIdx? (dH d)=l.findIdx? (dH d):=by
  intro l;induction l with
  |nil=>intro i o h;simp at h
  |cons y l ih=>
   intro i o ho;cases i with
   |zero=>simp only[aIq,Option.some.injEq] at ho;subst ho;rw[List.set_cons_zero,List.findIdx?_cons,List.findIdx?_cons];rfl
   |succ i=>rw[List.set_cons_succ,List.findIdx?_cons,List.findIdx?_cons,ih i o (by simpa using ho)]
 rw[h d,aCT out i o ho]
theorem WU {cs:List Bool} {W H:Nat} {t0:List UInt8} (h0:t0.length≤4) {ls:List Ltr} (h:∀l∈ls,l.text.length≤4):(cS cs W H t0 ls).1.length≤4:=by
 have key:∀(ls:List Ltr) (s:Best),(∀l∈ls,l.text.length≤4)→s.1.length≤4→(ls.foldl (cD cs W H) s).1.length≤4:=by
  intro ls;induction ls with
  |nil=>intro s _ h;exact h
  |cons l ls ih=>
   intro s hl hs;refine ih (cD cs W H s l) (fun x hx=>hl x (List.mem_cons_of_mem _ hx)) ?_;unfold cD;split
   ·exact hs
   ·split
    ·exact hl l (List.mem_cons_self ..)
    ·split<;>exact hs
 exact key ls _ h h0
def SnOk (s:Sn):Prop:=s.t.length≤4∧(-1≤s.d∧s.d≤32000000)∧(-1≤s.e∧s.e≤32000000)
theorem aAg {cs:List Bool} {bW bH:Nat} {ls:List Ltr} (hW:bW≤4000) (hH:bH≤4000) (hl:∀l∈ls,(l.W≤64∧l.H≤4000)∧l.text.length≤4) (X W H:Nat) (most ht:Int):∃s:Sn,cF (cS cs bW bH [] ls) X W H most ht=s.cells∧SnOk s:=by
 have hi:=CZ (cs:=cs) (W:=bW) (H:=bH) [] hW hH (ls:=ls) fun l h=>(hl l h).1;have ht:=WU (cs:=cs) (W:=bW) (H:=bH) (t0:=[]) (by simp) (ls:=ls) fun l h=>(hl l h).2;unfold cF;split
 ·exact ⟨⟨[63],X,0,W,H,-1,-1⟩,rfl,by unfold SnOk;simp⟩
 ·refine ⟨⟨_,X,0,W,H,_,_⟩,rfl,ht,?_,?_⟩
  ·show -1≤(cS cs bW bH [] ls).2.1∧(cS cs bW bH [] ls).2.1≤32000000;omega
  ·show -1≤(cS cs bW bH [] ls).2.2∧(cS cs bW bH [] ls).2.2≤32000000;omega
theorem S5 {bs : List Bool} {W H : Nat} {ls : List Ltr} {most ht gs : Int} {ps : List Piece} (hH : H ≤ 4000) (hl : ∀ l ∈ ls, (l.W ≤ 64 ∧ l.H ≤ 4000) ∧ l.text.length ≤ 4) (hp : ∀ p ∈ ps, p.2 ≤ 4000) : ∀ i, i ≤ ps.length → ∃ ss : List Sn, bK (gN bs W H ls most ht) gs H ps i = ss.map Sn.cells ∧ (∀ s ∈ ss, SnOk s) ∧ ss.length ≤ 2 * i
 |0,_=>⟨[],rfl,(fun s hs=>absurd hs (by simp)),Nat.zero_le _⟩
 |i+1,hi=>by
  obtain ⟨ss,e,hs,hn⟩:=S5 hH hl hp i (by omega);have hm:bJ ps i∈ps:=by
   unfold bJ;rw[aH4,aH2 (by omega)];exact List.getElem_mem _
  obtain ⟨s,hse,hso⟩:=aAg (cs:=fS (bJ ps i).2 H (iU bs W (bJ ps i).1 0)) (bW:=(bJ ps i).2) (bH:=H) (hp _ hm) hH hl (bJ ps i).1 (bJ ps i).2 H most ht;have RA:gN bs W H ls most ht (bJ ps i)=s.cells:=hse;have e2:bK (gN bs W H ls most ht) gs H ps (i+1)=bK (gN bs W H ls most ht) gs H ps i++(if 0<i∧gs≤jB ps i then [cU (nQ ps (i-1)) (jB ps i) H] else [])++[gN bs W H ls most ht (bJ ps i)]:=rfl;rw[RA,e] at e2;by_cases hc:0<i∧gs≤jB ps i
  ·rw[if_pos hc] at e2;refine ⟨ss++[⟨[32],nQ ps (i-1),0,jB ps i,H,0,-1⟩]++[s],?_,?_,?_⟩
   ·rw[e2,aIp,aIp];rfl
   ·intro x hx;rcases aIj.1 hx with hx|hx
    ·rcases aIj.1 hx with hx|hx
     ·exact hs x hx
     ·rw[aIn.1 hx];unfold SnOk;simp
    ·rw[aIn.1 hx];exact hso
   ·rw[aH5,aH5];simp;omega
  ·rw[if_neg hc] at e2;refine ⟨ss++[s],?_,?_,?_⟩
   ·rw[e2,aIp];simp
   ·intro x hx;rcases aIj.1 hx with hx|hx
    ·exact hs x hx
    ·rw[aIn.1 hx];exact hso
   ·rw[aH5];simp;omega
theorem WV (ss:List Sn):(ss.map Sn.cells).flatten=iN ss:=(List.flatMap_def ..).symm
end Go.Proofs.YtllefinciimffaaGreatDoor
namespace Go.Proofs
open Go.Shelf
def Tryz.laysSplitW_ren:Go.Shelf.Ren:=⟨fun|146=>62|221=>125|268=>170|138=>14|143=>73|195=>71|197=>229|218=>72|219=>133|260=>283|217=>173|225=>174|224=>175|267=>176|266=>231|314=>232|n=>n,fun|9=>9|31=>105|3=>3|4=>4|0=>0|105=>275|21=>21|5=>5|46=>233|119=>333|139=>347|138=>346|146=>278|51=>277|n=>n,fun|1=>0|3=>5|4=>6|n=>n⟩
theorem Tryz.laysSplitW : Go.Proofs.Lays.n146 Tryz.prog Tryz.laysSplitW_ren := {
 mixed:=by kernel_rfl
 f138:=Tryz.func14.trans (congrArg some (by kernel_rfl))
 f143:=Tryz.func73.trans (congrArg some (by kernel_rfl))
 f146:=Tryz.func62.trans (congrArg some (by kernel_rfl))
 f195:=Tryz.func71.trans (congrArg some (by kernel_rfl))
 f197:=Tryz.func229.trans (congrArg some (by kernel_rfl))
 f217:=Tryz.func173.trans (congrArg some (by kernel_rfl))
 f218:=Tryz.func72.trans (congrArg some (by kernel_rfl))
 f219:=Tryz.func133.trans (congrArg some (by kernel_rfl))
 f221:=Tryz.func125.trans (congrArg some (by kernel_rfl))
 f224:=Tryz.func175.trans (congrArg some (by kernel_rfl))
 f225:=Tryz.func174.trans (congrArg some (by kernel_rfl))
 f260:=Tryz.func283.trans (congrArg some (by kernel_rfl))
 f266:=Tryz.func231.trans (congrArg some (by kernel_rfl))
 f267:=Tryz.func176.trans (congrArg some (by kernel_rfl))
 f268:=Tryz.func170.trans (congrArg some (by kernel_rfl))
 f314:=Tryz.func232.trans (congrArg some (by kernel_rfl))
 t0:=Tryz.underlying0
 a0:=Tryz.isAgg0
 z0:=Tryz.sizeOf0
 v0:=Tryz.zeroValue0
 t3:=Tryz.underlying3
 a3:=Tryz.isAgg3
 z3:=Tryz.sizeOf3
 v3:=Tryz.zeroValue3
 t4:=Tryz.underlying4
 a4:=Tryz.isAgg4
 z4:=Tryz.sizeOf4
 v4:=Tryz.zeroValue4
 t5:=Tryz.underlying5
 a5:=Tryz.isAgg5
 z5:=Tryz.sizeOf5
 v5:=Tryz.zeroValue5
 t9:=Tryz.underlying9
 a9:=Tryz.isAgg9
 z9:=Tryz.sizeOf9
 v9:=Tryz.zeroValue9
 t21:=Tryz.underlying21
 a21:=Tryz.isAgg21
 z21:=Tryz.sizeOf21
 v21:=Tryz.zeroValue21
 t31:=Tryz.underlying105
 a31:=Tryz.isAgg105
 z31:=Tryz.sizeOf105
 v31:=Tryz.zeroValue105
 t46:=Tryz.underlying233
 a46:=Tryz.isAgg233
 z46:=Tryz.sizeOf233
 v46:=Tryz.zeroValue233
 t51:=Tryz.underlying277
 a51:=Tryz.isAgg277
 z51:=Tryz.sizeOf277
 v51:=Tryz.zeroValue277
 t105:=Tryz.underlying275
 a105:=Tryz.isAgg275
 z105:=Tryz.sizeOf275
 v105:=Tryz.zeroValue275
 t119:=Tryz.underlying333
 a119:=Tryz.isAgg333
 z119:=Tryz.sizeOf333
 t138:=Tryz.underlying346
 a138:=Tryz.isAgg346
 z138:=Tryz.sizeOf346
 v138:=Tryz.zeroValue346
 t139:=Tryz.underlying347
 a139:=Tryz.isAgg347
 z139:=Tryz.sizeOf347
 v139:=Tryz.zeroValue347
 t146:=Tryz.underlying278
 a146:=Tryz.isAgg278
 z146:=Tryz.sizeOf278
 v146:=Tryz.zeroValue278
 g1:=by kernel_rfl
 g3:=by kernel_rfl
 g4:=by kernel_rfl }
end Go.Proofs
namespace Go.Proofs.YtllefinciimffaaGreatDoor
open Go.RowKit Go.Shelf
def SplitOk (w:World):Prop:=∃m:Int,w.cell? ⟨Tryz.laysSplitW_ren.g 1,0,none⟩=some (.int .i64 m)
theorem SplitOk.bl {w w':World} (h:SplitOk w) (hb:Bl w w'):SplitOk w':=let ⟨m,hm⟩:=h;⟨m,hb.at hm⟩
theorem BA (t:List UInt8) (w:World) (hs:t.length<4294967281) (hC:SplitOk w) :
 Calls Tryz.prog 62 #[t,.string ⟨#[32]⟩] w fun e w'=>∃c,e=.returned (.slice (some ⟨w.heap.size,0,none⟩) (cL t).length c)∧Reads w' 1 (some ⟨w.heap.size,0,none⟩) (cL t).length (bR (cL t))∧Bl w w':=by
 obtain ⟨m,hm⟩:=hC;have hd:=Lib.splitB_data ⟨#[32]⟩ 0 (Lib.countB ⟨t.toArray⟩ ⟨#[32]⟩) ⟨t.toArray⟩;have hl:=Lib.splitB_all ⟨#[32]⟩ (by decide) 0 _ ⟨t.toArray⟩ rfl;have hw:(Lib.splitB ⟨#[32]⟩ 0 (Lib.countB ⟨t.toArray⟩ ⟨#[32]⟩) ⟨t.toArray⟩).map (·.data.toList)=cL t:=hd;have cT:(cL t).length=Lib.countB ⟨t.toArray⟩ ⟨#[32]⟩+1:=(by rw[←hw,aH6,hl]);have hc:(Lib.splitB ⟨#[32]⟩ 0 (Lib.countB ⟨t.toArray⟩ ⟨#[32]⟩) ⟨t.toArray⟩).map Value.string=bR (cL t):=by
  rw[←hw];unfold bR;rw[List.map_map];refine List.map_congr_left fun x _ => ?_;show Value.string x=Value.string ⟨x.data.toList.toArray⟩;cases x
  simp
 have h:=Any.strings_Split Tryz.laysSplitW MK ⟨t.toArray⟩ ⟨#[32]⟩ m w (by rw[Lib.size_mk];exact hs) hm (by decide);refine Calls.mono (R:=fun e w'=>e=.returned (.slice (some ⟨w.heap.size,0,none⟩) (Lib.countB ⟨t.toArray⟩ ⟨#[32]⟩+1) (Lib.countB ⟨t.toArray⟩ ⟨#[32]⟩+1))∧w'=w.alloc (.cells ((Lib.splitB ⟨#[32]⟩ 0 (Lib.countB ⟨t.toArray⟩ ⟨#[32]⟩) ⟨t.toArray⟩).map Value.string).toArray 9)) h ?_;rintro e w' ⟨rfl,rfl⟩;refine ⟨_,by rw[cT],?_,(Bl.refl _).alloc _⟩;rw[hc];have hb:=Blk.new w 9 (bR (cL t)).toArray;have hr:=hb.reads (cL t).length 1 (by simp[bR]);simpa using hr
theorem J1:∃g,g=Tryz.lays145_ren.g 1∧∀(m:Int) (w:World),w.cell? ⟨g,0,none⟩=some (.int .i64 m)→w.cell? ⟨Tryz.laysSplitW_ren.g 1,0,none⟩=some (.int .i64 m):=by
 have e:Tryz.laysSplitW_ren.g 1=Tryz.lays145_ren.g 1:=(by kernel_rfl);exact ⟨_,rfl,fun m w h=>by rw[e];exact h⟩
theorem CutOk.split {w:World} (h:CutOk w):SplitOk w:=by
 obtain ⟨m,hm⟩:=h;obtain ⟨g,rfl,hg⟩:=J1;exact ⟨m,hg m w hm⟩
end Go.Proofs.YtllefinciimffaaGreatDoor
namespace Go.Proofs.YtllefinciimffaaGreatDoor
open Go.ChangeShapes Go.WideShapes Go.ChangeAt Go.RowKit Go.Joins Go.Shelf
section
variable {H:Type} {enc:TypeId × Value→H}
end
theorem jG (s:ByteArray):∃l:List UInt8,s=⟨l.toArray⟩:=⟨s.data.toList,by cases s;simp⟩
end Go.Proofs.YtllefinciimffaaGreatDoor
