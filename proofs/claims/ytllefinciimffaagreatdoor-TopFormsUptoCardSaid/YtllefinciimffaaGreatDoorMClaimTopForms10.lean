import Derived.Test.YtllefinciimffaaGreatDoorMClaimTopForms9
import Derived.Lib.SlBy
import Derived.Shelf.Strings.Split
import Derived.HandedShaped
set_option maxHeartbeats 20000000
namespace Go.Proofs.YtllefinciimffaaGreatDoor
open Go.RowKit
structure Pg where
 W:Int
 H:Int
 A:Option Addr
 m:Nat
 c:Nat
 bs:List Bool
def Pg.cells (p:Pg):List Value:=[.int .i64 p.W,.int .i64 p.H,.slice p.A p.m p.c]
def Pg.val (p:Pg):Value:=.agg #[p.W,p.H,.slice p.A p.m p.c]
def L5 (ps:List Pg):List Value:=ps.flatMap Pg.cells
theorem RN {ps:List Pg} {i:Nat} {p:Pg} (h:ps[i]? = some p) (j:Nat) (hj:j<3):(L5 ps)[i*3+j]? = p.cells[j]?:=by
 induction ps generalizing i with
 |nil=>simp at h
 |cons x ps ih=>
  unfold L5;rw[aMi];rcases i with _|i
  ·simp only[aLT,Option.some.injEq] at h;subst h;rw[aLE (by show 0*3+j<3;omega)];simp
  ·rw[aLD (by show 3≤(i+1)*3+j;omega)];have e:(i+1)*3+j-x.cells.length=i*3+j:=by
    show (i+1)*3+j-3=i*3+j;omega
   rw[e];exact ih (by simpa using h)
def PgsAt (w:World) (S:Option Addr) (ps:List Pg):Prop:=Reads w 3 S ps.length (L5 ps)∧∀p∈ps,Reads w 1 p.A p.m (p.bs.map .bool)
theorem PgsAt.bl {w w':World} {S:Option Addr} {ps:List Pg} (h:PgsAt w S ps) (hb:Bl w w'):PgsAt w' S ps:=⟨h.1.bl hb,fun p hp=>(h.2 p hp).bl hb⟩
theorem PgsAt.at_ {w:World} {S:Option Addr} {ps:List Pg} {i:Nat} {p:Pg} (h:PgsAt w S ps) (hi:ps[i]? = some p):∃ad,S=some ad∧w.cell? (ad.add (i*3))=some (.int .i64 p.W)∧w.cell? ⟨(ad.add (i*3)).block,(ad.add (i*3)).off+1,none⟩=some (.int .i64 p.H) ∧
 w.cell? ⟨(ad.add (i*3)).block,(ad.add (i*3)).off+2,none⟩=some (.slice p.A p.m p.c):=by
 have hlt:i<ps.length:=(aLw.1 hi).1;obtain ⟨ad,e,hc⟩:=h.1.2 (by omega);have key:∀j v,j<3→p.cells[j]? = some v→w.cell? ((ad.add (i*3)).add j)=some v:=fun j v hj hv=>by
  rw[cY];exact hc _ _ (by rw[RN hi j hj];exact hv)
 have k0:=key 0 _ (by omega) rfl;have k1:=key 1 _ (by omega) rfl;have k2:=key 2 _ (by omega) rfl;rw[Addr.add_zero'] at k0;rw[Addr.add_succ'] at k1 k2;exact ⟨ad,e,k0,k1,k2⟩
def Ltr.key (l:Ltr):List UInt8 × Int × Int × Int × Nat × List Bool:=(l.text,aD l.W l.H l.m,if aD l.W l.H l.m=0 then (l.W,l.H,l.m,l.bs) else (0,0,0,[]))
abbrev Key:=List UInt8 × Int × Int × Int × Nat × List Bool
def Ltr.zero:Ltr:=⟨[],0,0,none,0,0,[]⟩
def v7 (o c:Cd):Cd:=⟨o.k,o.t,min o.X c.X,min o.Y c.Y,max (o.X+o.W) (c.X+c.W)-min o.X c.X,o.n+c.n⟩
def UL (out:List Cd) (c:Cd):List Cd:=match out.findIdx? (eL c) with
 |none=>out++[c]
 |some i=>out.set i (v7 (out.getD i c) c)
def cS (cs:List Cd):List Cd:=cs.foldl UL []
theorem yP {cs:List Cd} {i:Nat} {c:Cd} (h:cs[i]? = some c):cS (cs.take (i+1))=UL (cS (cs.take i)) c:=by
 unfold cS;rw[aMc,h,List.foldl_append];rfl
def CdOk (N:Nat) (e:Cd):Prop:=(e.k=1∨e.k=2)∧0≤e.X∧e.X≤4000∧0≤e.Y∧e.Y≤4000∧0≤e.W∧e.X+e.W≤8000∧1≤e.n∧e.n≤(N:Int)*1000000∧e.t.length≤9223372036854775807
theorem CdOk.mono {N M:Nat} {e:Cd} (h:CdOk N e) (hm:N≤M):CdOk M e:=by
 obtain ⟨a,b,c,d,e',f,g,h1,h2,h3⟩:=h;exact ⟨a,b,c,d,e',f,g,h1,by omega,h3⟩
theorem yQ {c:Cd} (h:gT c=0) (ht:c.t.length≤9223372036854775807):CdOk 1 c:=by
 unfold gT at h;by_cases hk:c.k≠1∧c.k≠2
 ·rw[if_pos hk] at h;cases h
 ·rw[if_neg hk] at h;cases hr:jS c with
  |false=>rw[hr] at h;cases h
  |true=>unfold jS inB at hr;simp only[aLV,decide_eq_true_eq] at hr;exact ⟨by omega,by omega,by omega,by omega,by omega,by omega,by omega,by omega,by omega,ht⟩
theorem VQ {N:Nat} {o c:Cd} (ho:CdOk N o) (hc:CdOk 1 c):CdOk (N+1) (v7 o c):=by
 obtain ⟨a,b,c',d,e',f,g,h1,h2,h3⟩:=ho;obtain ⟨a2,b2,c2,d2,e2,f2,g2,h4,h5,h6⟩:=hc;exact ⟨a,by show 0≤min _ _;omega,by show min _ _≤_;omega,by show 0≤min _ _;omega,by show min _ _≤_;omega,by show 0≤max _ _-min _ _;omega,by show min _ _+(max _ _-min _ _)≤_;omega,by show 1≤o.n+c.n;omega,by show o.n+c.n≤_;omega,h3⟩
theorem aCW {N:Nat} {out:List Cd} {c:Cd} (ho:∀e∈out,CdOk N e) (hc:CdOk 1 c):∀e∈UL out c,CdOk (N+1) e:=by
 intro e he;unfold UL at he;cases hf:out.findIdx? (eL c) with
 |none=>
  rw[hf] at he;rcases aLM.1 he with he|he
  ·exact (ho e he).mono (by omega)
  ·rw[aLQ.1 he];exact hc.mono (by omega)
 |some i=>
  rw[hf] at he;have hi:i<out.length:=(List.findIdx?_eq_some_iff_findIdx_eq.1 hf).1;rcases List.mem_or_eq_of_mem_set he with he|rfl
  ·exact (ho e he).mono (by omega)
  ·refine VQ ?_ hc;rw[aLx,aLv hi];exact ho _ (List.getElem_mem hi)
theorem aAy (out:List Cd) (c:Cd):(UL out c).length≤out.length+1:=by
 unfold UL;cases out.findIdx? (eL c) with
 |none=>simp
 |some i=>simp
theorem yR {cs : List Cd} (h : ∀ c ∈ cs, CdOk 1 c) : ∀ i, i ≤ cs.length → (∀ e ∈ cS (cs.take i), CdOk i e) ∧ (cS (cs.take i)).length ≤ i
 |0,_=>⟨fun e he=>by simp[cS] at he,by simp[cS]⟩
 |i+1,hi=>by
  obtain ⟨c,hc⟩:∃c,cs[i]? = some c:=⟨_,aLv (by omega)⟩;obtain ⟨h1,h2⟩:=yR h i (by omega);rw[yP hc];exact ⟨aCW h1 (h c (List.mem_of_getElem? hc)),aMb (aAy _ _) (by omega)⟩
theorem VR {out:List Cd} {c:Cd} (h:out.findIdx? (eL c)=none):UL out c=out++[c]:=by unfold UL;rw[h]
theorem yS {out:List Cd} {c o:Cd} {i:Nat} (h:out.findIdx? (eL c)=some i) (ho:out[i]? = some o):UL out c=out.set i (v7 o c):=by
 unfold UL;rw[h];show out.set i (v7 (out.getD i c) c)=_;rw[aLx,ho];rfl
theorem aCX {out:List Cd} {c:Cd} {i:Nat} (h:out.findIdx? (eL c)=some i):i<out.length:=(List.findIdx?_eq_some_iff_findIdx_eq.1 h).1
def UM (c:Cd):Int × List UInt8:=(c.k,c.t)
theorem oB (c e:Cd):eL c e=true↔UM e=UM c:=by
 unfold eL UM;simp
def PlacesOf (m:List ((Int × List UInt8) × Int)) (out:List Cd):Prop:=∀c:Cd,m.lookup (UM c)=(out.findIdx? (eL c)).map fun i=>(i:Int)
theorem PlacesOf.nil:PlacesOf [] []:=fun _=>rfl
theorem PlacesOf.append {m:List ((Int × List UInt8) × Int)} {out:List Cd} {c:Cd} (h:PlacesOf m out) (hn:out.findIdx? (eL c)=none):PlacesOf ((UM c,(out.length:Int)) :: m) (out++[c]):=by
 intro d;by_cases hk:UM d=UM c
 ·have e1:eL d=eL c:=by
   funext e
   rw[Bool.eq_iff_iff,oB,oB,hk]
  have e2:eL c c=true:=(oB c c).2 rfl;rw[e1,List.findIdx?_append,hn,hk];simp[List.lookup,e2]
 ·have e2:eL d c=false:=by
   cases hs:eL d c with
   |false=>rfl
   |true=>exact absurd ((oB d c).1 hs).symm hk
  rw[List.findIdx?_append];have hb:(UM d==UM c)=false:=(by simpa using hk);simp only[List.lookup,hb,h d];cases out.findIdx? (eL d) with
  |none=>simp[e2]
  |some i=>simp
theorem PlacesOf.set {m:List ((Int × List UInt8) × Int)} {out:List Cd} {c o:Cd} {i:Nat} (h:PlacesOf m out) (ho:out[i]? = some o):PlacesOf m (out.set i (v7 o c)):=by
 intro d;have aF1:∀(l:List Cd) (i:Nat) (o:Cd),l[i]? = some o→(l.set i (v7 o c)).findIdx? (eL d)=l.findIdx? (eL d):=by
  intro l;induction l with
  |nil=>intro i o h;simp at h
  |cons y l ih=>
   intro i o ho;cases i with
   |zero=>simp only[aLT,Option.some.injEq] at ho;subst ho;rw[List.set_cons_zero,List.findIdx?_cons,List.findIdx?_cons];rfl
   |succ i=>rw[List.set_cons_succ,List.findIdx?_cons,List.findIdx?_cons,ih i o (by simpa using ho)]
 rw[h d,aF1 out i o ho]
end Go.Proofs.YtllefinciimffaaGreatDoor
namespace Go.Proofs
open Go.Shelf
def Tryz.laysSplitW_ren:Go.Shelf.Ren:=⟨fun|146=>62|221=>125|268=>170|138=>14|143=>73|195=>71|197=>229|218=>72|219=>133|260=>283|217=>173|225=>174|224=>175|267=>176|266=>231|314=>232|n=>n,fun|9=>9|31=>105|3=>3|4=>4|0=>0|105=>275|21=>21|5=>5|46=>233|119=>333|139=>347|138=>346|146=>278|51=>277|n=>n,fun|1=>0|3=>5|4=>6|n=>n⟩
theorem Tryz.laysSplitW : Go.Proofs.Lays.n146 Tryz.prog Tryz.laysSplitW_ren := {
 mixed:=by kernel_rfl
 f138:=Tryz.func14.trans (congrArg some (by kernel_rfl))
 f143:=Tryz.func73.trans (congrArg some (by kernel_rfl))
 f146:=Tryz.func62.trans (congrArg some (by kernel_rfl))
 f195:=Tryz.func71.trans (congrArg some (by kernel_rfl))
 f197:=Tryz.func229.trans (congrArg some (by kernel_rfl))
 f217:=Tryz.func173.trans (congrArg some (by kernel_rfl))
 f218:=Tryz.func72.trans (congrArg some (by kernel_rfl))
 f219:=Tryz.func133.trans (congrArg some (by kernel_rfl))
 f221:=Tryz.func125.trans (congrArg some (by kernel_rfl))
 f224:=Tryz.func175.trans (congrArg some (by kernel_rfl))
 f225:=Tryz.func174.trans (congrArg some (by kernel_rfl))
 f260:=Tryz.func283.trans (congrArg some (by kernel_rfl))
 f266:=Tryz.func231.trans (congrArg some (by kernel_rfl))
 f267:=Tryz.func176.trans (congrArg some (by kernel_rfl))
 f268:=Tryz.func170.trans (congrArg some (by kernel_rfl))
 f314:=Tryz.func232.trans (congrArg some (by kernel_rfl))
 t0:=Tryz.underlying0
 a0:=Tryz.isAgg0
 z0:=Tryz.sizeOf0
 v0:=Tryz.zeroValue0
 t3:=Tryz.underlying3
 a3:=Tryz.isAgg3
 z3:=Tryz.sizeOf3
 v3:=Tryz.zeroValue3
 t4:=Tryz.underlying4
 a4:=Tryz.isAgg4
 z4:=Tryz.sizeOf4
 v4:=Tryz.zeroValue4
 t5:=Tryz.underlying5
 a5:=Tryz.isAgg5
 z5:=Tryz.sizeOf5
 v5:=Tryz.zeroValue5
 t9:=Tryz.underlying9
 a9:=Tryz.isAgg9
 z9:=Tryz.sizeOf9
 v9:=Tryz.zeroValue9
 t21:=Tryz.underlying21
 a21:=Tryz.isAgg21
 z21:=Tryz.sizeOf21
 v21:=Tryz.zeroValue21
 t31:=Tryz.underlying105
 a31:=Tryz.isAgg105
 z31:=Tryz.sizeOf105
 v31:=Tryz.zeroValue105
 t46:=Tryz.underlying233
 a46:=Tryz.isAgg233
 z46:=Tryz.sizeOf233
 v46:=Tryz.zeroValue233
 t51:=Tryz.underlying277
 a51:=Tryz.isAgg277
 z51:=Tryz.sizeOf277
 v51:=Tryz.zeroValue277
 t105:=Tryz.underlying275
 a105:=Tryz.isAgg275
 z105:=Tryz.sizeOf275
 v105:=Tryz.zeroValue275
 t119:=Tryz.underlying333
 a119:=Tryz.isAgg333
 z119:=Tryz.sizeOf333
 t138:=Tryz.underlying346
 a138:=Tryz.isAgg346
 z138:=Tryz.sizeOf346
 v138:=Tryz.zeroValue346
 t139:=Tryz.underlying347
 a139:=Tryz.isAgg347
 z139:=Tryz.sizeOf347
 v139:=Tryz.zeroValue347
 t146:=Tryz.underlying278
 a146:=Tryz.isAgg278
 z146:=Tryz.sizeOf278
 v146:=Tryz.zeroValue278
 g1:=by kernel_rfl
 g3:=by kernel_rfl
 g4:=by kernel_rfl }
end Go.Proofs
namespace Go.Proofs.YtllefinciimffaaGreatDoor
open Go.RowKit Go.Shelf
def SplitOk (w:World):Prop:=∃m:Int,w.cell? ⟨Tryz.laysSplitW_ren.g 1,0,none⟩=some (.int .i64 m)
theorem SplitOk.bl {w w':World} (h:SplitOk w) (hb:Bl w w'):SplitOk w':=let ⟨m,hm⟩:=h;⟨m,hb.at hm⟩
theorem RO (t:List UInt8) (w:World) (hs:t.length<4294967281) (hC:SplitOk w) :
 Calls Tryz.prog 62 #[t,.string ⟨#[32]⟩] w fun e w'=>∃c,e=.returned (.slice (some ⟨w.heap.size,0,none⟩) (cV t).length c)∧Reads w' 1 (some ⟨w.heap.size,0,none⟩) (cV t).length (bE (cV t))∧Bl w w':=by
 obtain ⟨m,hm⟩:=hC;have hd:=Lib.splitB_data ⟨#[32]⟩ 0 (Lib.countB ⟨t.toArray⟩ ⟨#[32]⟩) ⟨t.toArray⟩;have hl:=Lib.splitB_all ⟨#[32]⟩ (by decide) 0 _ ⟨t.toArray⟩ rfl;have hw:(Lib.splitB ⟨#[32]⟩ 0 (Lib.countB ⟨t.toArray⟩ ⟨#[32]⟩) ⟨t.toArray⟩).map (·.data.toList)=cV t:=hd;have cL:(cV t).length=Lib.countB ⟨t.toArray⟩ ⟨#[32]⟩+1:=(by rw[←hw,aLz,hl]);have hc:(Lib.splitB ⟨#[32]⟩ 0 (Lib.countB ⟨t.toArray⟩ ⟨#[32]⟩) ⟨t.toArray⟩).map Value.string=bE (cV t):=by
  rw[←hw];unfold bE;rw[aMg];refine List.map_congr_left fun x _ => ?_;show Value.string x=Value.string ⟨x.data.toList.toArray⟩;cases x
  simp
 have h:=Any.strings_Split Tryz.laysSplitW EL ⟨t.toArray⟩ ⟨#[32]⟩ m w (by rw[Lib.size_mk];exact hs) hm (by decide);refine Calls.mono (R:=fun e w'=>e=.returned (.slice (some ⟨w.heap.size,0,none⟩) (Lib.countB ⟨t.toArray⟩ ⟨#[32]⟩+1) (Lib.countB ⟨t.toArray⟩ ⟨#[32]⟩+1))∧w'=w.alloc (.cells ((Lib.splitB ⟨#[32]⟩ 0 (Lib.countB ⟨t.toArray⟩ ⟨#[32]⟩) ⟨t.toArray⟩).map Value.string).toArray 9)) h ?_;rintro e w' ⟨rfl,rfl⟩;refine ⟨_,by rw[cL],?_,(Bl.refl _).alloc _⟩;rw[hc];have hb:=Blk.new w 9 (bE (cV t)).toArray;have hr:=hb.reads (cV t).length 1 (by simp[bE]);simpa using hr
theorem L6:∃g,g=Tryz.lays145_ren.g 1∧∀(m:Int) (w:World),w.cell? ⟨g,0,none⟩=some (.int .i64 m)→w.cell? ⟨Tryz.laysSplitW_ren.g 1,0,none⟩=some (.int .i64 m):=by
 have e:Tryz.laysSplitW_ren.g 1=Tryz.lays145_ren.g 1:=(by kernel_rfl);exact ⟨_,rfl,fun m w h=>by rw[e];exact h⟩
theorem CutOk.split {w:World} (h:CutOk w):SplitOk w:=by
 obtain ⟨m,hm⟩:=h;obtain ⟨g,rfl,hg⟩:=L6;exact ⟨m,hg m w hm⟩
theorem OT {nm:Bool} {ht gap sp:Int} {ls:List Ltr} (h:bN nm ht gap sp ls=0):∃ht' gap' sp':Nat,ht=(ht':Int)∧gap=(gap':Int)∧sp=(sp':Int)∧Right ht' gap' sp' ls:=by
 obtain ⟨⟨-,hrg,hgs,hl0,hl2,h1,h2⟩,hl⟩:=kD h;have aJJ:1≤gap∧gap≤16∧1≤sp∧sp≤64:=by
  unfold fY at hrg;simp only[aLV] at hrg;have h1:=aR.1 hrg.2.1;have h2:=aR.1 hrg.2.2;exact ⟨h1.1,h1.2,h2.1,h2.2⟩
 obtain ⟨ht',rfl⟩:∃n:Nat,ht=(n:Int):=⟨ht.toNat,by omega⟩;obtain ⟨gap',rfl⟩:∃n:Nat,gap=(n:Int):=⟨gap.toNat,by omega⟩;obtain ⟨sp',rfl⟩:∃n:Nat,sp=(n:Int):=⟨sp.toNat,by omega⟩;have key:∀k (hk:k<ls.length),(ls[k]'hk).W=(eZ ls k:Int)∧1≤eZ ls k∧eZ ls k≤64∧(ls[k]'hk).H=(ht':Int)∧(ls[k]'hk).m=eZ ls k*ht'∧o0 (ls[k]'hk).text=true:=fun k hk=>by
  obtain ⟨a1,a2,a3,a4⟩:=hl _ (List.getElem_mem hk);obtain ⟨W,H,e1,e2,e3,-,-,-⟩:=fG a2;have hsz:=aL (fC a2).1;have hw:eZ ls k=W:=(by rw[LT (aLv hk),e1];rfl);have hh:H=ht':=(by rw[e2] at a3;omega);rw[hw];refine ⟨e1,by omega,by omega,a3,by rw[e3,hh],a1⟩
 refine ⟨ht',gap',sp',rfl,rfl,rfl,⟨?_,by omega,by omega,by omega,by omega,by omega,fun k hk=>⟨(key k hk).1,(key k hk).2.1,(key k hk).2.2.1⟩,fun k hk=>(key k hk).2.2.2.1,fun k hk=>(key k hk).2.2.2.2.1⟩⟩;intro k hk;have ht:=(key k hk).2.2.2.2.2;rw[tB (aLv hk)];unfold o0 at ht;simp only[aLV,decide_eq_true_eq] at ht;refine ⟨ht.2.1,ht.2.2,fun b hb e => ?_⟩;have:=ht.1 b hb;rw[e] at this;exact absurd this.1 (by decide)
theorem aCY {w:World} {L:Option Addr} {ls:List Ltr} (h:LtrsAt w L ls) (hn:1≤ls.length):∃adl,L=some adl:=by
 obtain ⟨ad,e,-⟩:=h.1.2 (by omega);exact ⟨ad,e⟩
def pP (fe:Int) (ls:List Ltr) (ht gap sp:Int) (t:List UInt8):Int:=if fe=0 then jN ls ht.toNat gap.toNat sp.toNat t else fe
end Go.Proofs.YtllefinciimffaaGreatDoor
namespace Go.Proofs.YtllefinciimffaaGreatDoor
open Go.RowKit
def BadForm (t:List UInt8):Prop:=(∃r,t=32 :: r)∨(∃p,t=p++[32])∨∃p r,t=p++32 :: 32 :: r
theorem aAz {t:List UInt8} (h:lR t=false):¬BadForm t:=by
 rintro (⟨r,e⟩|⟨p,e⟩|⟨p,r,e⟩)
 ·exact OO h e rfl
 ·exact VJ h e
 ·exact OP h e
theorem aAA {cs:List Bool} {W H:Nat} {t0:List UInt8} (h0:t0.length≤4) {ls:List Ltr} (h:∀l∈ls,l.text.length≤4):(cQ cs W H t0 ls).1.length≤4:=by
 have key:∀(ls:List Ltr) (s:Best),(∀l∈ls,l.text.length≤4)→s.1.length≤4→(ls.foldl (cZ cs W H) s).1.length≤4:=by
  intro ls;induction ls with
  |nil=>intro s _ h;exact h
  |cons l ls ih=>
   intro s hl hs;refine ih (cZ cs W H s l) (fun x hx=>hl x (List.mem_cons_of_mem _ hx)) ?_;unfold cZ;split
   ·exact hs
   ·split
    ·exact hl l (List.mem_cons_self ..)
    ·split<;>exact hs
 exact key ls _ h h0
def SnOk (s:Sn):Prop:=s.t.length≤4∧(-1≤s.d∧s.d≤32000000)∧(-1≤s.e∧s.e≤32000000)
theorem aCZ {cs:List Bool} {bW bH:Nat} {ls:List Ltr} (hW:bW≤4000) (hH:bH≤4000) (hl:∀l∈ls,(l.W≤64∧l.H≤4000)∧l.text.length≤4) (X W H:Nat) (most ht:Int):∃s:Sn,dD (cQ cs bW bH [] ls) X W H most ht=s.cells∧SnOk s:=by
 have hi:=OD (cs:=cs) (W:=bW) (H:=bH) [] hW hH (ls:=ls) fun l h=>(hl l h).1;have ht:=aAA (cs:=cs) (W:=bW) (H:=bH) (t0:=[]) (by simp) (ls:=ls) fun l h=>(hl l h).2;unfold dD;split
 ·exact ⟨⟨[63],X,0,W,H,-1,-1⟩,rfl,by unfold SnOk;simp⟩
 ·refine ⟨⟨_,X,0,W,H,_,_⟩,rfl,ht,?_,?_⟩
  ·show -1≤(cQ cs bW bH [] ls).2.1∧(cQ cs bW bH [] ls).2.1≤32000000;omega
  ·show -1≤(cQ cs bW bH [] ls).2.2∧(cQ cs bW bH [] ls).2.2≤32000000;omega
theorem VS {bs : List Bool} {W H : Nat} {ls : List Ltr} {most ht gs : Int} {ps : List Piece} (hH : H ≤ 4000) (hl : ∀ l ∈ ls, (l.W ≤ 64 ∧ l.H ≤ 4000) ∧ l.text.length ≤ 4) (hp : ∀ p ∈ ps, p.2 ≤ 4000) : ∀ i, i ≤ ps.length → ∃ ss : List Sn, cC (iR bs W H ls most ht) gs H ps i = ss.map Sn.cells ∧ (∀ s ∈ ss, SnOk s) ∧ ss.length ≤ 2 * i
 |0,_=>⟨[],rfl,(fun s hs=>absurd hs (by simp)),Nat.zero_le _⟩
 |i+1,hi=>by
  obtain ⟨ss,e,hs,hn⟩:=VS hH hl hp i (by omega);have hm:bD ps i∈ps:=by
   unfold bD;rw[aLx,aLv (by omega)];exact List.getElem_mem _
  obtain ⟨s,hse,hso⟩:=aCZ (cs:=eS (bD ps i).2 H (kR bs W (bD ps i).1 0)) (bW:=(bD ps i).2) (bH:=H) (hp _ hm) hH hl (bD ps i).1 (bD ps i).2 H most ht;have QM:iR bs W H ls most ht (bD ps i)=s.cells:=hse;have e2:cC (iR bs W H ls most ht) gs H ps (i+1)=cC (iR bs W H ls most ht) gs H ps i++(if 0<i∧gs≤iX ps i then [d8 (kV ps (i-1)) (iX ps i) H] else [])++[iR bs W H ls most ht (bD ps i)]:=rfl;rw[QM,e] at e2;by_cases hc:0<i∧gs≤iX ps i
  ·rw[if_pos hc] at e2;refine ⟨ss++[⟨[32],kV ps (i-1),0,iX ps i,H,0,-1⟩]++[s],?_,?_,?_⟩
   ·rw[e2,aLS,aLS];rfl
   ·intro x hx;rcases aLM.1 hx with hx|hx
    ·rcases aLM.1 hx with hx|hx
     ·exact hs x hx
     ·rw[aLQ.1 hx];unfold SnOk;simp
    ·rw[aLQ.1 hx];exact hso
   ·rw[aLy,aLy];simp;omega
  ·rw[if_neg hc] at e2;refine ⟨ss++[s],?_,?_,?_⟩
   ·rw[e2,aLS];simp
   ·intro x hx;rcases aLM.1 hx with hx|hx
    ·exact hs x hx
    ·rw[aLQ.1 hx];exact hso
   ·rw[aLy];simp;omega
theorem aAB (ss:List Sn):(ss.map Sn.cells).flatten=n8 ss:=(List.flatMap_def ..).symm
end Go.Proofs.YtllefinciimffaaGreatDoor
namespace Go.Proofs.YtllefinciimffaaGreatDoor
open Go.ChangeShapes Go.WideShapes Go.ChangeAt Go.RowKit Go.Joins Go.Shelf
section
variable {H:Type} {enc:TypeId × Value→H}
end
theorem iY (s:ByteArray):∃l:List UInt8,s=⟨l.toArray⟩:=⟨s.data.toList,by cases s;simp⟩
end Go.Proofs.YtllefinciimffaaGreatDoor
