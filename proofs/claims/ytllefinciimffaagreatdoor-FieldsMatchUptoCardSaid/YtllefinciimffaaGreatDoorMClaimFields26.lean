import Derived.Test.YtllefinciimffaaGreatDoorMClaimFields17
import Derived.Shelf.Strings.Fields
import Derived.Shelf.SlicesG.Turned
set_option maxHeartbeats 20000000
set_option maxRecDepth 100000
namespace Go.Proofs
open Go.Shelf
def Tryz.lays157_ren:Go.Shelf.Ren:=⟨fun|157=>267|229=>311|199=>312|261=>337|311=>345|312=>346|n=>n,fun|9=>9|31=>105|3=>3|5=>5|4=>4|119=>333|0=>0|40=>181|152=>355|21=>21|154=>357|51=>277|141=>359|196=>377|193=>374|198=>380|49=>378|194=>375|201=>383|226=>385|46=>233|227=>386|n=>n,fun|0=>2|6=>7|n=>n⟩
theorem Tryz.lays157 : Go.Proofs.Lays.n157 Tryz.prog Tryz.lays157_ren := {
 mixed:=by kernel_rfl
 f157:=Tryz.func267.trans (congrArg some (by kernel_rfl))
 f199:=Tryz.func312.trans (congrArg some (by kernel_rfl))
 f229:=Tryz.func311.trans (congrArg some (by kernel_rfl))
 f261:=Tryz.func337.trans (congrArg some (by kernel_rfl))
 f311:=Tryz.func345.trans (congrArg some (by kernel_rfl))
 f312:=Tryz.func346.trans (congrArg some (by kernel_rfl))
 t0:=Tryz.underlying0
 a0:=Tryz.isAgg0
 z0:=Tryz.sizeOf0
 v0:=Tryz.zeroValue0
 t3:=Tryz.underlying3
 a3:=Tryz.isAgg3
 z3:=Tryz.sizeOf3
 v3:=Tryz.zeroValue3
 t4:=Tryz.underlying4
 a4:=Tryz.isAgg4
 z4:=Tryz.sizeOf4
 v4:=Tryz.zeroValue4
 t5:=Tryz.underlying5
 a5:=Tryz.isAgg5
 z5:=Tryz.sizeOf5
 v5:=Tryz.zeroValue5
 t9:=Tryz.underlying9
 a9:=Tryz.isAgg9
 z9:=Tryz.sizeOf9
 v9:=Tryz.zeroValue9
 t21:=Tryz.underlying21
 a21:=Tryz.isAgg21
 z21:=Tryz.sizeOf21
 v21:=Tryz.zeroValue21
 t31:=Tryz.underlying105
 a31:=Tryz.isAgg105
 z31:=Tryz.sizeOf105
 v31:=Tryz.zeroValue105
 t40:=Tryz.underlying181
 a40:=Tryz.isAgg181
 z40:=Tryz.sizeOf181
 v40:=Tryz.zeroValue181
 t46:=Tryz.underlying233
 a46:=Tryz.isAgg233
 z46:=Tryz.sizeOf233
 v46:=Tryz.zeroValue233
 t49:=Tryz.underlying378
 a49:=Tryz.isAgg378
 z49:=Tryz.sizeOf378
 v49:=Tryz.zeroValue378
 t51:=Tryz.underlying277
 a51:=Tryz.isAgg277
 z51:=Tryz.sizeOf277
 v51:=Tryz.zeroValue277
 t119:=Tryz.underlying333
 a119:=Tryz.isAgg333
 z119:=Tryz.sizeOf333
 t141:=Tryz.underlying359
 a141:=Tryz.isAgg359
 z141:=Tryz.sizeOf359
 v141:=Tryz.zeroValue359
 t152:=Tryz.underlying355
 a152:=Tryz.isAgg355
 z152:=Tryz.sizeOf355
 v152:=Tryz.zeroValue355
 t154:=Tryz.underlying357
 a154:=Tryz.isAgg357
 z154:=Tryz.sizeOf357
 v154:=Tryz.zeroValue357
 t193:=Tryz.underlying374
 a193:=Tryz.isAgg374
 z193:=Tryz.sizeOf374
 v193:=Tryz.zeroValue374
 t194:=Tryz.underlying375
 a194:=Tryz.isAgg375
 z194:=Tryz.sizeOf375
 v194:=Tryz.zeroValue375
 t196:=Tryz.underlying377
 a196:=Tryz.isAgg377
 z196:=Tryz.sizeOf377
 v196:=Tryz.zeroValue377
 t198:=Tryz.underlying380
 a198:=Tryz.isAgg380
 z198:=Tryz.sizeOf380
 v198:=Tryz.zeroValue380
 t201:=Tryz.underlying383
 a201:=Tryz.isAgg383
 z201:=Tryz.sizeOf383
 v201:=Tryz.zeroValue383
 t226:=Tryz.underlying385
 a226:=Tryz.isAgg385
 z226:=Tryz.sizeOf385
 v226:=Tryz.zeroValue385
 t227:=Tryz.underlying386
 a227:=Tryz.isAgg386
 z227:=Tryz.sizeOf386
 v227:=Tryz.zeroValue386
 g0:=by kernel_rfl
 g6:=by kernel_rfl }
def Tryz.laysIdxS_ren:Go.Shelf.Ren:=⟨fun|30=>166|n=>n,fun|25=>105|26=>9|3=>3|0=>0|4=>4|n=>n,fun|n=>n⟩
theorem Tryz.laysIdxS : Go.Proofs.SlLaysN.n30 Tryz.prog Tryz.laysIdxS_ren := {
 mixed:=by kernel_rfl
 f30:=⟨Tryz.f166.name,by decide,Tryz.func166.trans (congrArg some (by kernel_rfl))⟩
 t0:=Tryz.underlying0
 a0:=Tryz.isAgg0
 z0:=Tryz.sizeOf0
 v0:=Tryz.zeroValue0
 t3:=Tryz.underlying3
 a3:=Tryz.isAgg3
 z3:=Tryz.sizeOf3
 v3:=Tryz.zeroValue3
 t4:=Tryz.underlying4
 a4:=Tryz.isAgg4
 z4:=Tryz.sizeOf4
 v4:=Tryz.zeroValue4
 t25:=Tryz.underlying105
 a25:=Tryz.isAgg105
 z25:=Tryz.sizeOf105
 v25:=Tryz.zeroValue105
 t26:=Tryz.underlying9
 a26:=Tryz.isAgg9
 z26:=Tryz.sizeOf9
 v26:=Tryz.zeroValue9 }
end Go.Proofs
namespace Go.Proofs.YtllefinciimffaaGreatDoor
open Go.RowKit Go.Shelf
theorem H6 (c:UInt8) (hc:c=48∨c=49):(97:Int)-(c.toNat:Int)=((97-c).toNat:Int):=by rcases hc with rfl|rfl<;>rfl
theorem z8 (c:UInt8) (w:World) (hc:c=48∨c=49):Calls Tryz.prog 272 #[.int .i32 (c.toNat:Int)] w fun e w'=>e=.returned (.int .i32 ((97-c).toNat:Int))∧w=w':=by
 have HE:=aHH (H6 c hc);have h0:48≤(c.toNat:Int):=(by rcases hc with rfl|rfl<;>decide);have h1:(c.toNat:Int)≤49:=(by rcases hc with rfl|rfl<;>decide);clear hc
 go_in
 go_wp2_with fail;go_ret;exact ⟨congrArg (fun z=>Ending.returned (Value.int .i32 z)) HE.out,rfl⟩
theorem QJ (c:UInt8) (w:World) (hc:c=48∨c=49):Calls Tryz.prog 332 #[.int .i32 (c.toNat:Int)] w fun e w'=>e=.returned (.int .i32 ((97-c).toNat:Int))∧w=w':=by
 have HE:=aHH (H6 c hc);have h0:48≤(c.toNat:Int):=(by rcases hc with rfl|rfl<;>decide);have h1:(c.toNat:Int)≤49:=(by rcases hc with rfl|rfl<;>decide);clear hc
 go_in
 go_wp2_with fail;go_ret;exact ⟨congrArg (fun z=>Ending.returned (Value.int .i32 z)) HE.out,rfl⟩
theorem D5 (d:Nat) (hd:d<10) (w:World):Calls Tryz.prog 219 #[.string ⟨(dS.getD d []).toArray⟩] w fun e w'=>e=.returned (.string ⟨(exB (dS.getD d [])).toArray⟩)∧Bl w w':=by
 obtain ⟨c,l,hcl⟩:∃c l,dS.getD d []=c :: l:=by
  cases h:dS.getD d [] with
  |nil=>have:∀d<10,dS.getD d []≠[]:=(by decide);exact absurd h (this d hd)
  |cons c l=>exact ⟨c,l,rfl⟩
 have hm:cZ (c :: l) [48,49]=true:=by
  rw[←hcl];have:∀d<10,cZ (dS.getD d []) [48,49]=true:=(by decide +kernel);exact this d hd
 have hl:l.length≤1000:=by
  have h1:∀d<10,(dS.getD d []).length=7:=(by decide);have:=h1 d hd;rw[hcl,aH8] at this;omega
 rw[hcl];have H:=aHH (TQ 272 (fT Tryz.func272 (by kernel_rfl) rfl) (fun c W hc=>z8 c W hc) c l hm hl w);clear hcl hm
 go_in
 go_wp2_with fail;refine H.out.mono ?_;rintro e w1 ⟨rfl,hb⟩;go_wp2_with fail;go_ret;exact ⟨rfl,hb⟩
theorem H7 (d:Nat) (hd:d<10) (w:World):Calls Tryz.prog 297 #[.string ⟨(dS.getD d []).toArray⟩] w fun e w'=>e=.returned (.string ⟨(exB (dS.getD d [])).toArray⟩)∧Bl w w':=by
 obtain ⟨c,l,hcl⟩:∃c l,dS.getD d []=c :: l:=by
  cases h:dS.getD d [] with
  |nil=>have:∀d<10,dS.getD d []≠[]:=(by decide);exact absurd h (this d hd)
  |cons c l=>exact ⟨c,l,rfl⟩
 have hm:cZ (c :: l) [48,49]=true:=by
  rw[←hcl];have:∀d<10,cZ (dS.getD d []) [48,49]=true:=(by decide +kernel);exact this d hd
 have hl:l.length≤1000:=by
  have h1:∀d<10,(dS.getD d []).length=7:=(by decide);have:=h1 d hd;rw[hcl,aH8] at this;omega
 rw[hcl];have H:=aHH (TQ 332 (fT Tryz.func332 (by kernel_rfl) rfl) (fun c W hc=>QJ c W hc) c l hm hl w);clear hcl hm
 go_in
 go_wp2_with fail;refine H.out.mono ?_;rintro e w1 ⟨rfl,hb⟩;go_wp2_with fail;go_ret;exact ⟨rfl,hb⟩
def TxtRes (ts:List (List UInt8)) (w:World) (e:Ending) (w':World):Prop:=∃g:Nat,e=.returned (.slice (some ⟨g,0,none⟩) ts.length ts.length)∧Reads w' 1 (some ⟨g,0,none⟩) ts.length (bR ts)∧Bl w w'
theorem D6 (w:World):Calls Tryz.prog 218 #[] w (TxtRes dS w):=by
 go_in
 go_wp2_with fail;go_ret;exact ⟨_,rfl,(Blk.new w 9 (bR dS).toArray).reads 10 1 rfl,(Bl.refl w).alloc _⟩
theorem p7 (w:World):Calls Tryz.prog 217 #[] w (TxtRes p6 w):=by
 go_in
 go_wp2_with fail;go_ret;exact ⟨_,rfl,(Blk.new w 9 (bR p6).toArray).reads 10 1 rfl,(Bl.refl w).alloc _⟩
def SpOk (w:World):Prop:=∀c:Nat,c<256→w.cell? ⟨Tryz.lays157_ren.g 0,c,none⟩=some (.int .u8 (if Lib.isSp (UInt8.ofNat c) then 1 else 0))
theorem SpOk.bl {w w':World} (h:SpOk w) (hb:Bl w w'):SpOk w':=fun c hc=>hb.at (h c hc)
theorem pG (s:List UInt8) (ts:List (List UInt8)) (hs:s.length<4294967281) (aCg:∀b∈s,b.toNat<128) (hts:Lib.fields s=ts) (w:World) (hT:SpOk w):Calls Tryz.prog 267 #[s] w (TxtRes ts w):=by
 have h:=Any.strings_Fields_core Tryz.lays157 (by kernel_rfl) ⟨s.toArray⟩ w (by rw[Lib.size_mk];exact hs) (fun j b hb=>aCg b (List.mem_of_getElem? hb)) hT;refine Calls.mono (R:=fun e w'=>e=.returned (.slice (some ⟨w.heap.size,0,none⟩) (Lib.fields s).length (Lib.fields s).length)∧w'=w.alloc (.cells ((Lib.fields s).map fun l=>Value.string ⟨l.toArray⟩).toArray 9)) h ?_;rintro e w' ⟨rfl,rfl⟩;rw[hts];exact ⟨_,rfl,(Blk.new w 9 (bR ts).toArray).reads ts.length 1 (by unfold bR;simp),(Bl.refl w).alloc _⟩
def aBC:List UInt8:=[48,48,48,49,49,48,49,32,48,48,49,49,48,48,49,32,48,48,49,48,48,49,49,32,48,49,49,49,49,48,49,32,48,49,48,48,48,49,49,32,48,49,49,48,48,48,49,32,48,49,48,49,49,49,49,32,48,49,49,49,48,49,49,32,48,49,49,48,49,49,49,32,48,48,48,49,48,49,49]
def Y9:List UInt8:=[76,76,76,76,76,76,32,76,76,71,76,71,71,32,76,76,71,71,76,71,32,76,76,71,71,71,76,32,76,71,76,76,71,71,32,76,71,71,76,76,71,32,76,71,71,71,76,76,32,76,71,76,71,76,71,32,76,71,76,71,71,76,32,76,71,71,76,71,76]
theorem NC (w:World) (hT:SpOk w):Calls Tryz.prog 296 #[] w (TxtRes dS w):=by
 have H:=aHH (pG aBC dS (by decide) (by decide +kernel) (by decide +kernel) w hT);unfold aBC at H
 go_in
 go_wp2_with fail;refine H.out.mono ?_;rintro e w1 ⟨g,rfl,hr,hb⟩;go_wp2_with fail;go_ret;exact ⟨g,rfl,hr,hb⟩
theorem UA (w:World) (hT:SpOk w):Calls Tryz.prog 298 #[] w (TxtRes p6 w):=by
 have H:=aHH (pG Y9 p6 (by decide) (by decide +kernel) (by decide +kernel) w hT);unfold Y9 at H
 go_in
 go_wp2_with fail;refine H.out.mono ?_;rintro e w1 ⟨g,rfl,hr,hb⟩;go_wp2_with fail;go_ret;exact ⟨g,rfl,hr,hb⟩
theorem sE (x : List UInt8) : ∀ (zs : List (List UInt8)) (i : Nat), Lib.idxFromS (zs.map fun l => (⟨l.toArray⟩ : ByteArray)) ⟨x.toArray⟩ i = match zs.findIdx? (· == x) with | some k => ((i + k : Nat) : Int) | none => -1
 |[],i=>rfl
 |y :: l,i=>by
  rw[List.map_cons,List.findIdx?_cons];unfold Lib.idxFromS;by_cases hp:y=x
  ·subst hp;simp
  ·have h1:(⟨y.toArray⟩:ByteArray)≠⟨x.toArray⟩:=fun e=>hp (by simpa using e);have h2:(y==x)=false:=(by simpa using hp);rw[if_neg h1,h2];simp only[Bool.false_eq_true,if_false];rw[sE x l (i+1)];cases l.findIdx? (·==x) with
   |none=>rfl
   |some k=>simp only[Option.map_some];congr 1;omega
theorem UB (zs:List (List UInt8)) (x:List UInt8):Lib.idxOfS (zs.map fun l=>(⟨l.toArray⟩:ByteArray)) ⟨x.toArray⟩=match zs.findIdx? (·==x) with|some k=>(k:Int)|none => -1:=by
 unfold Lib.idxOfS;rw[sE];cases zs.findIdx? (·==x) with
 |none=>rfl
 |some k=>simp
theorem H8 (g:Nat) (zs:List (List UInt8)) (x:List UInt8) (w:World) (hr:Reads w 1 (some ⟨g,0,none⟩) zs.length (bR zs)) (hn:zs.length≤1000) :
 Calls Tryz.prog 166 #[.slice (some ⟨g,0,none⟩) zs.length zs.length,x] w fun e w'=>e=.returned (.int .i64 (match zs.findIdx? (·==x) with|some k=>(k:Int)|none => -1))∧w=w':=by
 have h:=AnyG.slices_Index_string Tryz.laysIdxS g 0 zs.length zs.length (zs.map fun l=>(⟨l.toArray⟩:ByteArray)) ⟨x.toArray⟩ w (by simp) (by omega) (fun j hj=>by
  rw[aH6] at hj;obtain ⟨t,ht⟩:∃t,zs[j]? = some t:=⟨_,aH2 hj⟩;obtain ⟨ad,e,hc⟩:=pX hr ht;obtain rfl:=aIw e;rw[aH4,aId,ht,Nat.zero_add];rw[jY] at hc;exact hc)
 rw[show (zs.map fun l=>(⟨l.toArray⟩:ByteArray)).take zs.length=zs.map fun l=>(⟨l.toArray⟩:ByteArray) from aID (by simp),UB] at h;refine Calls.mono (R:=fun e w'=>e=.returned (.int .i64 (match zs.findIdx? (·==x) with|some k=>(k:Int)|none => -1))∧w'=w) h ?_;rintro e w' ⟨rfl,rfl⟩;exact ⟨rfl,rfl⟩
theorem XG {ds:List UInt8} (hm:cZ ds eL=true) {i:Nat} (hi:i<ds.length):∃b,ds[i]? = some b∧48≤b.toNat∧b.toNat≤57∧jS ds i=b.toNat-48:=by
 have hg:ds[i]? = some ds[i]:=aH2 hi;obtain ⟨h1,h2⟩:=DJ hm hg;refine ⟨_,hg,h1,h2,?_⟩;unfold jS;rw[aH4,hg];rfl
theorem tO {ds:List UInt8} (hm:cZ ds eL=true) {i:Nat} (hi:i<ds.length):∃b,ds[i]? = some b∧(b.toNat:Int)=48+(jS ds i:Int)∧jS ds i≤9:=by
 obtain ⟨b,h1,h2,h3,h4⟩:=XG hm hi;exact ⟨b,h1,by omega,by omega⟩
theorem uU (l:List UInt8) (w:World) (hl:l.length=12) (hm:cZ l eL=true) :
 Calls Tryz.prog 257 #[l] w fun e w'=>e=.returned (.int .i64 (iO l:Int))∧Bl w w':=by
 have hsz:(⟨l.toArray⟩:ByteArray).size=12:=(by rw[Lib.size_mk,hl]);have HM:=aHH hm;have HL:=aHH hl;clear hm hl
 go_in
 go_wp2_with fail;obtain ⟨K,hK⟩:=aH0 w.heap.size;obtain ⟨w1,hw1⟩:=aH0 (w.iter ⟨l.toArray⟩ 0);have hit:w1.heap[K]? = some (.stringIter ⟨l.toArray⟩ 0):=by
  rw[hw1,hK];exact heap_alloc_new w (.stringIter ⟨l.toArray⟩ 0)
 have hb1:Bl w w1:=(by rw[hw1];exact (Bl.refl w).alloc _);rw[←hw1,←hK];have HK:=aHH hK;have ZQ:=aHH (And.intro hit hb1);clear hw1 hK hit hb1;go_loopw [3] (fun s3 wi=>∃i:Nat,i≤12∧s3=.int .i64 (dR l i:Int)∧wi.heap[K]? = some (.stringIter ⟨l.toArray⟩ i)∧Bl w wi) (fun _ wi=>12-wi.iterPos K);case atStart=>exact ⟨0,Nat.zero_le _,rfl,ZQ.out⟩
 case round=>
  rename World=>wi;obtain ⟨i,hi,rfl,hit,hbi⟩:=hrel;by_cases hlt:i<12
  ·have hih:i<(⟨l.toArray⟩:ByteArray).size:=(by rw[hsz];exact hlt);have hgi:=Lib.getElem_mk l i hih;obtain ⟨b,hb⟩:=aH0 ((⟨l.toArray⟩:ByteArray)[i]'hih);rw[←hb] at hgi;have hma:=DJ HM.out hgi;have ET:=fun ty=>Lib.run_next_ascii_at (P:=Tryz.prog) wi K ⟨l.toArray⟩ i ty hit hih (by rw[←hb];omega);have h7b:Bl w (wi.iterAt K ⟨l.toArray⟩ (i+1)):=Lib.below_iterAt hbi (k:=K) (by have:=HK.out;omega) _ _;have h7i:=Lib.iterAt_heap wi K ⟨l.toArray⟩ i (i+1) hit;rw[←hb] at ET;generalize wi.iterAt K ⟨l.toArray⟩ (i+1)=w7 at ET h7b h7i;have hnx:∀ty,(Instr.next (.pointer (some ⟨K,0,none⟩)) true ty).run Tryz.prog wi=.ok (.tuple #[.bool true,.int .i64 (i:Int),.int .i32 (b.toNat:Int)]) w7:=ET;obtain ⟨h1,h2⟩:=e9 hgi;have hdg:jS l i=b.toNat-48:=(by unfold jS;rw[aH4,hgi];rfl);have hst:dR l (i+1)=dR l i+jS l i*(1+i % 2*2):=rfl;have hle:=nS l (rX HM.out) i;have hd9:=rX HM.out i;obtain ⟨s,hs⟩:=aH0 (dR l i);obtain ⟨d,hd⟩:=aH0 (jS l i);rw[←hs] at hst hle ⊢;rw[←hd] at hst hd9 hdg;have hr2:i % 2=0∨i % 2=1:=(by omega);have aBZ:(b.toNat:Int)-48=(d:Int):=(by omega);have hmr:(i:Int) % 2=((i % 2:Nat):Int):=(by omega);obtain ⟨r,hr⟩:=aH0 (i % 2);rw[←hr] at hst hr2 hmr;obtain ⟨HSt,HDb,HN,Hit⟩:=aHJ hst aBZ (And.intro h7i h7b) hit;clear hgi hb hs hd hr hst hdg aBZ ET h7b h7i hit hbi ZQ;rcases hr2 with rfl|rfl
   ·have HF:=aHH (show (s:Int)+(d:Int)=((dR l (i+1):Nat):Int) by rw[HSt.out];omega);clear HSt;go_wp2_with fail;exact ⟨⟨i+1,by omega,by rw[←HF.out,←HDb.out],HN.out⟩,by simp only[World.iterPos,HN.out.1,Hit.out];omega⟩
   ·have HF:=aHH (show (s:Int)+(d:Int)*3=((dR l (i+1):Nat):Int) by rw[HSt.out];omega);clear HSt;go_wp2_with fail;exact ⟨⟨i+1,by omega,by rw[←HF.out,←HDb.out],HN.out⟩,by simp only[World.iterPos,HN.out.1,Hit.out];omega⟩
  ·obtain rfl:i=12:=(by omega);have hnx:∀ty,(Instr.next (.pointer (some ⟨K,0,none⟩)) true ty).run Tryz.prog wi=.ok (.tuple #[.bool false]) wi:=fun ty=>Lib.run_next_end_at wi K ⟨l.toArray⟩ 12 ty hit (by rw[hsz];omega);have hle:=nS l (rX HM.out) 12;have HC:=aHH (show (1000-(dR l 12:Int)) % 10=(iO l:Int) by unfold iO;omega);obtain ⟨s,hs⟩:=aH0 (dR l 12);rw[←hs] at hle HC ⊢;clear hs hit;go_wp2_with fail;go_ret;exact ⟨cP (by rw[←HC.out]),hbi⟩
theorem eO (l:List UInt8) (a b:Nat):(⟨l.toArray⟩:ByteArray).extract a b=⟨((l.drop a).take (b-a)).toArray⟩:=by
 apply ByteArray.ext;rw[ByteArray.data_extract];apply Array.toList_inj.1;simp only[Array.toList_extract,List.extract_eq_take_drop]
theorem dK (a b:List UInt8):(⟨a.toArray⟩:ByteArray)++⟨b.toArray⟩=⟨(a++b).toArray⟩:=by
 apply ByteArray.ext;simp[ByteArray.data_append]
theorem D7 (d:Nat) (h:d<10):dS[d]? = some (dS.getD d []):=by
 rw[aH4,aH2 (show d<dS.length from h)];rfl
theorem yH (d:Nat):cO 76 d=dS.getD d []:=rfl
theorem IA (d:Nat):cO 82 d=exB (dS.getD d []):=rfl
theorem XH (d:Nat):cO 71 d=(exB (dS.getD d [])).reverse:=rfl
theorem UC (d:Nat) (h:d<10):(exB (dS.getD d [])).length=7:=BC 82 d h
end Go.Proofs.YtllefinciimffaaGreatDoor
