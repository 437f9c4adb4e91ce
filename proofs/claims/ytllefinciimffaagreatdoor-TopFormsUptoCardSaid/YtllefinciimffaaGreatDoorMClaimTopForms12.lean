import Derived.Test.YtllefinciimffaaGreatDoorMClaimTopForms10
import Derived.Shelf.SlicesE.Reverse
import Derived.Ground.SlgnProg
import Derived.Laws.IdiomStrings
import Derived.Lib.ConvBytes
import Derived.Shelf.Bits.Mul64
import Derived.Lib.AppendIntMem
import Derived.Lib.AtoiTie
import Derived.Lib.AtoiAllCases
import Derived.Shelf.Strconv.ErrVarAll
import Derived.Shelf.Strconv.Itoa3
import Derived.Shelf.Small.Wraps
import Derived.Lib.Atoi
import Derived.Lib.ItoaNum
set_option maxHeartbeats 20000000
set_option maxRecDepth 100000
namespace Go.Proofs
open Go.Shelf
def Tryz.laysRevB_ren:Go.Shelf.Ren:=⟨fun|35=>273|n=>n,fun|22=>92|23=>5|3=>3|4=>4|0=>0|n=>n,fun|n=>n⟩
theorem Tryz.laysRevB : Go.Proofs.SlLaysE.n35 Tryz.prog Tryz.laysRevB_ren := {
 mixed:=by kernel_rfl
 f35:=⟨Tryz.f273.name,by decide,Tryz.func273.trans (congrArg some (by kernel_rfl))⟩
 t0:=Tryz.underlying0
 a0:=Tryz.isAgg0
 z0:=Tryz.sizeOf0
 v0:=Tryz.zeroValue0
 t3:=Tryz.underlying3
 a3:=Tryz.isAgg3
 z3:=Tryz.sizeOf3
 v3:=Tryz.zeroValue3
 t4:=Tryz.underlying4
 a4:=Tryz.isAgg4
 z4:=Tryz.sizeOf4
 v4:=Tryz.zeroValue4
 t22:=Tryz.underlying92
 a22:=Tryz.isAgg92
 z22:=Tryz.sizeOf92
 v22:=Tryz.zeroValue92
 a23:=Tryz.isAgg5
 z23:=Tryz.sizeOf5 }
end Go.Proofs
namespace Go.Proofs.YtllefinciimffaaGreatDoor
open Go.RowKit Go.Shelf Go.Sort
def aAH (b:UInt8):Value:=.int .u8 (b.toNat:Int)
theorem OX (w:World) (e:TypeId) (s:ByteArray):Bl w (Lib.bytesWorld w e s):=⟨rfl,rfl,rfl,by rw[Lib.bytesWorld_size];omega,fun j hj=>Lib.bytesWorld_at_old w e s j hj⟩
theorem yV (w:World) (e:TypeId) (l:List UInt8):Holds aAH (Lib.bytesWorld w e ⟨l.toArray⟩) w.heap.size 0 l.toArray:=fun j hj=>by
 have hj':j<l.length:=(by simpa using hj);rw[Nat.zero_add];refine ⟨?_,?_⟩
 ·have h:=Lib.bytesWorld_cell w e ⟨l.toArray⟩ j (by rw[Lib.size_mk];exact hj');rw[h];unfold aAH;simp[List.getD,hj']
 ·unfold World.frozen?;rw[Lib.bytesWorld_at_new];have:l.length≤(Lib.bytesCells w e ⟨l.toArray⟩).size:=by
   unfold Lib.bytesCells;simp
  simp;omega
theorem MA (g cap:Nat) (l:List UInt8) (w:World) (hl:l.length≤9223372036854775807) (hH:Holds aAH w g 0 l.toArray) :
 Calls Tryz.prog 273 #[.slice (some ⟨g,0,none⟩) l.length cap] w fun e w'=>e=.returned (.tuple #[])∧Holds aAH w' g 0 l.reverse.toArray∧∀w0,Bl w0 w→w0.heap.size≤g→Bl w0 w':=by
 have h:=AnyE.slices_Reverse Tryz.laysRevB aAH (fun _=>rfl) g 0 cap l w hH hl;refine Calls.mono (R:=fun e w'=>e=.returned (.tuple #[])∧∃n,w'=putRow aAH (Sort.ahead w n) g 0 l.reverse.toArray) h ?_;rintro e w' ⟨rfl,n,rfl⟩;refine ⟨rfl,holds_putRow aAH _ _ _ l.toArray _ (fun j hj=>hH j hj) (by simp),fun w0 hb hg=>Lib.below_putRow (q:=n) hb hg⟩
def FlipRes (l:List UInt8) (w:World) (e:Ending) (w':World):Prop:=e=.returned (.string ⟨l.reverse.toArray⟩)∧Bl w w'
theorem kW (l:List UInt8) (w:World) (hl:l.length≤9223372036854775807) :
 Calls Tryz.prog 220 #[l] w (FlipRes l w):=by
 go_in
 go_wp2_with fail;rw[Lib.run_convert_string_bytes w 9 92 5 ⟨l.toArray⟩ Tryz.underlying9 Tryz.underlying92 Tryz.underlying5,Lib.size_mk];have hH:=yV w 5 l;have hb2:=OX w 5 ⟨l.toArray⟩;obtain ⟨w2,hw2⟩:=aLt (Lib.bytesWorld w 5 ⟨l.toArray⟩);obtain ⟨cp,hcp⟩:=aLt (grownCap w l.length 0 5);rw[←hw2] at hH hb2 ⊢;rw[←hcp];have Hrv:=aLa (MA w.heap.size cp l w2 hl hH);clear hw2 hcp hH;go_wp2_with fail;refine Hrv.out.mono ?_;rintro e w3 ⟨rfl,hH3,hb3⟩;have hbl:=hb3 w hb2 (Nat.le_refl _);have hcv:=run_convert_bytes_back (P:=Tryz.prog) w3 92 9 5 ⟨w.heap.size,0,none⟩ cp l.reverse Tryz.underlying92 Tryz.underlying5 Tryz.underlying9 (fun j hj=>by
  have h:=(hH3 j (by simpa using hj)).1;rw[Nat.zero_add] at h;show w3.cell? ((⟨w.heap.size,0,none⟩:Addr).add j)=_;rw[show (⟨w.heap.size,0,none⟩:Addr).add j=⟨w.heap.size,j,none⟩ by (unfold Addr.add;simp;omega),h];unfold aAH;simp only[aL3] at hj;simp[getElem!_pos,hj])
 rw[aL3] at hcv;clear hH3 hb3 Hrv;go_wp2_with fail;go_ret;exact ⟨rfl,hbl⟩
end Go.Proofs.YtllefinciimffaaGreatDoor
namespace Go.Proofs
open Go.Shelf
def Tryz.lays212_ren:Go.Shelf.Ren:=⟨fun|212=>268|263=>313|264=>314|n=>n,fun|46=>233|51=>277|146=>278|53=>270|148=>336|n=>n,fun|n=>n⟩
theorem Tryz.lays212 : Go.Proofs.Lays.n212 Tryz.prog Tryz.lays212_ren := {
 mixed:=by kernel_rfl
 f212:=Tryz.func268.trans (congrArg some (by kernel_rfl))
 f263:=Tryz.func313.trans (congrArg some (by kernel_rfl))
 f264:=Tryz.func314.trans (congrArg some (by kernel_rfl))
 t46:=Tryz.underlying233
 a46:=Tryz.isAgg233
 z46:=Tryz.sizeOf233
 v46:=Tryz.zeroValue233
 t51:=Tryz.underlying277
 a51:=Tryz.isAgg277
 z51:=Tryz.sizeOf277
 v51:=Tryz.zeroValue277
 t53:=Tryz.underlying270
 a53:=Tryz.isAgg270
 z53:=Tryz.sizeOf270
 v53:=Tryz.zeroValue270
 t146:=Tryz.underlying278
 a146:=Tryz.isAgg278
 z146:=Tryz.sizeOf278
 v146:=Tryz.zeroValue278
 t148:=Tryz.underlying336
 a148:=Tryz.isAgg336
 z148:=Tryz.sizeOf336
 v148:=Tryz.zeroValue336 }
def Tryz.lays170_ren:Go.Shelf.Ren:=⟨fun|170=>48|n=>n,fun|70=>91|3=>3|0=>0|72=>94|37=>92|5=>5|n=>n,fun|n=>n⟩
theorem Tryz.lays170 : Go.Proofs.Lays.n170 Tryz.prog Tryz.lays170_ren := {
 mixed:=by kernel_rfl
 f170:=Tryz.func48.trans (congrArg some (by kernel_rfl))
 t0:=Tryz.underlying0
 a0:=Tryz.isAgg0
 z0:=Tryz.sizeOf0
 v0:=Tryz.zeroValue0
 t3:=Tryz.underlying3
 a3:=Tryz.isAgg3
 z3:=Tryz.sizeOf3
 v3:=Tryz.zeroValue3
 t37:=Tryz.underlying92
 a37:=Tryz.isAgg92
 z37:=Tryz.sizeOf92
 v37:=Tryz.zeroValue92
 t70:=Tryz.underlying91
 a70:=Tryz.isAgg91
 z70:=Tryz.sizeOf91
 v70:=Tryz.zeroValue91
 t72:=Tryz.underlying94
 a72:=Tryz.isAgg94
 z72:=Tryz.sizeOf94
 v72:=Tryz.zeroValue94 }
end Go.Proofs
namespace Go.Proofs.YtllefinciimffaaGreatDoor
open Go.RowKit Go.Shelf
theorem uU (x y:Nat) (h:x*y<18446744073709551616) (hx:x<18446744073709551616) (hy:y<18446744073709551616) (w:World) :
 Calls Tryz.prog 268 #[.int .u64 x,.int .u64 y] w fun e w'=>e=.returned (.tuple #[.int .u64 0,.int .u64 ((x*y:Nat):Int)])∧w=w':=by
 refine (Any.bits_Mul Tryz.lays212 x y hx hy w).mono ?_;rintro e w' ⟨rfl,rfl⟩;refine ⟨?_,rfl⟩;rw[Nat.div_eq_of_lt h,Nat.mod_eq_of_lt h];rfl
theorem aP (B:Nat) (l:List UInt8) (w:World) (h:Bui B l w) :
 Calls Tryz.prog 48 #[.pointer (some ⟨B,0,none⟩)] w fun e w'=>e=.returned l.length∧w=w':=by
 refine (Any.Builder_Len_f Tryz.lays170 B B _ w h).mono ?_;rintro e w' ⟨rfl,rfl⟩;rw[Lib.byteCells_length];exact ⟨rfl,rfl⟩
theorem bU (B:Nat) (l:List UInt8) (w:World) (h:Bui B l w) (hBw:B≤w.heap.size) :
 Calls Tryz.prog 49 #[.pointer (some ⟨B,0,none⟩)] w fun e w'=>e=.returned (.string ⟨l.toArray⟩)∧Bui B l w'∧Below B w w':=by
 refine (Any.Builder_String_any_k Tryz.lays169 Tryz.builderExtra B B l w h hBw).mono ?_;rintro e w' ⟨rfl,h1,h2,_⟩;exact ⟨rfl,h1,h2⟩
theorem tK (a b c:Int) (ts:Array TypeId) (t:TypeId) (w:World):(Builtin.min_ ts t #[a,b,c]).run Tryz.prog w=.ok (.int .i64 (min (min a b) c)) w:=by
 simp[Builtin.min_,Builtin.min2];omega
theorem RT (w:World):Calls Tryz.prog 213 #[.string ⟨#[49]⟩,.int .i64 2] w fun e w'=>e=.returned (.string ⟨(List.replicate 2 (49:UInt8)).toArray⟩)∧Bl w w':=by
 have QN:=aLa (uU 1 2 (by decide) (by decide) (by decide) w);have Hgr:=aLa (tG w.heap.size 2 w rfl (by decide))
 go_in
 go_wp2_with fail;refine QN.out.mono ?_;rintro e w' ⟨rfl,rfl⟩;go_wp2_with fail;refine Hgr.out.mono ?_;rintro e w1 ⟨rfl,hbu,hb1⟩;obtain ⟨B,hB⟩:=aLt w.heap.size;rw[←hB] at hbu ⊢;have HB:=aLa hB;have GP:B≤w1.heap.size:=(by rw[hB];exact hb1.le);have Hw:=aLa (aJ B [] [49] w1 hbu (by decide) GP);clear hB QN Hgr hbu;go_wp2_with fail;refine Hw.out.mono ?_;rintro e w2 ⟨rfl,UQ,QO⟩;have hb2:=Bl.trans' hb1 HB.out.symm QO;have aCr:B≤w2.heap.size:=aMb GP QO.size;clear Hw QO hb1 GP;go_wp2_with fail;refine wp_loop_rounds 2 ?_;have HU1:=aLa (show Bui B ([49]:List UInt8) w2 from UQ);have aBI:∀(ts:Array TypeId) (t:TypeId) (W:World),(Builtin.min_ ts t #[.int .i64 1,.int .i64 1,.int .i64 2]).run Tryz.prog W=.ok (.int .i64 1) W:=fun ts t W=>(by rw[tK];rfl);rw[rounds_succ];go_wp2_with fail;refine (aP B [49] _ HU1.out).mono ?_;rintro e w' ⟨rfl,rfl⟩;go_wp2_with fail;refine (aP B [49] _ HU1.out).mono ?_;rintro e w' ⟨rfl,rfl⟩;go_wp2_with fail;refine (aP B [49] _ HU1.out).mono ?_;rintro e w' ⟨rfl,rfl⟩;go_wp2_with fail;refine (bU B [49] _ HU1.out aCr).mono ?_;rintro e w3 ⟨rfl,hu3,UT⟩;have ZM:B≤w3.heap.size:=aMb aCr UT.size;have hb3:=Bl.trans' hb2 HB.out.symm UT;go_wp2_with fail;refine (aJ B [49] [49] w3 hu3 (by decide) ZM).mono ?_;rintro e w4 ⟨rfl,hu4,UU⟩;have aBJ:B≤w4.heap.size:=aMb ZM UU.size;have hb4:=Bl.trans' hb3 HB.out.symm UU;clear aBI;go_wp2_with fail;have HUE:=aLa (show Bui B ([49,49]:List UInt8) w4 from hu4);rw[rounds_succ];go_wp2_with fail;refine (aP B [49,49] _ HUE.out).mono ?_;rintro e w' ⟨rfl,rfl⟩;go_wp2_with fail;refine (bU B [49,49] _ HUE.out aBJ).mono ?_;rintro e we ⟨rfl,-,aE4⟩;have hbe:=Bl.trans' hb4 HB.out.symm aE4;go_wp2_with fail;go_ret;exact ⟨rfl,hbe⟩
theorem RU (w:World):Calls Tryz.prog 213 #[.string ⟨#[49]⟩,.int .i64 3] w fun e w'=>e=.returned (.string ⟨(List.replicate 3 (49:UInt8)).toArray⟩)∧Bl w w':=by
 have QN:=aLa (uU 1 3 (by decide) (by decide) (by decide) w);have Hgr:=aLa (tG w.heap.size 3 w rfl (by decide))
 go_in
 go_wp2_with fail;refine QN.out.mono ?_;rintro e w' ⟨rfl,rfl⟩;go_wp2_with fail;refine Hgr.out.mono ?_;rintro e w1 ⟨rfl,hbu,hb1⟩;obtain ⟨B,hB⟩:=aLt w.heap.size;rw[←hB] at hbu ⊢;have HB:=aLa hB;have GP:B≤w1.heap.size:=(by rw[hB];exact hb1.le);have Hw:=aLa (aJ B [] [49] w1 hbu (by decide) GP);clear hB QN Hgr hbu;go_wp2_with fail;refine Hw.out.mono ?_;rintro e w2 ⟨rfl,UQ,QO⟩;have hb2:=Bl.trans' hb1 HB.out.symm QO;have aCr:B≤w2.heap.size:=aMb GP QO.size;clear Hw QO hb1 GP;go_wp2_with fail;refine wp_loop_rounds 3 ?_;have HU1:=aLa (show Bui B ([49]:List UInt8) w2 from UQ);have aBI:∀(ts:Array TypeId) (t:TypeId) (W:World),(Builtin.min_ ts t #[.int .i64 2,.int .i64 1,.int .i64 3]).run Tryz.prog W=.ok (.int .i64 1) W:=fun ts t W=>(by rw[tK];rfl);rw[rounds_succ];go_wp2_with fail;refine (aP B [49] _ HU1.out).mono ?_;rintro e w' ⟨rfl,rfl⟩;go_wp2_with fail;refine (aP B [49] _ HU1.out).mono ?_;rintro e w' ⟨rfl,rfl⟩;go_wp2_with fail;refine (aP B [49] _ HU1.out).mono ?_;rintro e w' ⟨rfl,rfl⟩;go_wp2_with fail;refine (bU B [49] _ HU1.out aCr).mono ?_;rintro e w3 ⟨rfl,hu3,UT⟩;have ZM:B≤w3.heap.size:=aMb aCr UT.size;have hb3:=Bl.trans' hb2 HB.out.symm UT;go_wp2_with fail;refine (aJ B [49] [49] w3 hu3 (by decide) ZM).mono ?_;rintro e w4 ⟨rfl,hu4,UU⟩;have aBJ:B≤w4.heap.size:=aMb ZM UU.size;have hb4:=Bl.trans' hb3 HB.out.symm UU;clear aBI;go_wp2_with fail;have HU2:=aLa (show Bui B ([49,49]:List UInt8) w4 from hu4);have aBI:∀(ts:Array TypeId) (t:TypeId) (W:World),(Builtin.min_ ts t #[.int .i64 1,.int .i64 2,.int .i64 3]).run Tryz.prog W=.ok (.int .i64 1) W:=fun ts t W=>(by rw[tK];rfl);rw[rounds_succ];go_wp2_with fail;refine (aP B [49,49] _ HU2.out).mono ?_;rintro e w' ⟨rfl,rfl⟩;go_wp2_with fail;refine (aP B [49,49] _ HU2.out).mono ?_;rintro e w' ⟨rfl,rfl⟩;go_wp2_with fail;refine (aP B [49,49] _ HU2.out).mono ?_;rintro e w' ⟨rfl,rfl⟩;go_wp2_with fail;refine (bU B [49,49] _ HU2.out aBJ).mono ?_;rintro e w5 ⟨rfl,hu5,QP⟩;have aE5:B≤w5.heap.size:=aMb aBJ QP.size;have hb5:=Bl.trans' hb4 HB.out.symm QP;go_wp2_with fail;refine (aJ B [49,49] [49] w5 hu5 (by decide) aE5).mono ?_;rintro e w6 ⟨rfl,hu6,pB⟩;have aGY:B≤w6.heap.size:=aMb aE5 pB.size;have hb6:=Bl.trans' hb5 HB.out.symm pB;clear aBI;go_wp2_with fail;have HUE:=aLa (show Bui B ([49,49,49]:List UInt8) w6 from hu6);rw[rounds_succ];go_wp2_with fail;refine (aP B [49,49,49] _ HUE.out).mono ?_;rintro e w' ⟨rfl,rfl⟩;go_wp2_with fail;refine (bU B [49,49,49] _ HUE.out aGY).mono ?_;rintro e we ⟨rfl,-,aE4⟩;have hbe:=Bl.trans' hb6 HB.out.symm aE4;go_wp2_with fail;go_ret;exact ⟨rfl,hbe⟩
theorem RV (w:World):Calls Tryz.prog 213 #[.string ⟨#[49]⟩,.int .i64 4] w fun e w'=>e=.returned (.string ⟨(List.replicate 4 (49:UInt8)).toArray⟩)∧Bl w w':=by
 have QN:=aLa (uU 1 4 (by decide) (by decide) (by decide) w);have Hgr:=aLa (tG w.heap.size 4 w rfl (by decide))
 go_in
 go_wp2_with fail;refine QN.out.mono ?_;rintro e w' ⟨rfl,rfl⟩;go_wp2_with fail;refine Hgr.out.mono ?_;rintro e w1 ⟨rfl,hbu,hb1⟩;obtain ⟨B,hB⟩:=aLt w.heap.size;rw[←hB] at hbu ⊢;have HB:=aLa hB;have GP:B≤w1.heap.size:=(by rw[hB];exact hb1.le);have Hw:=aLa (aJ B [] [49] w1 hbu (by decide) GP);clear hB QN Hgr hbu;go_wp2_with fail;refine Hw.out.mono ?_;rintro e w2 ⟨rfl,UQ,QO⟩;have hb2:=Bl.trans' hb1 HB.out.symm QO;have aCr:B≤w2.heap.size:=aMb GP QO.size;clear Hw QO hb1 GP;go_wp2_with fail;refine wp_loop_rounds 3 ?_;have HU1:=aLa (show Bui B ([49]:List UInt8) w2 from UQ);have aBI:∀(ts:Array TypeId) (t:TypeId) (W:World),(Builtin.min_ ts t #[.int .i64 3,.int .i64 1,.int .i64 4]).run Tryz.prog W=.ok (.int .i64 1) W:=fun ts t W=>(by rw[tK];rfl);rw[rounds_succ];go_wp2_with fail;refine (aP B [49] _ HU1.out).mono ?_;rintro e w' ⟨rfl,rfl⟩;go_wp2_with fail;refine (aP B [49] _ HU1.out).mono ?_;rintro e w' ⟨rfl,rfl⟩;go_wp2_with fail;refine (aP B [49] _ HU1.out).mono ?_;rintro e w' ⟨rfl,rfl⟩;go_wp2_with fail;refine (bU B [49] _ HU1.out aCr).mono ?_;rintro e w3 ⟨rfl,hu3,UT⟩;have ZM:B≤w3.heap.size:=aMb aCr UT.size;have hb3:=Bl.trans' hb2 HB.out.symm UT;go_wp2_with fail;refine (aJ B [49] [49] w3 hu3 (by decide) ZM).mono ?_;rintro e w4 ⟨rfl,hu4,UU⟩;have aBJ:B≤w4.heap.size:=aMb ZM UU.size;have hb4:=Bl.trans' hb3 HB.out.symm UU;clear aBI;go_wp2_with fail;have HU2:=aLa (show Bui B ([49,49]:List UInt8) w4 from hu4);have aBI:∀(ts:Array TypeId) (t:TypeId) (W:World),(Builtin.min_ ts t #[.int .i64 2,.int .i64 2,.int .i64 4]).run Tryz.prog W=.ok (.int .i64 2) W:=fun ts t W=>(by rw[tK];rfl);rw[rounds_succ];go_wp2_with fail;refine (aP B [49,49] _ HU2.out).mono ?_;rintro e w' ⟨rfl,rfl⟩;go_wp2_with fail;refine (aP B [49,49] _ HU2.out).mono ?_;rintro e w' ⟨rfl,rfl⟩;go_wp2_with fail;refine (aP B [49,49] _ HU2.out).mono ?_;rintro e w' ⟨rfl,rfl⟩;go_wp2_with fail;refine (bU B [49,49] _ HU2.out aBJ).mono ?_;rintro e w5 ⟨rfl,hu5,QP⟩;have aE5:B≤w5.heap.size:=aMb aBJ QP.size;have hb5:=Bl.trans' hb4 HB.out.symm QP;go_wp2_with fail;refine (aJ B [49,49] [49,49] w5 hu5 (by decide) aE5).mono ?_;rintro e w6 ⟨rfl,hu6,pB⟩;have aGY:B≤w6.heap.size:=aMb aE5 pB.size;have hb6:=Bl.trans' hb5 HB.out.symm pB;clear aBI;go_wp2_with fail;have HUE:=aLa (show Bui B ([49,49,49,49]:List UInt8) w6 from hu6);rw[rounds_succ];go_wp2_with fail;refine (aP B [49,49,49,49] _ HUE.out).mono ?_;rintro e w' ⟨rfl,rfl⟩;go_wp2_with fail;refine (bU B [49,49,49,49] _ HUE.out aGY).mono ?_;rintro e we ⟨rfl,-,aE4⟩;have hbe:=Bl.trans' hb6 HB.out.symm aE4;go_wp2_with fail;go_ret;exact ⟨rfl,hbe⟩
theorem RW (w:World):Calls Tryz.prog 213 #[.string ⟨#[48]⟩,.int .i64 2] w fun e w'=>e=.returned (.string ⟨(List.replicate 2 (48:UInt8)).toArray⟩)∧Bl w w':=by
 have QN:=aLa (uU 1 2 (by decide) (by decide) (by decide) w)
 go_in
 go_wp2_with fail;refine QN.out.mono ?_;rintro e w' ⟨rfl,rfl⟩;go_wp2_with fail;refine (cT _ [48] _).mono ?_;rintro e w' ⟨rfl,rfl⟩;rw[show ∀l:List UInt8,Lib.hasPrefix (32 :: l) [48]=false from fun _=>rfl];go_wp2_with fail;refine (cT _ [48] _).mono ?_;rintro e w' ⟨rfl,rfl⟩;rw[show ∀l:List UInt8,Lib.hasPrefix (45 :: l) [48]=false from fun _=>rfl];go_wp2_with fail;refine (cT _ [48] _).mono ?_;rintro e w' ⟨rfl,rfl⟩;rw[show ∀l:List UInt8,Lib.hasPrefix (48 :: l) [48]=true from fun _=>rfl];go_wp2_with fail;try simp only[Exit.inBlock,Exit.then]
 go_ret;exact ⟨rfl,Bl.refl _⟩
theorem RX (w:World):Calls Tryz.prog 213 #[.string ⟨#[48]⟩,.int .i64 3] w fun e w'=>e=.returned (.string ⟨(List.replicate 3 (48:UInt8)).toArray⟩)∧Bl w w':=by
 have QN:=aLa (uU 1 3 (by decide) (by decide) (by decide) w)
 go_in
 go_wp2_with fail;refine QN.out.mono ?_;rintro e w' ⟨rfl,rfl⟩;go_wp2_with fail;refine (cT _ [48] _).mono ?_;rintro e w' ⟨rfl,rfl⟩;rw[show ∀l:List UInt8,Lib.hasPrefix (32 :: l) [48]=false from fun _=>rfl];go_wp2_with fail;refine (cT _ [48] _).mono ?_;rintro e w' ⟨rfl,rfl⟩;rw[show ∀l:List UInt8,Lib.hasPrefix (45 :: l) [48]=false from fun _=>rfl];go_wp2_with fail;refine (cT _ [48] _).mono ?_;rintro e w' ⟨rfl,rfl⟩;rw[show ∀l:List UInt8,Lib.hasPrefix (48 :: l) [48]=true from fun _=>rfl];go_wp2_with fail;try simp only[Exit.inBlock,Exit.then]
 go_ret;exact ⟨rfl,Bl.refl _⟩
theorem RY (w:World):Calls Tryz.prog 213 #[.string ⟨#[48]⟩,.int .i64 4] w fun e w'=>e=.returned (.string ⟨(List.replicate 4 (48:UInt8)).toArray⟩)∧Bl w w':=by
 have QN:=aLa (uU 1 4 (by decide) (by decide) (by decide) w)
 go_in
 go_wp2_with fail;refine QN.out.mono ?_;rintro e w' ⟨rfl,rfl⟩;go_wp2_with fail;refine (cT _ [48] _).mono ?_;rintro e w' ⟨rfl,rfl⟩;rw[show ∀l:List UInt8,Lib.hasPrefix (32 :: l) [48]=false from fun _=>rfl];go_wp2_with fail;refine (cT _ [48] _).mono ?_;rintro e w' ⟨rfl,rfl⟩;rw[show ∀l:List UInt8,Lib.hasPrefix (45 :: l) [48]=false from fun _=>rfl];go_wp2_with fail;refine (cT _ [48] _).mono ?_;rintro e w' ⟨rfl,rfl⟩;rw[show ∀l:List UInt8,Lib.hasPrefix (48 :: l) [48]=true from fun _=>rfl];go_wp2_with fail;try simp only[Exit.inBlock,Exit.then]
 go_ret;exact ⟨rfl,Bl.refl _⟩
theorem RZ (b:UInt8) (w:World):Calls Tryz.prog 213 #[.string ⟨#[b]⟩,.int .i64 1] w fun e w'=>e=.returned (.string ⟨(List.replicate 1 b).toArray⟩)∧Bl w w':=by
 go_in
 go_wp2_with fail;try simp only[Exit.inBlock,Exit.then]
 go_ret;exact ⟨rfl,Bl.refl _⟩
theorem fR (b:UInt8) (hb:b=48∨b=49) (k:Nat) (h1:1≤k) (h4:k≤4) (w:World):Calls Tryz.prog 213 #[.string ⟨#[b]⟩,k] w fun e w'=>e=.returned (.string ⟨(List.replicate k b).toArray⟩)∧Bl w w':=by
 have hk:k=1∨k=2∨k=3∨k=4:=(by omega);rcases hk with rfl|rfl|rfl|rfl
 ·exact RZ b w
 ·rcases hb with rfl|rfl
  ·exact RW w
  ·exact RT w
 ·rcases hb with rfl|rfl
  ·exact RX w
  ·exact RU w
 ·rcases hb with rfl|rfl
  ·exact RY w
  ·exact RV w
end Go.Proofs.YtllefinciimffaaGreatDoor
namespace Go.Proofs
open Go.Shelf
def Tryz.lays171_ren:Go.Shelf.Ren:=⟨fun|171=>60|243=>122|246=>169|283=>225|284=>226|285=>227|286=>228|129=>251|317=>279|318=>280|319=>281|320=>282|337=>323|338=>324|n=>n,fun|3=>3|9=>9|2=>2|4=>4|171=>269|0=>0|53=>270|37=>92|5=>5|173=>273|212=>320|51=>277|20=>20|213=>321|46=>233|232=>366|233=>367|n=>n,fun|17=>1|18=>8|19=>9|n=>n⟩
theorem Tryz.lays171 : Go.Proofs.LaysM.n171 Tryz.prog Tryz.lays171_ren := {
 mixed:=by kernel_rfl
 f129:=Tryz.func251.trans (congrArg some (by kernel_rfl))
 f171:=Tryz.func60.trans (congrArg some (by kernel_rfl))
 f243:=Tryz.func122.trans (congrArg some (by kernel_rfl))
 f246:=Tryz.func169.trans (congrArg some (by kernel_rfl))
 f283:=Tryz.func225.trans (congrArg some (by kernel_rfl))
 f284:=Tryz.func226.trans (congrArg some (by kernel_rfl))
 f285:=Tryz.func227.trans (congrArg some (by kernel_rfl))
 f286:=Tryz.func228.trans (congrArg some (by kernel_rfl))
 f317:=Tryz.func279.trans (congrArg some (by kernel_rfl))
 f318:=Tryz.func280.trans (congrArg some (by kernel_rfl))
 f319:=Tryz.func281.trans (congrArg some (by kernel_rfl))
 f320:=Tryz.func282.trans (congrArg some (by kernel_rfl))
 f337:=Tryz.func323.trans (congrArg some (by kernel_rfl))
 f338:=Tryz.func324.trans (congrArg some (by kernel_rfl))
 t0:=Tryz.underlying0
 a0:=Tryz.isAgg0
 z0:=Tryz.sizeOf0
 v0:=Tryz.zeroValue0
 t2:=Tryz.underlying2
 a2:=Tryz.isAgg2
 z2:=Tryz.sizeOf2
 v2:=Tryz.zeroValue2
 t3:=Tryz.underlying3
 a3:=Tryz.isAgg3
 z3:=Tryz.sizeOf3
 v3:=Tryz.zeroValue3
 t4:=Tryz.underlying4
 a4:=Tryz.isAgg4
 z4:=Tryz.sizeOf4
 v4:=Tryz.zeroValue4
 t5:=Tryz.underlying5
 a5:=Tryz.isAgg5
 z5:=Tryz.sizeOf5
 v5:=Tryz.zeroValue5
 t9:=Tryz.underlying9
 a9:=Tryz.isAgg9
 z9:=Tryz.sizeOf9
 v9:=Tryz.zeroValue9
 t20:=Tryz.underlying20
 a20:=Tryz.isAgg20
 z20:=Tryz.sizeOf20
 v20:=Tryz.zeroValue20
 t37:=Tryz.underlying92
 a37:=Tryz.isAgg92
 z37:=Tryz.sizeOf92
 v37:=Tryz.zeroValue92
 t46:=Tryz.underlying233
 a46:=Tryz.isAgg233
 z46:=Tryz.sizeOf233
 v46:=Tryz.zeroValue233
 t51:=Tryz.underlying277
 a51:=Tryz.isAgg277
 z51:=Tryz.sizeOf277
 v51:=Tryz.zeroValue277
 t53:=Tryz.underlying270
 a53:=Tryz.isAgg270
 z53:=Tryz.sizeOf270
 v53:=Tryz.zeroValue270
 t171:=Tryz.underlying269
 a171:=Tryz.isAgg269
 z171:=Tryz.sizeOf269
 v171:=Tryz.zeroValue269
 t173:=Tryz.underlying273
 a173:=Tryz.isAgg273
 z173:=Tryz.sizeOf273
 v173:=Tryz.zeroValue273
 t212:=Tryz.underlying320
 a212:=Tryz.isAgg320
 z212:=Tryz.sizeOf320
 v212:=Tryz.zeroValue320
 t213:=Tryz.underlying321
 a213:=Tryz.isAgg321
 z213:=Tryz.sizeOf321
 t232:=Tryz.underlying366
 a232:=Tryz.isAgg366
 z232:=Tryz.sizeOf366
 v232:=Tryz.zeroValue366
 t233:=Tryz.underlying367
 a233:=Tryz.isAgg367
 z233:=Tryz.sizeOf367
 v233:=Tryz.zeroValue367
 g17:=by kernel_rfl
 g18:=by kernel_rfl
 g19:=by kernel_rfl
 i0:=by kernel_rfl
 i2:=by kernel_rfl
 i3:=by kernel_rfl
 i4:=by kernel_rfl
 i5:=by kernel_rfl
 i9:=by kernel_rfl
 i20:=by kernel_rfl
 i37:=by kernel_rfl
 i46:=by kernel_rfl
 i51:=by kernel_rfl
 i53:=by kernel_rfl
 i171:=by kernel_rfl
 i173:=by kernel_rfl
 i212:=by kernel_rfl
 i232:=by kernel_rfl
 i233:=by kernel_rfl
 m17:=by kernel_rfl
 m18:=by kernel_rfl
 m19:=by kernel_rfl }
def Tryz.lays172_ren:Go.Shelf.Ren:=⟨fun|172=>168|244=>223|245=>224|247=>274|279=>275|280=>276|281=>277|282=>278|287=>320|316=>321|171=>60|205=>322|321=>340|322=>341|243=>122|246=>169|283=>225|284=>226|285=>227|286=>228|129=>251|317=>279|318=>280|319=>281|320=>282|337=>323|338=>324|n=>n,fun|9=>9|3=>3|75=>96|76=>97|4=>4|5=>5|167=>313|37=>92|0=>0|85=>314|2=>2|168=>316|53=>270|175=>340|46=>233|210=>343|127=>177|145=>365|143=>363|21=>21|171=>269|173=>273|212=>320|51=>277|20=>20|213=>321|232=>366|233=>367|80=>109|n=>n,fun|15=>3|16=>4|17=>1|18=>8|19=>9|n=>n⟩
theorem Tryz.lays172 : Go.Proofs.LaysC.n172 Tryz.prog Tryz.lays172_ren := {
 mixed:=by kernel_rfl
 f129:=Tryz.func251.trans (congrArg some (by kernel_rfl))
 f171:=Tryz.func60.trans (congrArg some (by kernel_rfl))
 f172:=Tryz.func168.trans (congrArg some (by kernel_rfl))
 f205:=Tryz.func322.trans (congrArg some (by kernel_rfl))
 f243:=Tryz.func122.trans (congrArg some (by kernel_rfl))
 f244:=Tryz.func223.trans (congrArg some (by kernel_rfl))
 f245:=Tryz.func224.trans (congrArg some (by kernel_rfl))
 f246:=Tryz.func169.trans (congrArg some (by kernel_rfl))
 f247:=Tryz.func274.trans (congrArg some (by kernel_rfl))
 f279:=Tryz.func275.trans (congrArg some (by kernel_rfl))
 f280:=Tryz.func276.trans (congrArg some (by kernel_rfl))
 f281:=Tryz.func277.trans (congrArg some (by kernel_rfl))
 f282:=Tryz.func278.trans (congrArg some (by kernel_rfl))
 f283:=Tryz.func225.trans (congrArg some (by kernel_rfl))
 f284:=Tryz.func226.trans (congrArg some (by kernel_rfl))
 f285:=Tryz.func227.trans (congrArg some (by kernel_rfl))
 f286:=Tryz.func228.trans (congrArg some (by kernel_rfl))
 f287:=Tryz.func320.trans (congrArg some (by kernel_rfl))
 f316:=Tryz.func321.trans (congrArg some (by kernel_rfl))
 f317:=Tryz.func279.trans (congrArg some (by kernel_rfl))
 f318:=Tryz.func280.trans (congrArg some (by kernel_rfl))
 f319:=Tryz.func281.trans (congrArg some (by kernel_rfl))
 f320:=Tryz.func282.trans (congrArg some (by kernel_rfl))
 f321:=Tryz.func340.trans (congrArg some (by kernel_rfl))
 f322:=Tryz.func341.trans (congrArg some (by kernel_rfl))
 f337:=Tryz.func323.trans (congrArg some (by kernel_rfl))
 f338:=Tryz.func324.trans (congrArg some (by kernel_rfl))
 t0:=Tryz.underlying0
 a0:=Tryz.isAgg0
 z0:=Tryz.sizeOf0
 v0:=Tryz.zeroValue0
 t2:=Tryz.underlying2
 a2:=Tryz.isAgg2
 z2:=Tryz.sizeOf2
 v2:=Tryz.zeroValue2
 t3:=Tryz.underlying3
 a3:=Tryz.isAgg3
 z3:=Tryz.sizeOf3
 v3:=Tryz.zeroValue3
 t4:=Tryz.underlying4
 a4:=Tryz.isAgg4
 z4:=Tryz.sizeOf4
 v4:=Tryz.zeroValue4
 t5:=Tryz.underlying5
 a5:=Tryz.isAgg5
 z5:=Tryz.sizeOf5
 v5:=Tryz.zeroValue5
 t9:=Tryz.underlying9
 a9:=Tryz.isAgg9
 z9:=Tryz.sizeOf9
 v9:=Tryz.zeroValue9
 t20:=Tryz.underlying20
 a20:=Tryz.isAgg20
 z20:=Tryz.sizeOf20
 v20:=Tryz.zeroValue20
 t21:=Tryz.underlying21
 a21:=Tryz.isAgg21
 z21:=Tryz.sizeOf21
 v21:=Tryz.zeroValue21
 t37:=Tryz.underlying92
 a37:=Tryz.isAgg92
 z37:=Tryz.sizeOf92
 v37:=Tryz.zeroValue92
 t46:=Tryz.underlying233
 a46:=Tryz.isAgg233
 z46:=Tryz.sizeOf233
 v46:=Tryz.zeroValue233
 t51:=Tryz.underlying277
 a51:=Tryz.isAgg277
 z51:=Tryz.sizeOf277
 v51:=Tryz.zeroValue277
 t53:=Tryz.underlying270
 a53:=Tryz.isAgg270
 z53:=Tryz.sizeOf270
 v53:=Tryz.zeroValue270
 t75:=Tryz.underlying96
 a75:=Tryz.isAgg96
 z75:=Tryz.sizeOf96
 v75:=Tryz.zeroValue96
 t76:=Tryz.underlying97
 a76:=Tryz.isAgg97
 z76:=Tryz.sizeOf97
 v76:=Tryz.zeroValue97
 t85:=Tryz.underlying314
 a85:=Tryz.isAgg314
 z85:=Tryz.sizeOf314
 v85:=Tryz.zeroValue314
 t127:=Tryz.underlying177
 a127:=Tryz.isAgg177
 z127:=Tryz.sizeOf177
 v127:=Tryz.zeroValue177
 t143:=Tryz.underlying363
 a143:=Tryz.isAgg363
 z143:=Tryz.sizeOf363
 v143:=Tryz.zeroValue363
 t145:=Tryz.underlying365
 a145:=Tryz.isAgg365
 z145:=Tryz.sizeOf365
 v145:=Tryz.zeroValue365
 t167:=Tryz.underlying313
 a167:=Tryz.isAgg313
 z167:=Tryz.sizeOf313
 v167:=Tryz.zeroValue313
 t168:=Tryz.underlying316
 a168:=Tryz.isAgg316
 z168:=Tryz.sizeOf316
 v168:=Tryz.zeroValue316
 t171:=Tryz.underlying269
 a171:=Tryz.isAgg269
 z171:=Tryz.sizeOf269
 v171:=Tryz.zeroValue269
 t173:=Tryz.underlying273
 a173:=Tryz.isAgg273
 z173:=Tryz.sizeOf273
 v173:=Tryz.zeroValue273
 t175:=Tryz.underlying340
 a175:=Tryz.isAgg340
 z175:=Tryz.sizeOf340
 v175:=Tryz.zeroValue340
 t210:=Tryz.underlying343
 a210:=Tryz.isAgg343
 z210:=Tryz.sizeOf343
 v210:=Tryz.zeroValue343
 t212:=Tryz.underlying320
 a212:=Tryz.isAgg320
 z212:=Tryz.sizeOf320
 v212:=Tryz.zeroValue320
 t213:=Tryz.underlying321
 a213:=Tryz.isAgg321
 z213:=Tryz.sizeOf321
 t232:=Tryz.underlying366
 a232:=Tryz.isAgg366
 z232:=Tryz.sizeOf366
 v232:=Tryz.zeroValue366
 t233:=Tryz.underlying367
 a233:=Tryz.isAgg367
 z233:=Tryz.sizeOf367
 v233:=Tryz.zeroValue367
 g15:=by kernel_rfl
 g16:=by kernel_rfl
 g17:=by kernel_rfl
 g18:=by kernel_rfl
 g19:=by kernel_rfl
 t80:=Tryz.underlying109
 a80:=Tryz.isAgg109
 z80:=Tryz.sizeOf109
 v80:=Tryz.zeroValue109
 i0:=by kernel_rfl
 i2:=by kernel_rfl
 i3:=by kernel_rfl
 i4:=by kernel_rfl
 i5:=by kernel_rfl
 i9:=by kernel_rfl
 i20:=by kernel_rfl
 i21:=by kernel_rfl
 i37:=by kernel_rfl
 i46:=by kernel_rfl
 i51:=by kernel_rfl
 i53:=by kernel_rfl
 i75:=by kernel_rfl
 i76:=by kernel_rfl
 i80:=by kernel_rfl
 i85:=by kernel_rfl
 i127:=by kernel_rfl
 i143:=by kernel_rfl
 i145:=by kernel_rfl
 i167:=by kernel_rfl
 i168:=by kernel_rfl
 i171:=by kernel_rfl
 i173:=by kernel_rfl
 i175:=by kernel_rfl
 i210:=by kernel_rfl
 i212:=by kernel_rfl
 i232:=by kernel_rfl
 i233:=by kernel_rfl
 m15:=by kernel_rfl
 m16:=by kernel_rfl
 m17:=by kernel_rfl
 m18:=by kernel_rfl
 m19:=by kernel_rfl
 c0:=by kernel_rfl
 c2:=by kernel_rfl
 c3:=by kernel_rfl
 c4:=by kernel_rfl
 c5:=by kernel_rfl
 c9:=by kernel_rfl
 c20:=by kernel_rfl
 c21:=by kernel_rfl
 c37:=by kernel_rfl
 c46:=by kernel_rfl
 c51:=by kernel_rfl
 c53:=by kernel_rfl
 c75:=by kernel_rfl
 c76:=by kernel_rfl
 c80:=by kernel_rfl
 c85:=by kernel_rfl
 c127:=by kernel_rfl
 c143:=by kernel_rfl
 c145:=by kernel_rfl
 c167:=by kernel_rfl
 c168:=by kernel_rfl
 c171:=by kernel_rfl
 c173:=by kernel_rfl
 c175:=by kernel_rfl
 c210:=by kernel_rfl
 c212:=by kernel_rfl
 c213:=by kernel_rfl
 c232:=by kernel_rfl
 c233:=by kernel_rfl }
end Go.Proofs
namespace Go.Proofs.YtllefinciimffaaGreatDoor
open Go.RowKit Go.Shelf
theorem VZ {P:Program} {n:String} {cs:Array Value} {w w':World} (h:w.var? P n=some cs) (hb:Bl w w'):w'.var? P n=some cs:=by
 unfold World.var? at h ⊢;cases hg:P.globalNamed n with
 |none=>rw[hg] at h;cases h
 |some g=>
  rw[hg] at h;have hlt:g<w.heap.size:=by
   rcases Nat.lt_or_ge g w.heap.size with hl|hl
   ·exact hl
   ·have h':(match w.heap[g]? with|some (.cells cs _ _)=>some cs|_=>none)=some cs:=h;rw[Array.getElem?_eq_none hl] at h';cases h'
  have he:w'.heap[g]? = w.heap[g]?:=hb.block g hlt;show (match w'.heap[g]? with|some (.cells cs _ _)=>some cs|_=>none)=some cs;rw[he];exact h
structure NumOk (w:World):Prop where
 syn:∃t p,w.var? Tryz.prog "strconv.ErrSyntax" = some #[.iface t p]
 ran:∃t p,w.var? Tryz.prog "strconv.ErrRange" = some #[.iface t p]
 tab:Lib.TabIs Tryz.prog w "internal/strconv.uint64pow10" .u64 Lib.pow10Tab
theorem NumOk.bl {w w':World} (h:NumOk w) (hb:Bl w w'):NumOk w':=
 ⟨let ⟨t,p,e⟩:=h.syn;⟨t,p,VZ e hb⟩,let ⟨t,p,e⟩:=h.ran;⟨t,p,VZ e hb⟩,VZ h.tab hb⟩
theorem aAI (v:Int) (h0:-9223372036854775808≤v) (h1:v≤9223372036854775807) (w:World) (hN:NumOk w) :
 Calls Tryz.prog 60 #[v] w fun e w'=>e=.returned (.string ⟨(Lib.itoa v).toArray⟩)∧Bl w w':=by
 refine Calls.mono (R:=fun e w'=>e=.returned (.string ⟨(Lib.itoa v).toArray⟩)∧∃k os,w'=_) (Any.strconv_Itoa Tryz.lays171 v h0 h1 w hN.tab) ?_;rintro e w' ⟨rfl,k,os,rfl⟩;exact ⟨rfl,Lib.below_grow _ w (Nat.le_refl _) k os⟩
theorem aC2 (s:ByteArray) (hs:s.size≤281474976710656) (v:Int) (h:Lib.atoiAll s.data.toList=.ok v) (w:World) :
 Calls Tryz.prog 168 #[.string s] w fun e w'=>e=.returned (.tuple #[v,.nilIface])∧Bl w w':=by
 refine Calls.mono (R:=fun e w'=>e=.returned (.tuple #[v,.nilIface])∧(w'=w∨∃t,w'=Lib.bytesWorld w _ t)) (Any.strconv_Atoi_ok Tryz.lays172 s (by omega) v h w) ?_;rintro e w' ⟨rfl,rfl|⟨t,rfl⟩⟩
 ·exact ⟨rfl,Bl.refl _⟩
 ·exact ⟨rfl,Lib.bytesWorld_below _ _ _⟩
theorem aAJ (s:ByteArray) (hs:s.size≤281474976710656) (h:∀v,Lib.atoiAll s.data.toList≠.ok v) (w:World) (hN:NumOk w) :
 Calls Tryz.prog 168 #[.string s] w fun e w'=>∃(v:Int) (T:TypeId) (N:Nat),e=.returned (.tuple #[.int .i64 v,.iface T (.pointer (some ⟨N,0,none⟩))])∧Bl w w':=by
 rcases ha:Lib.atoiAll s.data.toList with v|_|_
 ·exact absurd ha (h v)
 ·obtain ⟨t,p,hv⟩:=hN.syn;refine Calls.mono (Any.strconv_Atoi_syntax_var Tryz.lays172 s hs ha t p w hv) ?_;rintro e w' ⟨N,he,-,-,hb⟩;exact ⟨_,_,N,he,hb⟩
 ·obtain ⟨t,p,hv⟩:=hN.ran;refine Calls.mono (Any.strconv_Atoi_range_var Tryz.lays172 s hs ha t p w hv) ?_;rintro e w' ⟨N,he,-,-,hb⟩;exact ⟨_,_,N,he,hb⟩
theorem aC3 {w:World} {base:Nat} {e:TypeId} {size n m cap:Nat} {A:Option Addr} {xs:List Value} (h:w.ownsRow base e size (.slice A m cap) n xs):n≤cap:=by
 rcases h.2 with ⟨hv,hn⟩|⟨g',cap',cur,hv,-,hg,hn,-⟩
 ·injection hv with h1 h2 h3;omega
 ·injection hv with h1 h2 h3;omega
end Go.Proofs.YtllefinciimffaaGreatDoor
namespace Go.Proofs.YtllefinciimffaaGreatDoor
open Go.RowKit
def jW (pe H y:Int):Int:=aG [pe,aF (!inB y 0 (H-1)) 13]
def RunsRes (W H:Int) (an:Nat) (bs:List Bool) (y:Int) (w:World) (e:Ending) (w':World):Prop:=∃R m d err,e=.returned (.tuple #[.slice R m d,.int .i64 err])∧err=jW (aD W H an) H y∧(err≠0→R=none∧m=0) ∧
 (err=0→m=(iW (fun x=>pix bs W.toNat x y.toNat) W.toNat).length∧Reads w' 1 R m (aZ (iW (fun x=>pix bs W.toNat x y.toNat) W.toNat))∧m≤d)∧Bl w w'
theorem FG {W H:Int} {an:Nat} {bs:List Bool} {y:Int} {w w':World} {err:Int} (h:jW (aD W H an) H y=err) (hz:err≠0) (hb:Bl w w'):RunsRes W H an bs y w (.returned (.tuple #[.slice none 0 0,err])) w':=
 ⟨none,0,0,err,rfl,h.symm,fun _=>⟨rfl,rfl⟩,fun h=>absurd h hz,hb⟩
theorem aAK (W H:Int) (A:Option Addr) (an ac:Nat) (bs:List Bool) (y:Int) (w:World) (hA:Reads w 1 A an (bs.map .bool)) (hac:an≤ac) :
 Calls Tryz.prog 236 #[.agg #[W,H,.slice A an ac],y] w (RunsRes W H an bs y w):=by
 let w2:=(w).alloc (.cells #[W,H,.slice A an ac] 43);obtain ⟨w2b,w21⟩:=aLh (x:=w2) w _ _ rfl;have HA:=aLa (hA.bl w2b);have k1:=w21.all3;clear hA
 go_in
 go_wp2_with fail;refine (bM _ _ _ _ _ _).mono ?_;rintro e w3 ⟨rfl,ZL⟩;have hb3:Bl w2 w3:=ZL;clear ZL k1;clear_value w2;obtain ⟨pe,hpe⟩:=aLt (aD W H an);rw[←hpe];have HPe:=aLa hpe;clear hpe;by_cases hz:pe=0;case neg=>
  have hq:(pe != 0)=true:=(by simp[hz]);have HZ:=aLa hz;have HE:=aLa (show jW (aD W H an) H y=pe by
   rw[←HPe.out];show (if pe=0 then _ else pe)=pe;rw[if_neg hz])
  clear hz;go_wp2_with fail;exact aL0 (v:=.tuple #[.slice none 0 0,.int .i64 pe]) (by simp[results,Tryz.results236,go_sem]) rfl (FG HE.out HZ.out (w2b.trans hb3))
 case pos=>
  obtain ⟨W',H',rfl,rfl,rfl,hW4,hH4,hWH⟩:=fG (HPe.out.symm.trans hz);subst hz;have hsz:=aL (fC HPe.out.symm).1;have HE0:=aLa (show jW (aD (W':Int) (H':Int) (W'*H')) (H':Int) y=aF (!inB y 0 ((H':Int)-1)) 13 by
   rw[←HPe.out];unfold jW;cases inB y 0 ((H':Int)-1)<;>rfl)
  have k1:=(w21.bl hb3).all3;by_cases c1:y<0
  ·have HE:=aLa (show jW (aD (W':Int) (H':Int) (W'*H')) (H':Int) y=13 by
    rw[HE0.out,dC.2 (.inl c1)];rfl)
   go_wp2_with fail;exact aL0 (v:=.tuple #[.slice none 0 0,.int .i64 13]) (by simp[results,Tryz.results236,go_sem]) rfl (FG HE.out (by decide) (w2b.trans hb3))
  ·by_cases c2:(H':Int)≤y
   ·have HE:=aLa (show jW (aD (W':Int) (H':Int) (W'*H')) (H':Int) y=13 by
     rw[HE0.out,dC.2 (.inr (by omega))];rfl)
    go_wp2_with fail;exact aL0 (v:=.tuple #[.slice none 0 0,.int .i64 13]) (by simp[results,Tryz.results236,go_sem]) rfl (FG HE.out (by decide) (w2b.trans hb3))
   ·have HE:=aLa (show jW (aD (W':Int) (H':Int) (W'*H')) (H':Int) y=0 by
     rw[HE0.out,aR.2 ⟨by omega,by omega⟩];rfl)
    obtain ⟨Y,rfl⟩:=Int.eq_ofNat_of_zero_le (show 0≤y by omega);have hY:Y<H':=(by omega);obtain ⟨q,hq⟩:=aLt (Y*W');have hqI:(Y:Int)*(W':Int)=(q:Int):=(by rw[hq,aL9]);have hqI2:((Y:Int)+1)*(W':Int)=(q:Int)+(W':Int):=(by rw[Int.add_mul,hqI,Int.one_mul]);have xC:q+W'≤W'*H':=(by rw[hq,←Nat.succ_mul,Nat.mul_comm W' H'];exact Nat.mul_le_mul_right W' hY);have hW1:1≤W':=(by omega);have hqc:q+W'≤ac:=(by omega);obtain ⟨ad,hAd,QI⟩:∃ad,A=some ad∧∀x,x<W'→w2.cell? (ad.add (q+x))=some (.bool (pix bs W' x Y)):=by
     obtain ⟨ad,u,e,-,-⟩:=HA.out.at_ (k:=q) (by omega);refine ⟨ad,e,fun x hx => ?_⟩;obtain ⟨ad',e',h⟩:=sY HA.out (k:=q+x) (by omega);rw[e] at e';obtain rfl:=aLZ e';rw[h];unfold pix;rw[hq]
    subst hAd;have HCl:=aLa QI;obtain ⟨f,hf⟩:∃f,f=fun x=>pix bs W' x Y:=⟨_,rfl⟩;have HF:=aLa hf;have hn1:decide ((Y:Int)<0)=false:=aLW c1;have hn2:¬(H'≤Y):=(by omega);have hn3:¬((H':Int)≤(Y:Int)):=(by omega);clear c1 c2 HE0 QI hf hq;go_upto_region 7 with fail;obtain ⟨w4,hw4⟩:=aLt (w3.alloc (.cells #[.int .i64 0] 3));have hb4:=aLn hw4;have h0:w4.ownsRow w3.heap.size 3 1 (.slice (some ⟨w3.heap.size,0,none⟩) 1 1) 1 (n9 (aV f 0)):=(by rw[hw4];exact aCU);rw[←hw4];clear hw4;have H0:=aLa h0;clear h0 k1;have B0:=hb3.trans hb4;have k1:=(w21.bl B0).all3;go_wp2_with fail;rw[show q+W'-q=W' from Nat.add_sub_cancel_left _ _];go_loopw [38,7,8] (fun u v x wr=>∃k:Nat,k≤W'∧u=.int .i64 k∧x=.bool (tD f k)∧Bl w3 wr∧Hid (wr.ownsRow w3.heap.size 3 1 v ((aV f k).1.length+1) (n9 (aV f k)))) (fun u _ _ _=>W'-(RowKit.intOf u).toNat);case atStart=>exact ⟨0,Nat.zero_le _,rfl,rfl,hb4,H0⟩
    case round=>
     clear k1;obtain ⟨k,hk,rfl,rfl,hbr,cA⟩:=hrel;obtain ⟨g,cap,rfl,hgB,aDN⟩:=lX cA.out (by omega);have aGZ:=aLa aDN;clear aDN;by_cases hlt:k<W'
     ·have hle:=tE f k;have hpx:wr.cell? (ad.add (q+k))=some (.bool (f k)):=by
       have h:=(hb3.trans hbr).at (HCl.out k hlt);rw[HF.out];exact h
      have aJR:wr.cell? ((ad.add q).add k)=some (.bool (f k)):=(by rw[cY];exact hpx);obtain ⟨l,hl⟩:=aLt ((aV f k).1);obtain ⟨c,hc⟩:=aLt ((aV f k).2);have hrc:n9 (aV f k)=aZ l++[.int .i64 c]:=(by rw[hl,hc];rfl);have UG:=cA.out;rw[hrc,←hl] at UG;have hs1:=pN (f:=f) (k:=k);have hs2:=tF (f:=f) (k:=k);rw[←hl,←hc] at hs1 hs2 hle;rw[←hl];have hin:tD f (k+1)=f k:=rfl;obtain ⟨n,hn⟩:=aLt l.length;rw[←hn] at UG hle ⊢;obtain ⟨HOw,HIn,HNl,HBr⟩:=aLc UG hin hn hbr;obtain ⟨p,hp⟩:=aLt (f k);rw[←hp] at HIn hs1 hs2 hpx aJR;obtain ⟨q',hq'⟩:=aLt (tD f k);rw[←hq'] at hs1 hs2 ⊢;have hkn:((n+1:Nat):Int)-1=(n:Int):=(by omega);clear UG cA hrc hl hc hn hp hq' hin hbr;by_cases hpq:p=q'
      ·have HS:=aLa (hs1 hpq);have hcl:wr.cell? ⟨g,n,none⟩=some (.int .i64 c):=uP HOw.out (by rw[aLD (by rw[dH,HNl.out];omega),dH,HNl.out,Nat.sub_self];rfl);have hfz:=(uI HOw.out).2;have ZI:=aLa (show (wr.setCell ⟨g,n,none⟩ (.int .i64 ((c:Int)+1))).ownsRow w3.heap.size 3 1 (.slice (some ⟨g,0,none⟩) (n+1) cap) ((aV f (k+1)).1.length+1) (n9 (aV f (k+1))) by
        have h:=gC HOw.out n (.int .i64 ((c+1:Nat):Int));rw[HNl.out,OR,←HNl.out] at h;rw[HS.out];show World.ownsRow _ _ _ _ _ (l.length+1) (aZ l++[.int .i64 ((c+1:Nat):Int)]);rw[←HNl.out];exact h)
       clear hs1 hs2;go_wp2_with fail;exact ⟨⟨k+1,hlt,by go_num,by rw[HIn.out,hpq],HBr.out.setCell hgB _,ZI⟩,by simp[RowKit.intOf]<;>omega⟩
      ·have HS:=aLa (hs2 hpq);have aJS:(p != q')=true:=(by rw[bne_iff_ne];exact hpq);have hpe:(p==q')=false:=(by rw[aLU];exact hpq);have ZZ:=HBr.out;have t1:w3.heap.size≤wr.heap.size:=ZZ.le;have t2:(n+1+1)*8≤140737488355328:=(by omega);have t3:n+1+1≤maxLen:=(by unfold maxLen;omega);clear hs1 hs2;go_wp2_with (at_builtin;refine dJ (w1:=w3) rfl (.tmp 45) (.tmp 46) 47 rfl 3 (.int .i64 0) 8 Tryz.underlying47 sR rfl w3.heap.size _ (n+1) (aZ l++[.int .i64 c]) rfl (.int .i64 0) rfl ?a1 ?a2 ?a3 ?a4 ?a5 ?a6 ?a7 ?a8;exact rfl;exact ZZ;exact Nat.le_refl _;exact t1;exact HOw.out;exact t2;exact t3;intro v' w8 cF hb8 hg8;obtain ⟨g2,cap2,rfl,hg2,-⟩:=lX cF (by omega);have UH:=aLa cF;have HB8:=aLa hb8;have hcl:w8.cell? ⟨g2,n+1,none⟩=some (.int .i64 0):=uP UH.out (aCT HNl.out c _);have hfz:=(uI UH.out).2;clear cF hb8 hg8);have ZI:=aLa (show (w8.setCell ⟨g2,n+1,none⟩ (.int .i64 1)).ownsRow w3.heap.size 3 1 (.slice (some ⟨g2,0,none⟩) (n+1+1) cap2) ((aV f (k+1)).1.length+1) (n9 (aV f (k+1))) by
        have h:=gC UH.out (n+1) (.int .i64 ((1:Nat):Int));have e:=VK l c 0 1;rw[←HNl.out] at e;rw[show (Value.int .i64 (0:Int))=Value.int .i64 ((0:Nat):Int) from rfl,e] at h;rw[HS.out];show World.ownsRow _ _ _ _ _ ((l++[c]).length+1) (aZ (l++[c])++[.int .i64 ((1:Nat):Int)]);rw[aLy,aLR,←HNl.out];exact h)
       go_wp2_with fail;exact ⟨⟨k+1,hlt,by go_num,by rw[HIn.out],HB8.out.setCell hg2 _,ZI⟩,by simp[RowKit.intOf]<;>omega⟩
     ·obtain rfl:k=W':=(by omega);obtain ⟨A2,c2,e2,hr2⟩:=cU cA.out;injection e2 with q1 _ q3;subst q1;subst q3;have HRr:=aLa hr2;clear hr2 cA;have hll:(iW f k).length=(aV f k).1.length+1:=(by unfold iW;rw[aLy,aLR]);go_wp2_with fail;refine aL0 (v:=.tuple #[.slice (some ⟨g,0,none⟩) ((aV f k).1.length+1) cap,.int .i64 0]) (by simp[results,Tryz.results236,go_sem]) rfl ⟨some ⟨g,0,none⟩,_,cap,0,rfl,HE.out.symm,fun h=>absurd rfl h,fun _ => ?_,w2b.trans (hb3.trans hbr)⟩;simp only[aL8];rw[←HF.out];refine ⟨hll.symm,?_,aGZ.out⟩;rw[←E5];exact HRr.out
theorem Reads.sub {w:World} {n:Nat} {ad:Addr} {xs:List Value} (h:Reads w 1 (some ad) n xs) {s m:Nat} (hs:s+m≤n):Reads w 1 (some (ad.add s)) m ((xs.drop s).take m):=by
 have hl:=h.1;refine ⟨by rw[aLA,aLJ];omega,fun hm=>⟨_,rfl,fun j u hj => ?_⟩⟩;have hjm:j<m:=by
  have:=(aLw.1 hj).1;rw[aLA] at this;omega
 rw[aLH hjm,aLI] at hj;obtain ⟨ad',e,hc⟩:=h.2 (by omega);obtain rfl:=aLZ e;rw[cY];exact hc _ _ hj
def cB (zs:List Int):List Value:=zs.map (.int .i64)
theorem wC {w:World} {A:Option Addr} {zs:List Int} {i:Nat} {z:Int} (h:Reads w 1 A zs.length (cB zs)) (hi:zs[i]? = some z):∃ad,A=some ad∧w.cell? (ad.add i)=some (.int .i64 z):=by
 obtain ⟨ad,u,e,hu,hc⟩:=h.at_ (aLw.1 hi).1;unfold cB at hu;rw[aLG,hi] at hu;obtain rfl:=aLZ hu;exact ⟨ad,e,hc⟩
theorem IX (f:Int→Int→Int) (z0:Int) (r:List Int) {j:Nat} {x:Int} (h:r[j]? = some x):(r.take (j+1)).foldl f z0=f ((r.take j).foldl f z0) x:=by
 rw[aMc,h,List.foldl_append];rfl
def aB7 : List Int → Int
 |[]=>0
 |z :: r=>r.foldl min z
def aB8 : List Int → Int
 |[]=>0
 |z :: r=>r.foldl max z
theorem aC4 (A:Option Addr) (c:Nat) (zs:List Int) (w:World) (hx:Reads w 1 A zs.length (cB zs)) (hp:1≤zs.length) (hl:zs.length≤1048576) :
 Calls Tryz.prog 253 #[.slice A zs.length c] w fun e w'=>e=.returned (.int .i64 (aB7 zs))∧w=w':=by
 obtain ⟨z0,r,hzr⟩:∃z r,zs=z :: r:=by
  cases zs with
  |nil=>simp at hp
  |cons z r=>exact ⟨z,r,rfl⟩
 have cL:zs.length=r.length+1:=(by rw[hzr];rfl);obtain ⟨ad,rfl,c0⟩:=wC hx (i:=0) (z:=z0) (by rw[hzr];rfl);rw[Addr.add_zero'] at c0;obtain ⟨n,hn⟩:=aLt zs.length;obtain ⟨HX,HZ,HN⟩:=aLb hx hzr hn;rw[←hn] at cL hp hl ⊢;have aJT:¬((n:Int)<1):=(by omega);have LC:=aLa cL;have hrl:r.length≤1048576:=(by omega);clear hx hzr hn cL
 go_in
 go_wp2_with fail;go_loopw [4,3] (fun u v wr=>∃j:Nat,j≤r.length∧u=.int .i64 ((j+1:Nat):Int)∧v=.int .i64 ((r.take j).foldl min z0)∧wr=w) (fun u _ _=>n-(RowKit.intOf u).toNat);case atStart=>exact ⟨0,Nat.zero_le _,rfl,rfl,by trivial⟩
 case round=>
  obtain ⟨j,hj,rfl,rfl,rfl⟩:=hrel;by_cases hlt:j<r.length
  ·obtain ⟨x,hx⟩:∃x,r[j]? = some x:=⟨_,aLv hlt⟩;obtain ⟨ad',e,c1⟩:=wC HX.out (i:=j+1) (z:=x) (by rw[HZ.out];exact hx);obtain rfl:=aLZ e;rw[Addr.add_succ'] at c1;have hst:=IX min z0 r hx;obtain ⟨m,hm⟩:=aLt ((r.take j).foldl min z0);rw[←hm] at hst ⊢;have HSt:=aLa hst;have hjI:((j+1:Nat):Int)<(n:Int):=(by have:=LC.out;omega);clear hst hm hx e;go_wp2_with fail;exact ⟨⟨j+1,hlt,by go_num,by rw[HSt.out],by trivial⟩,by have:=LC.out;simp[RowKit.intOf]<;>omega⟩
  ·obtain rfl:j=r.length:=(by omega);have gA:r.take r.length=r:=aLC;rw[gA];have HE:=aLa (show r.foldl min z0=aB7 zs by rw[HZ.out];rfl);have hjI:¬(((r.length+1:Nat):Int)<(n:Int)):=(by have:=LC.out;omega);clear gA;go_wp2_with fail;go_ret;exact ⟨gB HE.out,rfl⟩
theorem aC5 (A:Option Addr) (c:Nat) (zs:List Int) (w:World) (hx:Reads w 1 A zs.length (cB zs)) (hp:1≤zs.length) (hl:zs.length≤1048576) :
 Calls Tryz.prog 254 #[.slice A zs.length c] w fun e w'=>e=.returned (.int .i64 (aB8 zs))∧w=w':=by
 obtain ⟨z0,r,hzr⟩:∃z r,zs=z :: r:=by
  cases zs with
  |nil=>simp at hp
  |cons z r=>exact ⟨z,r,rfl⟩
 have cL:zs.length=r.length+1:=(by rw[hzr];rfl);obtain ⟨ad,rfl,c0⟩:=wC hx (i:=0) (z:=z0) (by rw[hzr];rfl);rw[Addr.add_zero'] at c0;obtain ⟨n,hn⟩:=aLt zs.length;obtain ⟨HX,HZ,HN⟩:=aLb hx hzr hn;rw[←hn] at cL hp hl ⊢;have aJT:¬((n:Int)<1):=(by omega);have LC:=aLa cL;have hrl:r.length≤1048576:=(by omega);clear hx hzr hn cL
 go_in
 go_wp2_with fail;go_loopw [4,3] (fun u v wr=>∃j:Nat,j≤r.length∧u=.int .i64 ((j+1:Nat):Int)∧v=.int .i64 ((r.take j).foldl max z0)∧wr=w) (fun u _ _=>n-(RowKit.intOf u).toNat);case atStart=>exact ⟨0,Nat.zero_le _,rfl,rfl,by trivial⟩
 case round=>
  obtain ⟨j,hj,rfl,rfl,rfl⟩:=hrel;by_cases hlt:j<r.length
  ·obtain ⟨x,hx⟩:∃x,r[j]? = some x:=⟨_,aLv hlt⟩;obtain ⟨ad',e,c1⟩:=wC HX.out (i:=j+1) (z:=x) (by rw[HZ.out];exact hx);obtain rfl:=aLZ e;rw[Addr.add_succ'] at c1;have hst:=IX max z0 r hx;obtain ⟨m,hm⟩:=aLt ((r.take j).foldl max z0);rw[←hm] at hst ⊢;have HSt:=aLa hst;have hjI:((j+1:Nat):Int)<(n:Int):=(by have:=LC.out;omega);clear hst hm hx e;go_wp2_with fail;exact ⟨⟨j+1,hlt,by go_num,by rw[HSt.out],by trivial⟩,by have:=LC.out;simp[RowKit.intOf]<;>omega⟩
  ·obtain rfl:j=r.length:=(by omega);have gA:r.take r.length=r:=aLC;rw[gA];have HE:=aLa (show r.foldl max z0=aB8 zs by rw[HZ.out];rfl);have hjI:¬(((r.length+1:Nat):Int)<(n:Int)):=(by have:=LC.out;omega);clear gA;go_wp2_with fail;go_ret;exact ⟨gB HE.out,rfl⟩
theorem MB (f : Int → Int → Int) (hf : ∀ a b, f a b = a ∨ f a b = b) (lo hi : Int) : ∀ (r : List Int) (z : Int), (lo ≤ z ∧ z ≤ hi) → (∀ x ∈ r, lo ≤ x ∧ x ≤ hi) → lo ≤ r.foldl f z ∧ r.foldl f z ≤ hi
 |[],_,h,_=>h
 |x :: r,z,h,hr=>by
  refine MB f hf lo hi r (f z x) ?_ fun y hy=>hr y (List.mem_cons_of_mem _ hy);rcases hf z x with e|e
  ·rw[e];exact h
  ·rw[e];exact hr x (List.mem_cons_self ..)
theorem V1 {zs:List Int} (hp:1≤zs.length) (h:∀z∈zs,1≤z∧z≤4000):(1≤aB7 zs∧aB7 zs≤4000)∧(1≤aB8 zs∧aB8 zs≤4000):=by
 cases zs with
 |nil=>simp at hp
 |cons z r=>have h1:=h z (List.mem_cons_self ..);have h2:∀x∈r,1≤x∧x≤4000:=fun x hx=>h x (List.mem_cons_of_mem _ hx);exact ⟨MB min (fun a b=>by omega) 1 4000 r z h1 h2,MB max (fun a b=>by omega) 1 4000 r z h1 h2⟩
def FH (r:Int) (zs:List Int):Bool:=decide (aB7 zs+aB8 zs<2*r)
theorem OY (r:Int) (A:Option Addr) (c:Nat) (zs:List Int) (w:World) (hr:1≤r∧r≤4000) (hx:Reads w 1 A zs.length (cB zs)) (hp:1≤zs.length) (hl:zs.length≤1048576) (h:∀z∈zs,1≤z∧z≤4000) :
 Calls Tryz.prog 326 #[r,.slice A zs.length c] w fun e w'=>e=.returned (.bool (FH r zs))∧w=w':=by
 have hmm:=V1 hp h;have h1:=aC4 A c zs w hx hp hl;have h2:=aC5 A c zs w hx hp hl;obtain ⟨lo,hlo⟩:=aLt (aB7 zs);obtain ⟨hi,hhi⟩:=aLt (aB8 zs);rw[←hlo] at h1;rw[←hhi] at h2;rw[←hlo,←hhi] at hmm;obtain ⟨HD,H1,H2⟩:=aLb (show FH r zs=decide (lo+hi<2*r) by rw[hlo,hhi];rfl) h1 h2;clear h1 h2 hlo hhi hx h
 go_in
 go_wp2_with fail;refine H1.out.mono ?_;rintro e w' ⟨rfl,rfl⟩;go_wp2_with fail;refine H2.out.mono ?_;rintro e w' ⟨rfl,rfl⟩;go_wp2_with fail;go_ret;exact ⟨cD HD.out.symm,rfl⟩
end Go.Proofs.YtllefinciimffaaGreatDoor
