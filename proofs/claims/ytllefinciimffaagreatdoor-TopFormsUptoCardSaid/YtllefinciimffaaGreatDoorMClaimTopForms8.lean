import Derived.Test.YtllefinciimffaaGreatDoorMClaimTopForms7
import Derived.Shelf.Vars
import Derived.Shelf.Strings.Search3
import Derived.Shelf.Strings.Prefix
import Derived.Shelf.Strings.Builder2
import Derived.Deep.Onto
set_option maxHeartbeats 20000000
set_option maxRecDepth 100000
namespace Go.Proofs
open Go.Shelf
def Tryz.lays99_ren:Go.Shelf.Ren:=⟨fun|99=>269|206=>315|n=>n,fun|9=>9|4=>4|3=>3|n=>n,fun|n=>n⟩
theorem Tryz.lays99 : Go.Proofs.Lays.n99 Tryz.prog Tryz.lays99_ren := {
 mixed:=by kernel_rfl
 f99:=Tryz.func269.trans (congrArg some (by kernel_rfl))
 f206:=Tryz.func315.trans (congrArg some (by kernel_rfl))
 t3:=Tryz.underlying3
 a3:=Tryz.isAgg3
 z3:=Tryz.sizeOf3
 v3:=Tryz.zeroValue3
 t4:=Tryz.underlying4
 a4:=Tryz.isAgg4
 z4:=Tryz.sizeOf4
 v4:=Tryz.zeroValue4
 t9:=Tryz.underlying9
 a9:=Tryz.isAgg9
 z9:=Tryz.sizeOf9
 v9:=Tryz.zeroValue9 }
def Tryz.lays144_ren:Go.Shelf.Ren:=⟨fun|144=>172|143=>73|219=>133|217=>173|225=>174|224=>175|267=>176|266=>231|314=>232|n=>n,fun|9=>9|4=>4|3=>3|5=>5|46=>233|146=>278|51=>277|n=>n,fun|1=>0|n=>n⟩
theorem Tryz.lays144 : Go.Proofs.Lays.n144 Tryz.prog Tryz.lays144_ren := {
 mixed:=by kernel_rfl
 f143:=Tryz.func73.trans (congrArg some (by kernel_rfl))
 f144:=Tryz.func172.trans (congrArg some (by kernel_rfl))
 f217:=Tryz.func173.trans (congrArg some (by kernel_rfl))
 f219:=Tryz.func133.trans (congrArg some (by kernel_rfl))
 f224:=Tryz.func175.trans (congrArg some (by kernel_rfl))
 f225:=Tryz.func174.trans (congrArg some (by kernel_rfl))
 f266:=Tryz.func231.trans (congrArg some (by kernel_rfl))
 f267:=Tryz.func176.trans (congrArg some (by kernel_rfl))
 f314:=Tryz.func232.trans (congrArg some (by kernel_rfl))
 t3:=Tryz.underlying3
 a3:=Tryz.isAgg3
 z3:=Tryz.sizeOf3
 v3:=Tryz.zeroValue3
 t4:=Tryz.underlying4
 a4:=Tryz.isAgg4
 z4:=Tryz.sizeOf4
 v4:=Tryz.zeroValue4
 t5:=Tryz.underlying5
 a5:=Tryz.isAgg5
 z5:=Tryz.sizeOf5
 v5:=Tryz.zeroValue5
 t9:=Tryz.underlying9
 a9:=Tryz.isAgg9
 z9:=Tryz.sizeOf9
 v9:=Tryz.zeroValue9
 t46:=Tryz.underlying233
 a46:=Tryz.isAgg233
 z46:=Tryz.sizeOf233
 v46:=Tryz.zeroValue233
 t51:=Tryz.underlying277
 a51:=Tryz.isAgg277
 z51:=Tryz.sizeOf277
 v51:=Tryz.zeroValue277
 t146:=Tryz.underlying278
 a146:=Tryz.isAgg278
 z146:=Tryz.sizeOf278
 v146:=Tryz.zeroValue278
 g1:=by kernel_rfl }
end Go.Proofs
namespace Go.Proofs.YtllefinciimffaaGreatDoor
open Go.RowKit Go.Shelf
def SubOk (w:World):Prop:=∃m:Int,w.cell? ⟨Tryz.lays144_ren.g 1,0,none⟩=some (.int .i64 m)
theorem SubOk.bl {w w':World} (h:SubOk w) (hb:Bl w w'):SubOk w':=let ⟨m,hm⟩:=h;⟨m,hb.at hm⟩
theorem cT (s p:List UInt8) (w:World):Calls Tryz.prog 269 #[s,p] w fun e w'=>e=.returned (.bool (Lib.hasPrefix s p))∧w=w':=by
 have h:=Any.strings_HasPrefix Tryz.lays99 ⟨s.toArray⟩ ⟨p.toArray⟩ w;refine Calls.mono (R:=fun e w'=>e=.returned (.bool (Lib.hasPrefix s p))∧w'=w) h ?_;rintro e w' ⟨rfl,rfl⟩;exact ⟨rfl,rfl⟩
theorem IN (s p:List UInt8) (w:World) (hs:s.length<4294967281) (hm:SubOk w):Calls Tryz.prog 172 #[s,p] w fun e w'=>e=.returned (.bool (Lib.contains s p))∧w=w':=by
 obtain ⟨m,hm⟩:=hm;have h:=Any.strings_Contains Tryz.lays144 ⟨s.toArray⟩ ⟨p.toArray⟩ m w (by rw[Lib.size_mk];exact hs) hm;refine Calls.mono (R:=fun e w'=>e=.returned (.bool (Lib.contains s p))∧w'=w) h ?_;rintro e w' ⟨rfl,rfl⟩;exact ⟨rfl,rfl⟩
theorem l9 (l:List UInt8) (k:Nat):(⟨l.toArray⟩:ByteArray).extract k l.length=⟨(l.drop k).toArray⟩:=by
 apply ByteArray.ext;rw[ByteArray.data_extract];apply Array.ext';simp only[Array.toList_extract,List.extract_eq_take_drop];exact aL6 (by simp)
def aB3 : Value → Nat
 |.string s=>s.size
 |_=>0
theorem aB4 {w:World} {L:Option Addr} {ls:List Ltr} {k:Nat} (h:LtrsAt w L ls) (hk:k<ls.length):∃ad,L=some ad∧w.cell? (ad.add (k*4))=some (.string ⟨(gL ls k).toArray⟩)∧w.cell? ⟨(ad.add (k*4)).block,(ad.add (k*4)).off+1,none⟩=some (.int .i64 (ls[k]'hk).W):=by
 have hg:ls[k]? = some ls[k]:=aLv hk;obtain ⟨ad,e,h1,h2,-,-⟩:=h.at_ hg;exact ⟨ad,e,by rw[tB hg];exact h1,h2⟩
end Go.Proofs.YtllefinciimffaaGreatDoor
namespace Go.Proofs
open Go.Shelf
def Tryz.lays241_ren:Go.Shelf.Ren:=⟨fun|241=>316|277=>338|n=>n,fun|70=>91|3=>3|0=>0|72=>94|37=>92|5=>5|n=>n,fun|n=>n⟩
theorem Tryz.lays241 : Go.Proofs.Lays.n241 Tryz.prog Tryz.lays241_ren := {
 mixed:=by kernel_rfl
 f241:=Tryz.func316.trans (congrArg some (by kernel_rfl))
 f277:=Tryz.func338.trans (congrArg some (by kernel_rfl))
 t0:=Tryz.underlying0
 a0:=Tryz.isAgg0
 z0:=Tryz.sizeOf0
 v0:=Tryz.zeroValue0
 t3:=Tryz.underlying3
 a3:=Tryz.isAgg3
 z3:=Tryz.sizeOf3
 v3:=Tryz.zeroValue3
 t37:=Tryz.underlying92
 a37:=Tryz.isAgg92
 z37:=Tryz.sizeOf92
 v37:=Tryz.zeroValue92
 t70:=Tryz.underlying91
 a70:=Tryz.isAgg91
 z70:=Tryz.sizeOf91
 v70:=Tryz.zeroValue91
 t72:=Tryz.underlying94
 a72:=Tryz.isAgg94
 z72:=Tryz.sizeOf94
 v72:=Tryz.zeroValue94 }
theorem Tryz.builderExtra241:Builder.Extra Tryz.prog Tryz.lays241_ren where
 sizeBuilder:=by kernel_rfl
 liesBuilder:=by kernel_rfl
 t5:=Tryz.underlying5
 a5:=Tryz.isAgg5
 z5:=Tryz.sizeOf5
 v5:=Tryz.zeroValue5
 infoByte:=by kernel_rfl
 cellsByte:=by kernel_rfl
 sizeByte:=by kernel_rfl
 neB5:=by decide
end Go.Proofs
namespace Go.Proofs.YtllefinciimffaaGreatDoor
open Go.RowKit Go.Shelf
theorem tG (B n:Nat) (w:World) (hB:B=w.heap.size) (hn:n≤1048576) :
 Calls Tryz.prog 270 #[.pointer (some ⟨B,0,none⟩),n] (w.alloc (.cells #[.pointer none,.slice none 0 0] 94)) fun e w'=>e=.returned (.tuple #[])∧Bui B [] w'∧Bl w w':=by
 subst hB;obtain ⟨w0,hw0⟩:=aLt (w.alloc (.cells #[.pointer none,.slice none 0 0] 94));obtain ⟨B,hB⟩:=aLt w.heap.size;have hbk:w0.heap[B]? = some (.cells #[.pointer none,.slice none 0 0] 94 (0,0)):=(by rw[hw0,hB];exact heap_alloc_new w _);have hb0:=aLn hw0;have hBw:B≤w0.heap.size:=(by rw[hB];exact hb0.le);rw[←hw0,←hB];have HB:=aLa hB;clear hw0 hB;have aDH:(w0.setCell ⟨B,0,none⟩ (.pointer (some ⟨B,0,none⟩))).heap[B]? = some (.cells #[.pointer (some ⟨B,0,none⟩),.slice none 0 0] 94 (0,0)):=by
  simp[World.setCell,Array.getElem?_modify,hbk]
 have c1:(w0.setCell ⟨B,0,none⟩ (.pointer (some ⟨B,0,none⟩))).cell? ⟨B,1,none⟩=some (.slice none 0 0):=(by rw[Lib.cell_of_heap aDH];rfl);have hb1:Bl w (w0.setCell ⟨B,0,none⟩ (.pointer (some ⟨B,0,none⟩))):=hb0.setCell (by rw[HB.out];exact Nat.le_refl _) _;have hck:=nY B w0 (by rw[Lib.cell_of_heap hbk];rfl) (by simp[World.shape?,hbk]) (Lib.frozen_of_heap hbk 0);have Hck:=aLa hck;obtain ⟨w1,hw1⟩:=aLt (w0.setCell ⟨B,0,none⟩ (.pointer (some ⟨B,0,none⟩)));have GP:B≤w1.heap.size:=(by rw[hw1];simpa using hBw);rw[←hw1] at aDH c1 hb1;have HW1:=aLa hw1;have aFW:=aLa aDH;clear hck hw1 hbk
 go_in
 go_wp2_with fail;refine Hck.out.mono ?_;rintro e w2 ⟨rfl,rfl⟩;rw[←HW1.out];have hU:Bui B [] w1:=Or.inr (Lib.BuilderAtF.of ⟨Nat.le_refl _,.slice none 0 0,aFW.out,World.ownsRow_nil _ _ _ _,by simp[Value.ownBlock]⟩);have HU:=aLa hU;clear hU;go_upto_region 3 with fail;refine aLs [aLq 0,aLq 1,aLq 2,aLq 3,aLq 4,aLq 5,aLq 6,aLq 7,aLq 8,aLq 9,aLq 10,aLq 11,aLq 12] (by kernel_rfl) ?_;apply Flow.mv _ rfl
 ·intro a b;simp only[sqA,Act.eval,sqC];exact b
 iterate 4
  apply Flow.calm2 _ _ rfl rfl
  ·intro a b c d;obtain ⟨e,f⟩:=b.rule;go_simp;(try go_ints);exact d
  ·intro a b;simp only[sqA];exact b
 apply Flow.mv _ rfl
 ·intro a b;simp only[sqA,Act.eval,sqC];exact b
 iterate 5
  apply Flow.calm2 _ _ rfl rfl
  ·intro a b c d;obtain ⟨e,f⟩:=b.rule;go_simp;(try go_ints);exact d
  ·intro a b;simp only[sqA];exact b
 apply Flow.mv _ rfl
 ·intro a b;simp only[sqA,Act.eval,sqC];exact b
 apply Flow.calm2 _ _ rfl rfl
 ·intro a b c d;obtain ⟨e,f⟩:=b.rule;go_simp;(try go_ints);exact d
 ·intro a b;simp only[sqA];exact b
 refine Flow.done ?_;by_cases h0:n=0
 ·subst h0;go_wp2_with fail
  go_end0
  exact ⟨rfl,fQ HU.out (Bl.refl _).drew,hb1.drew⟩
 ·have hlt:(0:Int)<(n:Int):=(by omega);go_wp2_with fail;refine (Any.Builder_grow_fresh Tryz.lays241 Tryz.builderExtra241 B B n w1.drew (Nat.le_refl _) aFW.out (by simpa using GP) (by omega)).mono ?_;rintro e w2 ⟨rfl,h1,h2⟩;go_wp2_with fail
  go_end0
  exact ⟨rfl,Or.inr (Lib.BuilderAtF.of h1),Bl.trans' hb1.drew HB.out.symm h2⟩
end Go.Proofs.YtllefinciimffaaGreatDoor
namespace Go.Proofs.YtllefinciimffaaGreatDoor
open Go.RowKit
theorem aMk:(Tryz.prog.info? 157).map (fun i=>(i.zero,i.size,i.bytes))=some (some (.agg #[.string ⟨#[]⟩,.int .i64 0,.int .i64 0,.int .i64 0,.int .i64 0,.int .i64 0,.int .i64 0]),7,64):=by kernel_rfl
def d8 (e g:Int) (H:Nat):List Value:=[.string ⟨#[32]⟩,.int .i64 e,.int .i64 0,.int .i64 g,.int .i64 H,.int .i64 0,.int .i64 (-1)]
def bD (ps:List Piece) (i:Nat):Piece:=ps.getD i (0,0)
def kV (ps:List Piece) (i:Nat):Int:=(bD ps i).1+(bD ps i).2
def iX (ps:List Piece) (i:Nat):Int:=(bD ps i).1-kV ps (i-1)
def cC (see : Piece → List Value) (gs : Int) (H : Nat) (ps : List Piece) : Nat → List (List Value)
 |0=>[]
 |i+1=>cC see gs H ps i++(if 0<i∧gs≤iX ps i then [d8 (kV ps (i-1)) (iX ps i) H] else [])++[see (bD ps i)]
theorem OS (see : Piece → List Value) (gs : Int) (H : Nat) (ps : List Piece) : ∀ i, (cC see gs H ps i).length ≤ 2 * i
 |0=>Nat.le_refl _
 |i+1=>by
  have ih:=OS see gs H ps i;show (cC see gs H ps i++(if 0<i∧gs≤iX ps i then [d8 (kV ps (i-1)) (iX ps i) H] else [])++[see (bD ps i)]).length≤_;rw[aLy,aLy];split<;>simp<;>omega
theorem aB5 {w:World} {A:Option Addr} {H:Nat} {ps:List Piece} {i:Nat} {p:Piece} (h:Reads w 4 A ps.length (bR H ps)) (hi:ps[i]? = some p):∃ad,A=some ad∧w.cell? (ad.add (i*4))=some (.int .i64 p.1)∧w.cell? ⟨(ad.add (i*4)).block,(ad.add (i*4)).off+1,none⟩=some (.int .i64 0) ∧
 w.cell? ⟨(ad.add (i*4)).block,(ad.add (i*4)).off+2,none⟩=some (.int .i64 p.2)∧w.cell? ⟨(ad.add (i*4)).block,(ad.add (i*4)).off+3,none⟩=some (.int .i64 H):=by
 have hlt:i<ps.length:=(aLw.1 hi).1;obtain ⟨ad,e,hc⟩:=h.2 (by omega);have key:∀j v,j<4→([.int .i64 p.1,.int .i64 0,.int .i64 p.2,.int .i64 H]:List Value)[j]? = some v→w.cell? ((ad.add (i*4)).add j)=some v:=fun j v hj hv=>by
  rw[cY];exact hc _ _ (by rw[lF hi j hj];exact hv)
 have k0:=key 0 _ (by omega) rfl;have k1:=key 1 _ (by omega) rfl;have k2:=key 2 _ (by omega) rfl;have k3:=key 3 _ (by omega) rfl;rw[Addr.add_zero'] at k0;rw[Addr.add_succ'] at k1 k2 k3;exact ⟨ad,e,k0,k1,k2,k3⟩
theorem IP (b:Best) (X W H:Nat) (most ht:Int):∃(t:List UInt8) (d1 d2:Int),dD b X W H most ht=[.string ⟨t.toArray⟩,.int .i64 X,.int .i64 0,.int .i64 W,.int .i64 H,.int .i64 d1,.int .i64 d2]:=by
 unfold dD;split
 ·exact ⟨[63],-1,-1,rfl⟩
 ·exact ⟨b.1,b.2.1,b.2.2,rfl⟩
theorem VM {w:World} {base:Nat} {e:TypeId} {size n:Nat} {v:Value} {xs:List Value} (h:w.ownsRow base e size v n xs) {q:Nat} (hq:w.heap.size≤q):some q≠v.ownBlock:=fun e=>by
 have:=(h.lt q e.symm).2;omega
def iR (bs:List Bool) (W H:Nat) (ls:List Ltr) (most ht:Int) (p:Piece):List Value:=dD (cQ (eS p.2 H (kR bs W p.1 0)) p.2 H [] ls) p.1 p.2 H most ht
def rX (fe pe bH ht most:Int):Int:=aG [fe,pe,aF (bH != ht) 11,aF (!inB most 0 1000) 3]
def ReadRes (w:World) (fe:Int) (gap sp ht:Int) (ls:List Ltr) (W H:Int) (an:Nat) (bs:List Bool) (most:Int) (R:Option Addr) (m:Nat) (err:Int):Prop:=
 err=rX fe (aD W H an) H ht most∧(err≠0→R=none∧m=0) ∧
 (err = 0 → m = (cC (iR bs W.toNat H.toNat ls most ht) ((gap + sp + 1) / 2) H.toNat (aB (lP bs W.toNat H.toNat) W.toNat) (aB (lP bs W.toNat H.toNat) W.toNat).length).length ∧
   Reads w 7 R m (cC (iR bs W.toNat H.toNat ls most ht) ((gap+sp+1) / 2) H.toNat (aB (lP bs W.toNat H.toNat) W.toNat) (aB (lP bs W.toNat H.toNat) W.toNat).length).flatten)
theorem RK {fe pe bH ht most:Int} (h:fe≠0):rX fe pe bH ht most=fe:=by
 show (if fe=0 then _ else fe)=fe;rw[if_neg h]
theorem RM {pe bH ht most:Int} (h:pe≠0):rX 0 pe bH ht most=pe:=by
 show (if pe=0 then _ else pe)=pe;rw[if_neg h]
theorem VN {bH ht most:Int} (h:(bH != ht)=true):rX 0 0 bH ht most=11:=by
 unfold rX;rw[h];rfl
theorem tH {bH ht most:Int} (h:(bH != ht)=false):rX 0 0 bH ht most=aF (!inB most 0 1000) 3:=by
 unfold rX;rw[h];cases inB most 0 1000<;>rfl
def ReadOwn (B:Nat) (w:World) (fe:Int) (gap sp ht:Int) (ls:List Ltr) (W H:Int) (an:Nat) (bs:List Bool) (most:Int) (R:Option Addr) (m d:Nat) (err:Int):Prop:=
 ReadRes w fe gap sp ht ls W H an bs most R m err∧(err=0→w.ownsRow B 157 7 (.slice R m d) m (cC (iR bs W.toNat H.toNat ls most ht) ((gap+sp+1) / 2) H.toNat (aB (lP bs W.toNat H.toNat) W.toNat) (aB (lP bs W.toNat H.toNat) W.toNat).length).flatten)
theorem VO (nm:List UInt8) (ht gap sp:Int) (L:Option Addr) (c:Nat) (ls:List Ltr) (W H:Int) (A:Option Addr) (an ac:Nat) (bs:List Bool) (most:Int) (w:World) (hL:LtrsAt w L ls) (hA:Reads w 1 A an (bs.map .bool)) (hnm:nm.length≤9223372036854775807) (hn:ls.length≤9223372036854775807) :
 Calls Tryz.prog 139 #[.agg #[nm,ht,gap,sp,.slice L ls.length c],.agg #[W,H,.slice A an ac],most] w fun e w'=>∃R m d err,e=.returned (.tuple #[.slice R m d,.int .i64 err])∧ReadOwn w.heap.size w' (bN (dA nm) ht gap sp ls) gap sp ht ls W H an bs most R m d err∧Bl w w':=by
 let w2:=((w).alloc (.cells #[nm,ht,gap,sp,.slice L ls.length c] 46)).alloc (.cells #[W,H,.slice A an ac] 43);obtain ⟨w2b,w21,w22⟩:=aLi (x:=w2) w _ _ _ _ rfl;have HL:=aLa (hL.bl w2b);have HA:=aLa (hA.bl w2b);obtain ⟨fe,hfe⟩:=aLt (bN (dA nm) ht gap sp ls);have hck:=nG nm ht gap sp L c ls w2 (hL.bl w2b) hnm hn;rw[←hfe] at hck ⊢;have Hck:=aLa hck;have HFe:=aLa hfe;have k1:=w21.all5;clear hL hA hck hfe
 go_in
 go_wp2_with fail;refine Hck.out.mono ?_;rintro e w3 ⟨rfl,hb3⟩;clear_value w2;clear k1 Hck;by_cases hz:fe=0;case neg=>
  have hq:(fe==0)=false:=(by simp[hz]);have HZ:=aLa hz;clear hz;go_wp2_with fail;try simp only[Exit.inBlock,Exit.then]
  refine aL0 (v:=.tuple #[.slice none 0 0,fe]) (by simp[results,Tryz.results139,go_sem]) rfl ⟨none,0,0,fe,rfl,⟨⟨(RK HZ.out).symm,fun _=>⟨rfl,rfl⟩,fun h=>absurd h HZ.out⟩,fun h=>absurd h HZ.out⟩,w2b.trans hb3⟩
 case pos=>
  subst hz;have k2:=(w22.bl hb3).all3;have Hpc:=aLa (yL W H A an ac bs w3 (HA.out.bl hb3));go_wp2_with fail;refine Hpc.out.mono ?_;rintro e w4 ⟨R0,m0,d0,rfl,hp1,hp2,hb4⟩;have B0:=hb3.trans hb4;obtain ⟨pe,hpe⟩:=aLt (aD W H an);rw[←hpe] at hp1 hp2 ⊢;obtain ⟨HPe,HP1,HP2⟩:=aLb hpe hp1 hp2;clear hpe hp1 hp2 k2 Hpc;by_cases hz:pe=0;case neg=>
   have hq:(pe==0)=false:=(by simp[hz]);have HZ:=aLa hz;clear hz;go_wp2_with fail;try simp only[Exit.inBlock,Exit.then]
   refine aL0 (v:=.tuple #[.slice none 0 0,pe]) (by simp[results,Tryz.results139,go_sem]) rfl ⟨none,0,0,pe,rfl,⟨⟨(by rw[←HPe.out,RM HZ.out]),fun _=>⟨rfl,rfl⟩,fun h=>absurd h HZ.out⟩,fun h=>absurd h HZ.out⟩,w2b.trans B0⟩
  case pos=>
   subst hz;have k1:=(w21.bl B0).all5;have k2:=(w22.bl B0).all3;by_cases c1:H=ht;case neg=>
    have q1:(H != ht)=true:=(by simp[c1]);have Q1:=aLa q1;clear c1;go_wp2_with fail;try simp only[Exit.inBlock,Exit.then]
    refine aL0 (v:=.tuple #[.slice none 0 0,.int .i64 11]) (by simp[results,Tryz.results139,go_sem]) rfl ⟨none,0,0,11,rfl,⟨⟨(by rw[←HPe.out,VN Q1.out]),fun _=>⟨rfl,rfl⟩,fun h=>absurd h (by decide)⟩,fun h=>absurd h (by decide)⟩,w2b.trans B0⟩
   case pos=>
    have q1:(H != ht)=false:=(by simp[c1]);have Q1:=aLa q1;have HC1:=aLa c1;clear c1;by_cases c2:most<0
    ·have HM:=aLa (show aF (!inB most 0 1000) 3=3 by
      have:inB most 0 1000=false:=(by cases h:inB most 0 1000 with|false=>rfl|true=>have:=aR.1 h;omega);rw[this];rfl)
     go_wp2_with fail;try simp only[Exit.inBlock,Exit.then]
     refine aL0 (v:=.tuple #[.slice none 0 0,.int .i64 3]) (by simp[results,Tryz.results139,go_sem]) rfl ⟨none,0,0,3,rfl,⟨⟨(by rw[←HPe.out,tH Q1.out,HM.out]),fun _=>⟨rfl,rfl⟩,fun h=>absurd h (by decide)⟩,fun h=>absurd h (by decide)⟩,w2b.trans B0⟩
    ·by_cases c3:1000<most
     ·have HM:=aLa (show aF (!inB most 0 1000) 3=3 by
       have:inB most 0 1000=false:=(by cases h:inB most 0 1000 with|false=>rfl|true=>have:=aR.1 h;omega);rw[this];rfl)
      go_wp2_with fail;try simp only[Exit.inBlock,Exit.then]
      refine aL0 (v:=.tuple #[.slice none 0 0,.int .i64 3]) (by simp[results,Tryz.results139,go_sem]) rfl ⟨none,0,0,3,rfl,⟨⟨(by rw[←HPe.out,tH Q1.out,HM.out]),fun _=>⟨rfl,rfl⟩,fun h=>absurd h (by decide)⟩,fun h=>absurd h (by decide)⟩,w2b.trans B0⟩
     ·have HM:=aLa (show aF (!inB most 0 1000) 3=0 by
       have:inB most 0 1000=true:=aR.2 (by omega);rw[this];rfl)
      have hp0:=HPe.out.symm;obtain ⟨W,H,rfl,rfl,rfl,hW,hH,hWH⟩:=fG hp0;have hsz:=aL (fC hp0).1;obtain ⟨⟨-,hrg,-,aJI,hls,aIf,aIg⟩,aDI⟩:=kD HFe.out.symm;have aJJ:1≤gap∧gap≤16∧1≤sp∧sp≤64:=by
       unfold fY at hrg;simp only[aLV] at hrg;have h1:=aR.1 hrg.2.1;have h2:=aR.1 hrg.2.2;exact ⟨h1.1,h1.2,h2.1,h2.2⟩
      have hht:=HC1.out;subst hht;have hR:=HP2.out rfl;simp only[aL8] at hR;obtain ⟨ps,hps⟩:=aLt (aB (lP bs W H) W);rw[←hps] at hR;obtain ⟨rfl,hR⟩:=hR;have hin:∀p∈ps,1≤p.2∧p.1+p.2≤W:=(by rw[hps];exact pJ _ W);have hpl:ps.length≤W:=(by rw[hps];exact qF _ W);obtain ⟨gs,hgs⟩:=aLt ((gap+sp+1) / 2);have e0:(gap+sp+1).tdiv 2=gs:=(by rw[hgs];exact Int.tdiv_eq_ediv_of_nonneg (by omega));have e1:(gap+sp+1) / 2=gs:=hgs.symm;obtain ⟨see,QM⟩:=aLt (iR bs W H ls most (H:Int));have h0:w4.ownsRow w4.heap.size 157 7 (.slice none 0 0) (cC see gs H ps 0).length (cC see gs H ps 0).flatten:=World.ownsRow_nil _ _ _ _;obtain ⟨HR,HIn,HPs,HGs,aGS,HLt⟩:=aLe hR hin hps hgs QM aDI;have hszs:1≤W∧1≤H:=(by omega);clear hp0 hsz hrg aDI hR hin hps hgs QM HP1 HP2 aJI;go_wp2_with fail;go_loopw [45,11] (fun u v wr=>∃i:Nat,i≤ps.length∧u=.int .i64 i∧Bl w4 wr∧wr.ownsRow w4.heap.size 157 7 v (cC see gs H ps i).length (cC see gs H ps i).flatten) (fun u _ _=>ps.length-(RowKit.intOf u).toNat);case atStart=>exact ⟨0,Nat.zero_le _,rfl,Bl.refl _,h0⟩
      case round=>
       obtain ⟨i,hi,rfl,hbr,cA⟩:=hrel;clear k1 k2;obtain ⟨R1,c1',rfl,-,-⟩:=uE cA;have HOw:=aLa cA;clear cA;by_cases hlt:i<ps.length
       ·have hg:ps[i]? = some ps[i]:=aLv hlt;obtain ⟨p,hp⟩:=aLt (ps[i]);rw[←hp] at hg;clear hp;obtain ⟨X,bw⟩:=p;have hpi:1≤bw∧X+bw≤W:=HIn.out _ (List.mem_of_getElem? hg);have hpa:bD ps i=(X,bw):=(by unfold bD;rw[aLx,hg];rfl);have hll:=OS see gs H ps i;have hst:cC see gs H ps (i+1)=cC see gs H ps i++(if 0<i∧gs≤iX ps i then [d8 (kV ps (i-1)) (iX ps i) H] else [])++[see (bD ps i)]:=rfl;obtain ⟨sp2,aBF⟩:∃x,x=(if 0<i∧gs≤iX ps i then [d8 (kV ps (i-1)) (iX ps i) H] else []):=⟨_,rfl⟩;rw[←aBF,hpa] at hst;have hsl:sp2.length≤1:=(by rw[aBF];split<;>simp);obtain ⟨adb,rfl,j0,j1,j2,j3⟩:=aB5 (HR.out.bl hbr) hg;obtain ⟨n0,hn0⟩:=aLt ((cC see gs H ps i).length);have hn0l:n0≤2*i:=(by omega);have HOw:=aLa (show wr.ownsRow w4.heap.size 157 7 (.slice R1 n0 c1') n0 (cC see gs H ps i).flatten by rw[hn0];exact HOw.out);rw[←hn0];obtain ⟨HG,HSt,HSp,HN0,HPa⟩:=aLd hg hst aBF hn0 hpa;clear hg hst aBF hn0 hpa hll;have k1:=(w21.bl (B0.trans hbr)).all5;have k2:=(w22.bl (B0.trans hbr)).all3;go_upto_region 15 with fail;obtain ⟨w5,hw5⟩:=aLt (wr.alloc (.cells #[X,.int .i64 0,bw,H] 58));obtain ⟨q,hq⟩:=aLt wr.heap.size;have bq:=aLp hw5 hq;have aEX:=aLn hw5;have hap:some q≠(Value.slice R1 n0 c1').ownBlock:=VM HOw.out (by omega);rw[←hw5,←hq];have aGT:=aLa (fX HOw.out aEX);have HAp:=aLa hap;have hb5:=hbr.trans aEX;clear hw5 hq j0 j1 j2 j3 k1 k2 hap HOw;have k1:=(w21.bl (B0.trans hb5)).all5;have k2:=(w22.bl (B0.trans hb5)).all3;have k9:=bq.all4;go_upto_if 51 with fail;go_cut [11,14,15] from 50 to 86 (fun s11 _ _ wc=>wc.ownsRow w4.heap.size 157 7 s11 (n0+sp2.length) ((cC see gs H ps i).flatten++sp2.flatten)∧Blk wc q 58 #[X,.int .i64 0,bw,H]∧Bl w4 wc);case first=>
         by_cases hi0:0<i
         ·obtain ⟨k,hik⟩:∃k,i=k+1:=⟨i-1,by omega⟩;have hgk:ps[k]? = some ps[k]:=aLv (by omega);obtain ⟨p,hp⟩:=aLt (ps[k]'(by omega));rw[←hp] at hgk;clear hp;obtain ⟨X',bw'⟩:=p;have hpk:1≤bw'∧X'+bw'≤W:=HIn.out _ (List.mem_of_getElem? hgk);obtain ⟨ad',e',j0,j1,j2,j3⟩:=aB5 (HR.out.bl hb5) hgk;injection e' with e';subst e';have BX:kV ps (i-1)=(X':Int)+(bw':Int):=by
           unfold kV bD;rw[show i-1=k by omega,aLx,hgk];rfl
          have aEY:iX ps i=(X:Int)-((X':Int)+(bw':Int)):=by
           unfold iX;rw[BX,HPa.out]
          have hsp:=HSp.out;rw[BX,aEY] at hsp;have aFR:(i:Int)-1=(k:Int):=(by omega);have hklt:(k:Int)<(ps.length:Int):=(by omega);have aIh:=aLa hsp;clear hsp BX aEY hgk hik;go_upto_region 16 with fail;refine aLs [aLq 0,aLq 1,aLq 2,aLq 3,aLq 4,aLq 5,aLq 6,aLq 7,aLq 8,aLq 9,aLq 10,aLq 11,aLq 12,aLq 13] (by kernel_rfl) ?_
          iterate 2
           apply Flow.mv _ rfl
           ·intro a b;simp only[sqA,Act.eval,sqC];exact b
          iterate 4
           apply Flow.calm2 _ _ rfl rfl
           ·intro a b c d;obtain ⟨e,f⟩:=b.rule;go_simp;(try go_ints);exact d
           ·intro a b;simp only[sqA];exact b
          iterate 2
           apply Flow.mv _ rfl
           ·intro a b;simp only[sqA,Act.eval,sqC];exact b
          iterate 5
           apply Flow.calm2 _ _ rfl rfl
           ·intro a b c d;obtain ⟨e,f⟩:=b.rule;go_simp;(try go_ints);exact d
           ·intro a b;simp only[sqA];exact b
          apply Flow.asg _ rfl
          ·intro a b;simp only[sqA,Act.eval,sqC];exact b
          refine Flow.done ?_;by_cases hq:gs≤(X:Int)-((X':Int)+(bw':Int))
          ·have HE:=aLa (show sp2=[d8 ((X':Int)+(bw':Int)) ((X:Int)-((X':Int)+(bw':Int))) H] by rw[aIh.out];exact if_pos ⟨hi0,hq⟩);go_wp2_with (at_builtin;refine aQ (w1:=w4) rfl (.tmp 78) (.tmp 85) 154 rfl 157 (.agg #[.string ⟨#[]⟩,.int .i64 0,.int .i64 0,.int .i64 0,.int .i64 0,.int .i64 0,.int .i64 0]) 7 64 Tryz.underlying154 aMk rfl (by omega) w4.heap.size _ n0 (cC see gs H ps i).flatten rfl (hb5.drew.alloc _) (Nat.le_refl _) ?hBr ((fX aGT.out (Bl.refl _).drew).alloc _) (some ⟨w5.heap.size,0,none⟩) 1 1 (d8 ((X':Int)+(bw':Int)) ((X:Int)-((X':Int)+(bw':Int))) H) rfl ((Blk.new _ _ _).reads 1 7 rfl) ?h1 ?c1 ?c2 ?_);case hBr=>have:=hb5.le;first|omega|(simp;omega)
           case h1=>simp[d8,Value.oneCell']
           case c1=>unfold maxLen;omega
           case c2=>omega
           intro v' w8 cF hb8 hg8;have bq8:=(bq.drew.alloc _).grown hg8 HAp.out;obtain ⟨HO8,Bq8,Hb8⟩:=aLb cF bq8 hb8;clear cF bq8 hb8 hg8;go_wp2_with fail;go_meet;case rel=>exact ⟨by rw[HE.out];simpa using HO8.out,Bq8.out,Hb8.out⟩
          ·have HE:=aLa (show sp2=[] by rw[aIh.out];exact if_neg (fun h=>hq h.2));go_wp2_with fail;go_meet;case rel=>exact ⟨by rw[HE.out];simpa using fX aGT.out (Bl.refl _).drew,bq.drew,hb5.drew⟩
         ·have HE:=aLa (show sp2=[] by rw[HSp.out];exact if_neg (fun h=>hi0 h.1));go_wp2_with fail;go_meet;case rel=>exact ⟨by rw[HE.out];simpa using aGT.out,bq,hb5⟩
        case rest=>
         obtain ⟨cA,bq6,hb6⟩:=hcut;rename World=>w6;clear k1 k2 k9;have k1:=(w21.bl (B0.trans hb6)).all5;have k2:=(w22.bl (B0.trans hb6)).all3;have k9:=bq6.all4;obtain ⟨R3,c3,rfl,-,-⟩:=uE cA;have HO6:=aLa cA;clear cA;have hsc:=aCR nm (H:Int) gap sp L c ls W H X bw A ac bs most w6 (HL.out.bl (B0.trans hb6)) (HA.out.bl (B0.trans hb6)) hW (by omega) hWH hpi.2 hpi.1 (fun l hl=>⟨(HLt.out l hl).2.1,(HLt.out l hl).2.2.2⟩) hls (by omega) (by omega);obtain ⟨t,d1,d2,hsf⟩:=IP (cQ (eS bw H (kR bs W X 0)) bw H [] ls) X bw H most (H:Int);rw[hsf] at hsc;have QM:see (X,bw)=[.string ⟨t.toArray⟩,.int .i64 X,.int .i64 0,.int .i64 bw,.int .i64 H,.int .i64 d1,.int .i64 d2]:=(by rw[aGS.out];exact hsf);have Hsc:=aLa hsc;have HSe:=aLa QM;clear hsc hsf QM;go_wp2_with fail;refine Hsc.out.mono ?_;rintro e w7 ⟨rfl,QJ⟩;have hb7:=hb6.trans QJ;have HO7:=aLa (fX HO6.out QJ);clear k1 k2 k9 Hsc;go_wp2_with (at_builtin;refine aQ (w1:=w4) rfl (.tmp 87) (.tmp 93) 154 rfl 157 (.agg #[.string ⟨#[]⟩,.int .i64 0,.int .i64 0,.int .i64 0,.int .i64 0,.int .i64 0,.int .i64 0]) 7 64 Tryz.underlying154 aMk rfl (by omega) w4.heap.size _ (n0+sp2.length) ((cC see gs H ps i).flatten++sp2.flatten) rfl (hb7.alloc _) ?hB ?hBr (HO7.out.alloc _) (some ⟨w7.heap.size,0,none⟩) 1 1 [.string ⟨t.toArray⟩,.int .i64 X,.int .i64 0,.int .i64 bw,.int .i64 H,.int .i64 d1,.int .i64 d2] rfl ((Blk.new _ _ _).reads 1 7 rfl) ?h1 ?c1 ?c2 ?_);case hB=>exact Nat.le_refl _
         case hBr=>have:=hb7.le;first|omega|(simp;omega)
         case h1=>simp[Value.oneCell']
         case c1=>unfold maxLen;omega
         case c2=>omega
         intro v' w8 cF hb8 hg8;have UR:w8.ownsRow w4.heap.size 157 7 v' (cC see gs H ps (i+1)).length (cC see gs H ps (i+1)).flatten:=by
          rw[HSt.out,HSe.out,aLy,aLy,List.flatten_append,List.flatten_append,←HN0.out];simpa using cF
         have aEc:=aLa UR;have Hb8:=aLa hb8;clear cF UR hb8 hg8;go_wp2_with fail;exact ⟨⟨i+1,hlt,by go_num,Hb8.out,aEc.out⟩,by simp[RowKit.intOf]<;>omega⟩
       ·obtain rfl:i=ps.length:=(by omega);have cA:=HOw.out;obtain ⟨R2,c2',e2,hR2⟩:=cU cA;injection e2 with q1 _ q3;subst q1;subst q3;have HR2:=aLa hR2;clear cA hR2;go_wp2_with fail;refine aL0 (v:=.tuple #[.slice R1 (cC see gs H ps ps.length).length c1',.int .i64 0]) (by simp[results,Tryz.results139,go_sem]) rfl ⟨R1,(cC see gs H ps ps.length).length,c1',0,rfl,⟨⟨?_,fun h=>absurd rfl h,fun _ => ?_⟩,fun _ => ?_⟩,w2b.trans (B0.trans hbr)⟩
        ·rw[←HPe.out,tH Q1.out,HM.out]
        ·simp only[aL8];rw[←HPs.out,←HGs.out,←aGS.out];exact ⟨rfl,HR2.out⟩
        ·simp only[aL8];rw[←HPs.out,←HGs.out,←aGS.out];exact World.ownsRow.mono HOw.out (w2b.trans B0).le
end Go.Proofs.YtllefinciimffaaGreatDoor
namespace Go.Proofs.YtllefinciimffaaGreatDoor
open Go.RowKit Go.Shelf
structure Right (ht:Nat) (gap sp:Nat) (ls:List Ltr):Prop where
 texts:Texts ls
 many:1≤ls.length∧ls.length≤200
 ht1:1≤ht∧ht≤64
 gap1:1≤gap∧gap≤16
 sp1:1≤sp∧sp≤64
 wide:gap<sp
 wd:∀k (h:k<ls.length),(ls[k]'h).W=(eZ ls k:Int)∧1≤eZ ls k∧eZ ls k≤64
 hts:∀k (h:k<ls.length),(ls[k]'h).H=(ht:Int)
 ms:∀k (h:k<ls.length),(ls[k]'h).m=eZ ls k*ht
theorem Right.wd_le {ht gap sp:Nat} {ls:List Ltr} (h:Right ht gap sp ls) (k:Nat):eZ ls k≤64:=by
 rcases Nat.lt_or_ge k ls.length with h1|h1
 ·exact (h.wd k h1).2.2
 ·rw[aAi h1];omega
theorem aB6 {w:World} {L:Option Addr} {ls:List Ltr} {k:Nat} (h:LtrsAt w L ls) (hk:k<ls.length):∃ad,L=some ad∧w.cell? (ad.add (k*4))=some (.string ⟨(gL ls k).toArray⟩)∧w.cell? ⟨(ad.add (k*4)).block,(ad.add (k*4)).off+1,none⟩=some (.int .i64 (ls[k]'hk).W) ∧
 w.cell? ⟨(ad.add (k*4)).block,(ad.add (k*4)).off+2,none⟩=some (.int .i64 (ls[k]'hk).H)∧w.cell? ⟨(ad.add (k*4)).block,(ad.add (k*4)).off+3,none⟩=some (.slice (ls[k]'hk).A (ls[k]'hk).m (ls[k]'hk).c)∧Reads w 1 (ls[k]'hk).A (ls[k]'hk).m ((Q6 ls k).map .bool):=by
 have hg:ls[k]? = some ls[k]:=aLv hk;obtain ⟨ad,e,h1,h2,h3,h4⟩:=h.at_ hg;exact ⟨ad,e,by rw[tB hg];exact h1,h2,h3,h4,by rw[EY hg];exact (h.2 _ (List.getElem_mem hk)).1⟩
end Go.Proofs.YtllefinciimffaaGreatDoor
