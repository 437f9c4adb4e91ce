import Derived.Test.YtllefinciimffaaGreatDoorMClaimTopForms6
import Derived.Shelf.Strings.Cut
import Derived.Lib.CutLaws
import Derived.Lib.SlTrimSet
import Derived.Shelf.SortM.Plain
import Derived.Shelf.SlGeneric
import Derived.Shelf.LaySoft
import Derived.Lib.OwnBridge
import Derived.Ground.SlgmProg
import Derived.Lib.SliceRun
set_option maxHeartbeats 20000000
set_option maxRecDepth 100000
namespace Go.Proofs.YtllefinciimffaaGreatDoor
open Go.RowKit
def MapAt (w:World) (b:Nat) (ks:List (List UInt8)):Prop:=∃es clock,w.heap[b]? = some (.map es clock)∧(∀x∈es.toList,∃s∈ks,x.key=.string ⟨s.toArray⟩∧x.val=.bool true)∧∀s∈ks,∃x∈es.toList,x.key=.string ⟨s.toArray⟩
theorem MapAt.new (w:World):MapAt (w.alloc (.map #[] 0)) w.heap.size []:=⟨#[],0,(MapKept.heap_alloc w _).1,by simp,by simp⟩
theorem MapAt.bl {w w':World} {b:Nat} {ks:List (List UInt8)} (h:MapAt w b ks) (hb:Bl w w'):MapAt w' b ks:=by
 obtain ⟨es,c,h1,h2,h3⟩:=h;exact ⟨es,c,(Below.block hb b (aL1.1 h1).1).trans h1,h2,h3⟩
theorem RH {s t:List UInt8} (h:Value.string ⟨s.toArray⟩=.string ⟨t.toArray⟩):s=t:=by simpa using h
theorem MapAt.lookup {w:World} {b:Nat} {ks:List (List UInt8)} (h:MapAt w b ks) (s:List UInt8):(Instr.lookup 163 (.map (some b)) (.string ⟨s.toArray⟩) false).run Tryz.prog w=.ok (.bool (decide (s∈ks))) w:=by
 obtain ⟨es,c,h1,h2,h3⟩:=h;have hk:MapKept.IsKey .string (.string ⟨s.toArray⟩):=trivial;have hks:∀x∈es.toList,MapKept.IsKey .string x.key:=fun x hx=>(by obtain ⟨t,_,e,_⟩:=h2 x hx;rw[e];trivial);rcases MapKept.findNow_spec hk es.toList 0 hks with ⟨hf,hno⟩|⟨j,e,hf,hj,he⟩
 ·have hn:s∉ks:=fun hm=>(by obtain ⟨x,hx,e⟩:=h3 s hm;exact hno x hx e);rw[aLW hn];simp[Instr.lookup,run_underlying Tryz.underlying163,MapKept.run_getObj_map h1,MapKept.run_checkKey Tryz.underlying9 hk,MapKept.run_findKey Tryz.underlying9 hf,Tryz.zeroValue4,Result.andThen]
 ·obtain ⟨t,ht,e1,e2⟩:=h2 e (List.mem_of_getElem? hj);have hs:s∈ks:=(RH (he.symm.trans e1)) ▸ ht;rw[aLX hs];simp[Instr.lookup,run_underlying Tryz.underlying163,MapKept.run_getObj_map h1,MapKept.run_checkKey Tryz.underlying9 hk,MapKept.run_findKey Tryz.underlying9 hf,e2,Result.andThen]
theorem aB2 {w0 w:World} (h:Bl w0 w) {b:Nat} (hb:w0.heap.size≤b) (o:Obj):Bl w0 { w with heap:=w.heap.setIfInBounds b o }:=by
 refine ⟨h.os,h.tape,h.output,?_,fun k hk => ?_⟩
 ·have:=Below.size h;simpa using this
 ·show (w.heap.setIfInBounds b o)[k]? = _;rw[Array.getElem?_setIfInBounds_ne (by omega)];exact Below.block h k hk
theorem MapAt.update {w:World} {b:Nat} {ks:List (List UInt8)} (h:MapAt w b ks) (s:List UInt8):∃w',(Instr.mapUpdate 163 (.map (some b)) (.string ⟨s.toArray⟩) (.bool true)).run Tryz.prog w=.ok () w'∧MapAt w' b (ks++[s])∧∀w0,Bl w0 w→w0.heap.size≤b→Bl w0 w':=by
 obtain ⟨es,c,h1,h2,h3⟩:=h;have hk:MapKept.IsKey .string (.string ⟨s.toArray⟩):=trivial;have hks:∀x∈es.toList,MapKept.IsKey .string x.key:=fun x hx=>(by obtain ⟨t,_,e,_⟩:=h2 x hx;rw[e];trivial);rcases MapKept.findNow_spec hk es.toList 0 hks with ⟨hf,hno⟩|⟨j,e,hf,hj,he⟩
 ·refine ⟨{ w with heap:=w.heap.setIfInBounds b (.map (es.push ⟨.string ⟨s.toArray⟩,.bool true,c⟩) (c+1)) },?_,⟨_,_,(MapKept.heap_set h1).1,?_,?_⟩,fun w0 h0 hb=>aB2 h0 hb _⟩
  ·simp[Instr.mapUpdate,run_underlying Tryz.underlying163,MapKept.run_getObj_map h1,MapKept.run_checkKey Tryz.underlying9 hk,MapKept.run_findKey Tryz.underlying9 hf,MapKept.run_setObj_map _ h1,Result.andThen]
  ·intro x hx;simp only[Array.toList_push,aLM,aLQ] at hx;rcases hx with hx|rfl
   ·obtain ⟨t,ht,e⟩:=h2 x hx;exact ⟨t,List.mem_append_left _ ht,e⟩
   ·exact ⟨s,by simp,rfl,rfl⟩
  ·intro t ht;rcases aLM.1 ht with ht|ht
   ·obtain ⟨x,hx,e⟩:=h3 t ht;exact ⟨x,by simp[hx],e⟩
   ·obtain rfl:=aLQ.1 ht;exact ⟨⟨.string ⟨t.toArray⟩,.bool true,c⟩,by simp,rfl⟩
 ·have hj':es[j]? = some e:=(by simpa using hj);have aGR:∀x∈(es.modify j (fun e'=>{ e' with key:=.string ⟨s.toArray⟩,val:=.bool true })).toList,x∈es.toList∨(x.key=.string ⟨s.toArray⟩∧x.val=.bool true):=fun x hx=>by
   rcases MapFrom.mem_modify hx with hx|⟨e',_,rfl⟩
   ·exact Or.inl hx
   ·exact Or.inr ⟨rfl,rfl⟩
  have aFU:=MapKept.modify_keys (es:=es) j (fun e'=>{ e' with key:=.string ⟨s.toArray⟩,val:=.bool true }) (fun e' he'=>by rw[hj'] at he';cases he';exact he.symm);refine ⟨{ w with heap:=w.heap.setIfInBounds b (.map (es.modify j (fun e'=>{ e' with key:=.string ⟨s.toArray⟩,val:=.bool true })) c) },?_,⟨_,_,(MapKept.heap_set h1).1,?_,?_⟩,fun w0 h0 hb=>aB2 h0 hb _⟩
  ·simp[Instr.mapUpdate,run_underlying Tryz.underlying163,MapKept.run_getObj_map h1,MapKept.run_checkKey Tryz.underlying9 hk,MapKept.run_findKey Tryz.underlying9 hf,hj',he,MapKept.run_keyThatStays hk,MapKept.run_setObj_map _ h1,Result.andThen]
  ·intro x hx;rcases aGR x hx with hx|⟨e1,e2⟩
   ·obtain ⟨t,ht,e⟩:=h2 x hx;exact ⟨t,List.mem_append_left _ ht,e⟩
   ·exact ⟨s,by simp,e1,e2⟩
  ·intro t ht;have hex:∃y∈es.toList,y.key=.string ⟨t.toArray⟩:=by
    rcases aLM.1 ht with ht|ht
    ·exact h3 t ht
    ·obtain rfl:=aLQ.1 ht;exact ⟨e,List.mem_of_getElem? hj,he⟩
   obtain ⟨y,hy,e3⟩:=hex;have hm:y.key∈es.toList.map (·.key):=aMf.2 ⟨y,hy,rfl⟩;rw[←aFU] at hm;obtain ⟨x,hx,e4⟩:=aMf.1 hm;exact ⟨x,hx,e4.trans e3⟩
theorem yM (nm:List UInt8) (ht gap sp:Int) (L:Option Addr) (n c:Nat) (prev:List (List UInt8)) (l:Ltr) (w:World) (hA:Reads w 1 l.A l.m (l.bs.map .bool)) (cL:l.text.length≤9223372036854775807) :
 Calls Tryz.prog 137 #[.agg #[nm,ht,gap,sp,.slice L n c],l.val,.bool (decide (l.text∈prev))] w fun e w'=>e=.returned (.int .i64 (eT ht prev l))∧Bl w w':=by
 unfold Ltr.val;let w1:=((w).alloc (.cells #[nm,ht,gap,sp,.slice L n c] 46)).alloc (.cells #[l.text,l.W,l.H,.slice l.A l.m l.c] 148);obtain ⟨w1b,w11,w12⟩:=aLi (x:=w1) w _ _ _ _ rfl;have k1:=w11.all5;have k2:=w12.all4;have HA:=aLa (hA.bl w1b);have htx:=fun w=>Q3 l.text w cL;cases hb:o0 l.text
 ·rw[hb] at htx;have HE:=aLa (show eT ht prev l=2 by unfold eT;rw[hb];rfl);have Htx:=aLa htx;clear hb htx hA
  go_in
  go_wp2_with fail;refine (Htx.out _).mono ?_;rintro e w' ⟨rfl,rfl⟩;go_wp2_with fail;go_ret;exact ⟨by rw[HE.out];rfl,w1b⟩
 ·rw[hb] at htx;cases hp:decide (l.text∈prev)
  ·have HE:=aLa (show eT ht prev l=aG [aD l.W l.H l.m,aF (l.H != ht) 11,aF (decide (64<l.W)) 4,aF (BA l.bs l.W.toNat l.H.toNat) 2] by unfold eT;rw[hb,hp];rfl);have Htx:=aLa htx;clear hb hp htx hA;have aDF:=xZ l.W l.H l.A l.m l.c l.bs w1 HA.out;have aFV:=aLa aDF;clear aDF;by_cases hz:aD l.W l.H l.m=0
   ·obtain ⟨W',H',eW,eH,em,hW,hH,-⟩:=fG hz;obtain ⟨HE2,HZ,HW⟩:=aLb (show eT ht prev l=aG [aF (l.H != ht) 11,aF (decide (64<l.W)) 4,aF (BA l.bs l.W.toNat l.H.toNat) 2] by rw[HE.out,hz];rfl) hz (show l.W.toNat≤4000 by omega);have hq0:(aD l.W l.H l.m==0)=true:=(by simp[hz]);clear eW eH em hW hH hz;by_cases h1:l.H=ht
    ·have q1:(l.H==ht)=true:=(by simp[h1]);by_cases h2:64<l.W
     ·have HE3:=aLa (show eT ht prev l=4 by rw[HE2.out];simp[aG,aF,h1,h2]);clear h1
      go_in
      go_wp2_with fail;refine (Htx.out _).mono ?_;rintro e w' ⟨rfl,rfl⟩;go_wp2_with fail;refine aFV.out.mono ?_;rintro e w3 ⟨P,m,d,rfl,-,hb3⟩;have k1:=(w11.bl hb3).all5;have k2:=(w12.bl hb3).all4;go_wp2_with fail;go_ret;exact ⟨by rw[HE3.out];rfl,w1b.trans hb3⟩
     ·have HE3:=aLa (show eT ht prev l=aF (BA l.bs l.W.toNat l.H.toNat) 2 by rw[HE2.out];simp[aG,aF,h1,h2]);clear h1
      go_in
      go_wp2_with fail;refine (Htx.out _).mono ?_;rintro e w' ⟨rfl,rfl⟩;go_wp2_with fail;refine aFV.out.mono ?_;rintro e w3 ⟨P,m,d,rfl,hT,hb3⟩;obtain ⟨rfl,hR⟩:=hT.1 HZ.out;have ZG:=fun wy (hy:Bl w3 wy)=>EU P l.W.toNat d _ 0 wy (hR.bl hy) (by have:=HW.out;omega);simp only[aAs] at ZG;have aJH:=aLa ZG;have k1:=(w11.bl hb3).all5;have k2:=(w12.bl hb3).all4;clear ZG hT hR;go_wp2_with fail;refine (aJH.out _ (Bl.refl _)).mono ?_;rintro e w4 ⟨rfl,rfl⟩;cases hbr:BA l.bs l.W.toNat l.H.toNat
      ·have HF:=aLa (show eT ht prev l=0 by rw[HE3.out,hbr];rfl);go_wp2_with fail;go_ret;exact ⟨by rw[HF.out];rfl,w1b.trans hb3⟩
      ·have HF:=aLa (show eT ht prev l=2 by rw[HE3.out,hbr];rfl);go_wp2_with fail;go_ret;exact ⟨by rw[HF.out];rfl,w1b.trans hb3⟩
    ·have q1:(l.H==ht)=false:=(by simp[h1]);have HE3:=aLa (show eT ht prev l=11 by rw[HE2.out];simp[aG,aF,h1]);clear h1
     go_in
     go_wp2_with fail;refine (Htx.out _).mono ?_;rintro e w' ⟨rfl,rfl⟩;go_wp2_with fail;refine aFV.out.mono ?_;rintro e w3 ⟨P,m,d,rfl,-,hb3⟩;have k1:=(w11.bl hb3).all5;have k2:=(w12.bl hb3).all4;go_wp2_with fail;go_ret;exact ⟨by rw[HE3.out];rfl,w1b.trans hb3⟩
   ·have hq0:(aD l.W l.H l.m==0)=false:=(by simp[hz]);have HE2:=aLa (show eT ht prev l=aD l.W l.H l.m by rw[HE.out];simp[aG,hz]);clear hz
    go_in
    go_wp2_with fail;refine (Htx.out _).mono ?_;rintro e w' ⟨rfl,rfl⟩;go_wp2_with fail;refine aFV.out.mono ?_;rintro e w3 ⟨P,m,d,rfl,-,hb3⟩;have k1:=(w11.bl hb3).all5;have k2:=(w12.bl hb3).all4;go_wp2_with fail;go_ret;exact ⟨by rw[HE2.out];rfl,w1b.trans hb3⟩
  ·have HE:=aLa (show eT ht prev l=6 by unfold eT;rw[hb,hp];rfl);have Htx:=aLa htx;clear hb hp htx hA
   go_in
   go_wp2_with fail;refine (Htx.out _).mono ?_;rintro e w' ⟨rfl,rfl⟩;go_wp2_with fail;go_ret;exact ⟨by rw[HE.out];rfl,w1b⟩
theorem nG (nm:List UInt8) (ht gap sp:Int) (L:Option Addr) (c:Nat) (ls:List Ltr) (w:World) (hL:LtrsAt w L ls) (hnm:nm.length≤9223372036854775807) (hn:ls.length≤9223372036854775807) :
 Calls Tryz.prog 79 #[.agg #[nm,ht,gap,sp,.slice L ls.length c]] w fun e w'=>e=.returned (.int .i64 (bN (dA nm) ht gap sp ls))∧Bl w w':=by
 let w1:=(w).alloc (.cells #[nm,ht,gap,sp,.slice L ls.length c] 46);obtain ⟨w1b,w11⟩:=aLh (x:=w1) w _ _ rfl;have HL:=aLa (hL.bl w1b);have aId:=fun w=>qJ ⟨nm.toArray⟩ w (by rw[Lib.size_mk];exact hnm);have HNm:=aLa aId;have k1:=w11.all5;have hmm:=@run_makeMap Tryz.prog;clear hL aId
 go_in
 go_wp2_with fail;refine (HNm.out _).mono ?_;rintro e w2 ⟨rfl,hb2⟩;have k2:=(w11.bl hb2).all5;clear k1;cases hN:dA nm
 ·have HE:=aLa (show bN (dA nm) ht gap sp ls=5 by unfold bN eV;rw[hN];rfl);go_wp2_with fail;go_ret;exact ⟨by rw[←hN,HE.out];rfl,w1b.trans hb2⟩
 ·have HE:=aLa (show bN (dA nm) ht gap sp ls=if eV true ht gap sp ls.length=0 then fJ ht [] ls else eV true ht gap sp ls.length by unfold bN;rw[hN]);go_upto_region 3 with fail;go_cut [12] from 13 to 40 (fun s12 wc=>s12=.bool (!fY ht gap sp)∧w2=wc);case first=>
   by_cases c0:ht<1
   ·have HR:=aLa (show (!fY ht gap sp)=true by unfold fY inB;simp;omega);go_wp2_with fail;go_meet;case rel=>exact ⟨by rw[HR.out],rfl⟩
   ·skip
    by_cases c1:64<ht
    ·have HR:=aLa (show (!fY ht gap sp)=true by unfold fY inB;simp;omega);go_wp2_with fail;go_meet;case rel=>exact ⟨by rw[HR.out],rfl⟩
    ·skip
     by_cases c2:gap<1
     ·have HR:=aLa (show (!fY ht gap sp)=true by unfold fY inB;simp;omega);go_wp2_with fail;go_meet;case rel=>exact ⟨by rw[HR.out],rfl⟩
     ·skip
      by_cases c3:16<gap
      ·have HR:=aLa (show (!fY ht gap sp)=true by unfold fY inB;simp;omega);go_wp2_with fail;go_meet;case rel=>exact ⟨by rw[HR.out],rfl⟩
      ·skip
       by_cases c4:sp<1
       ·have HR:=aLa (show (!fY ht gap sp)=true by unfold fY inB;simp;omega);go_wp2_with fail;go_meet;case rel=>exact ⟨by rw[HR.out],rfl⟩
       ·skip
        by_cases c5:64<sp
        ·have HR:=aLa (show (!fY ht gap sp)=true by unfold fY inB;simp;omega);go_wp2_with fail;go_meet;case rel=>exact ⟨by rw[HR.out],rfl⟩
        ·have HR:=aLa (show (!fY ht gap sp)=false by unfold fY inB;simp;omega);go_wp2_with fail;go_meet;case rel=>exact ⟨by rw[HR.out],rfl⟩
  case rest=>
   obtain ⟨rfl,rfl⟩:=hcut;cases hr:fY ht gap sp
   ·have HF:=aLa (show bN (dA nm) ht gap sp ls=3 by rw[HE.out];unfold eV;rw[hr];rfl);go_wp2_with fail;go_ret;exact ⟨by rw[←hN,HF.out];rfl,w1b.trans hb2⟩
   ·by_cases c1:sp≤gap
    ·have HF:=aLa (show bN (dA nm) ht gap sp ls=7 by rw[HE.out];unfold eV;rw[hr,aLX c1];rfl);go_wp2_with fail;go_ret;exact ⟨by rw[←hN,HF.out];rfl,w1b.trans hb2⟩
    ·by_cases c2:ls.length=0
     ·have HF:=aLa (show bN (dA nm) ht gap sp ls=9 by rw[HE.out];unfold eV;rw[hr,aLW c1,aLX c2];rfl);have q2:((ls.length:Int)==0)=true:=(by rw[aCQ];exact aLX c2);clear c2;go_wp2_with fail;go_ret;exact ⟨by rw[←hN,HF.out];rfl,w1b.trans hb2⟩
     ·by_cases c3:200<(ls.length:Int)
      ·have HF:=aLa (show bN (dA nm) ht gap sp ls=4 by rw[HE.out];unfold eV;rw[hr,aLW c1,aLW c2,aLX (show 200<ls.length by omega)];rfl);have q2:((ls.length:Int)==0)=false:=(by rw[aCQ];exact aLW c2);clear c2;go_wp2_with fail;go_ret;exact ⟨by rw[←hN,HF.out];rfl,w1b.trans hb2⟩
      ·have HX:=aLa (show bN true ht gap sp ls=fJ ht [] ls by
        rw[←hN,HE.out];unfold eV;rw[hr,aLW c1,aLW c2,aLW (show ¬200<ls.length by omega)];rfl)
       have q2:((ls.length:Int)==0)=false:=(by rw[aCQ];exact aLW c2);clear c2 HE;have hM0:=MapAt.new w2;have hb3:Bl w1 (w2.alloc (.map #[] 0)):=hb2.alloc _;have hmb:w1.heap.size≤w2.heap.size:=hb2.le;have k3:=(w11.bl hb3).all5;go_wp2_with fail;go_loopw [61] (fun u wr=>∃i:Nat,i≤ls.length∧u=.int .i64 i∧Bl w1 wr∧MapAt wr w2.heap.size ((ls.take i).map Ltr.text)∧fJ ht ((ls.take i).map Ltr.text) (ls.drop i)=fJ ht [] ls) (fun u _=>ls.length-(RowKit.intOf u).toNat);case atStart=>exact ⟨0,Nat.zero_le _,rfl,hb3,hM0,by simp⟩
       case round=>
        obtain ⟨i,hi,rfl,hbr,hMr,hrs⟩:=hrel;by_cases hlt:i<ls.length
        ·have hg:ls[i]? = some ls[i]:=aLv hlt;obtain ⟨l,hl⟩:=aLt (ls[i]);rw[←hl] at hg;obtain ⟨ad,rfl,j1,j2,j3,j4⟩:=(HL.out.bl hbr).at_ hg;obtain ⟨pv,hpv⟩:=aLt ((ls.take i).map Ltr.text);have hfr:=GY (ht:=ht) hg;have aIe:(ls.take (i+1)).map Ltr.text=pv++[l.text]:=(by rw[aMc,hg,hpv];simp);rw[←hpv] at hMr hrs hfr;have hcl:=yM nm ht gap sp (some ad) ls.length c pv l;obtain ⟨HA,HRs,HF,HG,Hcl,HPv⟩:=aLe (HL.out.2 l (List.mem_of_getElem? hg)) hrs hfr hg hcl aIe;clear hrs hfr hpv aIe hg hl hcl hM0;go_upto_region 15 with fail;obtain ⟨w5,hw5⟩:=aLt (wr.alloc (.cells #[.string ⟨l.text.toArray⟩,.int .i64 l.W,.int .i64 l.H,.slice l.A l.m l.c] 148));have b5:=aLo hw5;have hb5:Bl w1 w5:=(by rw[hw5];exact hbr.alloc _);have hM5:MapAt w5 w2.heap.size pv:=(by rw[hw5];exact hMr.bl ((Bl.refl _).alloc _));rw[←hw5];have k5:=(w11.bl hb5).all5;have k6:=b5.all4;have hlk:=hM5.lookup l.text;clear hw5 j1 j2 j3 j4 k2 k3 hMr;go_wp2_with fail;refine (Hcl.out _ (HA.out.1.bl hb5) HA.out.2).mono ?_;rintro e w6 ⟨rfl,hb6⟩;have aEa:=hb5.trans hb6;have k7:=(b5.bl hb6).all4;obtain ⟨w7,hup,hM7,hB7⟩:=(hM5.bl hb6).update l.text;have hb7:=hB7 w1 aEa hmb;clear k6 k5 hlk hM5 hB7;by_cases hz:eT ht pv l=0
         ·have hq:(eT ht pv l==0)=true:=(by simp[hz]);have HY:=aLa (show fJ ht ((ls.take (i+1)).map Ltr.text) (ls.drop (i+1))=fJ ht [] ls by rw[←HRs.out,HF.out,if_pos hz]);clear hz;go_wp2_with fail;exact ⟨⟨i+1,hlt,by go_num,hb7,by rw[HPv.out];exact hM7,HY.out⟩,by simp[RowKit.intOf];omega⟩
         ·have hq:(eT ht pv l==0)=false:=(by simp[hz]);have HY:=aLa (show fJ ht [] ls=eT ht pv l by rw[←HRs.out,HF.out,if_neg hz]);clear hz;go_wp2_with fail;go_ret;exact ⟨by rw[hN,HX.out,HY.out];rfl,w1b.trans aEa⟩
        ·obtain rfl:i=ls.length:=(by omega);have HY:=aLa (show fJ ht [] ls=0 by rw[←hrs,List.drop_length];rfl);go_wp2_with fail;go_ret;exact ⟨by rw[hN,HX.out,HY.out];rfl,w1b.trans hbr⟩
theorem LtrsAt.none (w:World):LtrsAt w none []:=⟨⟨rfl,fun h=>absurd h (by decide)⟩,fun l hl=>absurd hl (by simp)⟩
end Go.Proofs.YtllefinciimffaaGreatDoor
namespace Go.Proofs
open Go.Shelf
def Tryz.lays145_ren:Go.Shelf.Ren:=⟨fun|145=>171|220=>230|219=>133|217=>173|225=>174|224=>175|267=>176|266=>231|314=>232|n=>n,fun|9=>9|4=>4|59=>229|3=>3|5=>5|46=>233|146=>278|51=>277|n=>n,fun|1=>0|n=>n⟩
end Go.Proofs
namespace Go.Proofs.YtllefinciimffaaGreatDoor
open Go.RowKit Go.Shelf
def CutOk (w:World):Prop:=∃m:Int,w.cell? ⟨Tryz.lays145_ren.g 1,0,none⟩=some (.int .i64 m)
theorem CutOk.bl {w w':World} (h:CutOk w) (hb:Bl w w'):CutOk w':=let ⟨m,hm⟩:=h;⟨m,hb.at hm⟩
structure Sn where
 t:List UInt8
 X:Int
 Y:Int
 W:Int
 H:Int
 d:Int
 e:Int
theorem Blk.all7' {w:World} {g:Nat} {t:TypeId} {a b c d e f h:Value} (k:Blk w g t #[a,b,c,d,e,f,h]):w.cell? ⟨g,0,none⟩=some a∧w.cell? ⟨g,1,none⟩=some b∧w.cell? ⟨g,2,none⟩=some c∧w.cell? ⟨g,3,none⟩=some d∧w.cell? ⟨g,4,none⟩=some e∧w.cell? ⟨g,5,none⟩=some f∧w.cell? ⟨g,6,none⟩=some h∧∀i,w.frozen? ⟨g,i,none⟩=false:=
 ⟨k.cell 0,k.cell 1,k.cell 2,k.cell 3,k.cell 4,k.cell 5,k.cell 6,k.frozen⟩
def Sn.cells (s:Sn):List Value:=[.string ⟨s.t.toArray⟩,.int .i64 s.X,.int .i64 s.Y,.int .i64 s.W,.int .i64 s.H,.int .i64 s.d,.int .i64 s.e]
def n8 (ss:List Sn):List Value:=ss.flatMap Sn.cells
theorem RI {ls:List Sn} {i:Nat} {l:Sn} (h:ls[i]? = some l) (j:Nat) (hj:j<7):(n8 ls)[i*7+j]? = l.cells[j]?:=by
 induction ls generalizing i with
 |nil=>simp at h
 |cons x ls ih=>
  unfold n8;rw[aMi];rcases i with _|i
  ·simp only[aLT,Option.some.injEq] at h;subst h;rw[aLE (by show 0*7+j<7;omega)];simp
  ·rw[aLD (by show 7≤(i+1)*7+j;omega)];have e:(i+1)*7+j-x.cells.length=i*7+j:=by
    show (i+1)*7+j-7=i*7+j;omega
   rw[e];exact ih (by simpa using h)
theorem aEs {w:World} {A:Option Addr} {ss:List Sn} {i:Nat} {s:Sn} (h:Reads w 7 A ss.length (n8 ss)) (hi:ss[i]? = some s):∃ad,A=some ad∧w.cell? (ad.add (i*7))=some (.string ⟨s.t.toArray⟩)∧w.cell? ⟨(ad.add (i*7)).block,(ad.add (i*7)).off+1,none⟩=some (.int .i64 s.X) ∧
 w.cell? ⟨(ad.add (i*7)).block,(ad.add (i*7)).off+2,none⟩=some (.int .i64 s.Y)∧w.cell? ⟨(ad.add (i*7)).block,(ad.add (i*7)).off+3,none⟩=some (.int .i64 s.W)∧w.cell? ⟨(ad.add (i*7)).block,(ad.add (i*7)).off+4,none⟩=some (.int .i64 s.H) ∧
 w.cell? ⟨(ad.add (i*7)).block,(ad.add (i*7)).off+5,none⟩=some (.int .i64 s.d)∧w.cell? ⟨(ad.add (i*7)).block,(ad.add (i*7)).off+6,none⟩=some (.int .i64 s.e):=by
 have hlt:i<ss.length:=(aLw.1 hi).1;obtain ⟨ad,e,hc⟩:=h.2 (by omega);have key:∀j v,j<7→s.cells[j]? = some v→w.cell? ((ad.add (i*7)).add j)=some v:=fun j v hj hv=>by
  rw[cY];exact hc _ _ (by rw[RI hi j hj];exact hv)
 have k0:=key 0 _ (by omega) rfl;have k1:=key 1 _ (by omega) rfl;have k2:=key 2 _ (by omega) rfl;have k3:=key 3 _ (by omega) rfl;have k4:=key 4 _ (by omega) rfl;have k5:=key 5 _ (by omega) rfl;have k6:=key 6 _ (by omega) rfl;rw[Addr.add_zero'] at k0;rw[Addr.add_succ'] at k1 k2 k3 k4 k5 k6;exact ⟨ad,e,k0,k1,k2,k3,k4,k5,k6⟩
def gF (ss:List Sn):List UInt8:=ss.flatMap Sn.t
theorem RJ {ss:List Sn} (h:∀s∈ss,s.t.length≤4):(gF ss).length≤ss.length*4:=by
 unfold gF;induction ss with
 |nil=>exact Nat.le_refl _
 |cons x ss ih=>have h1:=h x (List.mem_cons_self ..);have h2:=ih fun s hs=>h s (List.mem_cons_of_mem _ hs);rw[aMi,aLy,aLB];omega
theorem L3 {ss:List Sn} {i:Nat} {s:Sn} (h:ss[i]? = some s):gF (ss.take (i+1))=gF (ss.take i)++s.t:=by
 unfold gF;rw[aMc,h,aMh];simp
theorem aCS {ss:List Sn} (h:∀s∈ss,s.t.length≤4) (i:Nat):(gF (ss.take i)).length≤ss.length*4:=by
 have h1:=RJ (ss:=ss.take i) fun s hs=>h s (List.mem_of_mem_take hs);have h2:(ss.take i).length≤ss.length:=(by rw[aLA];omega);omega
theorem aJ (B:Nat) (l t:List UInt8) (w:World) (h:Bui B l w) (cL:l.length+t.length≤140737488355328) (hBw:B≤w.heap.size) :
 Calls Tryz.prog 40 #[.pointer (some ⟨B,0,none⟩),t] w fun e w'=>e=.returned (.tuple #[t.length,.nilIface])∧Bui B (l++t) w'∧Below B w w':=by
 obtain ⟨i0,hi,hz0,hz1,hz2⟩:=info_parts LG;have hbc:Lib.byteCells (l++t)=Lib.byteCells l++Lib.byteCells t:=Lib.byteCells_append l t;have hbl:(Lib.byteCells l).length=l.length:=Lib.byteCells_length l;have htl:(Lib.byteCells t).length=t.length:=Lib.byteCells_length t;obtain ⟨Hbc,Hbl,Htl,Hts⟩:=aLc hbc hbl htl (show (ByteArray.mk t.toArray).size=t.length by simp[ByteArray.size]);clear hbc hbl htl;obtain ⟨bs,hbs⟩:=aLt (Lib.byteCells l);have hck:=oQ B l w h;rw[←hbs] at hck Hbc Hbl;have Hck:=aLa hck;clear hbs hck h
 go_in
 go_wp2_with (go_at_call 113;refine Hck.out.mono ?_);rintro e w1 ⟨rfl,h1,hb1⟩;obtain ⟨hB,v,hbk,cA,hne⟩:=h1;have c0:w1.cell? ⟨B,0,none⟩=some (.pointer (some ⟨B,0,none⟩)):=(by rw[Lib.cell_of_heap hbk];rfl);have c1:w1.cell? ⟨B,1,none⟩=some v:=(by rw[Lib.cell_of_heap hbk];rfl);go_wp2_with (at_builtin;refine Lib.wpList_append_own_stringF _ rfl _ _ 92 9 rfl B 5 i0 Tryz.underlying92 Tryz.underlying9 hi hz0 hz1 hz2 _ _ _ rfl cA ⟨t.toArray⟩ rfl ?c3 ?c4 ?c5 ?_);case c3=>unfold maxLen;have:=Hbl.out;rw[Hts.out];omega
 case c4=>have:=Hbl.out;rw[Hts.out];omega
 case c5=>have:=hb1.size;omega
 intro v' w2 uB xD _;have hlt:B<w1.heap.size:=by
  rcases Nat.lt_or_ge B w1.heap.size with h' | h'
  ·exact h'
  ·simp[Array.getElem?_eq_none h'] at hbk
 have hb2:w2.heap[B]? = some (.cells #[.pointer (some ⟨B,0,none⟩),v] 94 (0,0)):=by
  rw[xD.block B hlt (fun e=>hne e.symm)];exact hbk
 have d0:w2.cell? ⟨B,0,none⟩=some (.pointer (some ⟨B,0,none⟩)):=(by rw[Lib.cell_of_heap hb2];rfl);have d1:w2.cell? ⟨B,1,none⟩=some v:=(by rw[Lib.cell_of_heap hb2];rfl);have f1:w2.frozen? ⟨B,1,none⟩=false:=Lib.frozen_of_heap hb2 1;obtain ⟨ao,n',cap,rfl⟩:∃ao n' cap,v'=.slice ao n' cap:=by
  rcases uB.2 with ⟨hv,_⟩|⟨g,cap,cur,fz,hv,_⟩
  ·exact ⟨_,_,_,hv⟩
  ·exact ⟨_,_,_,hv⟩
 have hsc:Lib.strCells ⟨t.toArray⟩=Lib.byteCells t:=rfl;have QL:=Lib.BuilderAtF.put (T:=94) (e:=5) hB hb2 (bs':=bs++Lib.strCells ⟨t.toArray⟩) (by simpa [Lib.strCells_length,ByteArray.size] using uB) (by decide);have aCp:=(hb1.grown xD (by have:=hb1.size;omega) (fun k hk=>(cA.lt k hk).1)).setCell (p:=⟨B,1,none⟩) hB (.slice ao n' cap);rw[hsc] at QL;have aEV:=aLa QL;have aEW:=aLa aCp;clear QL aCp uB xD cA hbk hb2 hlt hb1 hne hsc
 go_wp2
 go_ret2
 exact ⟨rfl,by show Lib.IsBuilderF _ _ B B (Lib.byteCells (l++t)) _;rw[Hbc.out];exact Or.inr aEV.out,aEW.out⟩
theorem aAu (A:Option Addr) (c:Nat) (ss:List Sn) (w:World) (hx:Reads w 7 A ss.length (n8 ss)) (hl:ss.length≤1099511627776) (ht:∀s∈ss,s.t.length≤4) :
 Calls Tryz.prog 140 #[.slice A ss.length c] w fun e w'=>e=.returned (.string ⟨(gF ss).toArray⟩)∧Bl w w':=by
 obtain ⟨w1,hw1⟩:=aLt (w.alloc (.cells #[.pointer none,.slice none 0 0] 94));have hb1:=aLn hw1;obtain ⟨B,hB⟩:=aLt w.heap.size;have h0:Bui B [] w1:=(by rw[hw1,hB];exact nZ w);have hx1:=hx.bl hb1;have hle:B≤w1.heap.size:=(by have:=hb1.le;omega);obtain ⟨HX,HT,H0,HW,HB⟩:=aLd hx ht h0 hw1 hB;clear hx ht h0 hx1 hw1 hB
 go_in
 go_upto_region 2 with fail;rw[←HW.out,←HB.out];go_wp2_with fail;go_loopw [8] (fun v wr=>∃k:Nat,k≤ss.length∧v=.int .i64 k∧Bl w wr∧B≤wr.heap.size∧Bui B (gF (ss.take k)) wr) (fun v _=>ss.length-(intOf v).toNat);case atStart=>exact ⟨0,Nat.zero_le _,rfl,hb1,hle,H0.out⟩
 case round=>
  obtain ⟨k,hk,rfl,hbr,hBr,hbu⟩:=hrel;have cL:=aCS HT.out k;by_cases hlt:k<ss.length
  ·have hg:ss[k]? = some ss[k]:=aLv hlt;obtain ⟨s,hs⟩:=aLt (ss[k]);rw[←hs] at hg;have hts:=HT.out s (List.mem_of_getElem? hg);have hsc:=L3 hg;obtain ⟨ad,rfl,c0,c1,c2,c3,c4,c5,c6⟩:=aEs (HX.out.bl hbr) hg;have hbo:=(Bl.refl wr).alloc (.cells #[.string ⟨s.t.toArray⟩,.int .i64 s.X,.int .i64 s.Y,.int .i64 s.W,.int .i64 s.H,.int .i64 s.d,.int .i64 s.e] 157);have hcl:=fun w2 (hb:Bl wr w2)=>aJ B (gF (ss.take k)) s.t w2 (fQ hbu hb) (by omega) (by have:=hb.le;omega);have Hcl:=aLa hcl;have HSc:=aLa hsc;clear hs hg hcl hsc hbu;go_wp2_with fail;refine (Hcl.out _ hbo).mono ?_;rintro e w3 ⟨rfl,hb3,aEb⟩;have hbl:=(hbr.alloc (.cells #[.string ⟨s.t.toArray⟩,.int .i64 s.X,.int .i64 s.Y,.int .i64 s.W,.int .i64 s.H,.int .i64 s.d,.int .i64 s.e] 157)).trans' HB.out.symm aEb;have Hb3:=aLa hb3;have Hbl:=aLa hbl;have hsz:=aEb.size;clear hb3 aEb;go_wp2_with fail;exact ⟨⟨k+1,hlt,by go_num,Hbl.out,by simp at hsz;omega,by rw[HSc.out];exact Hb3.out⟩,by simp[intOf];omega⟩
  ·obtain rfl:k=ss.length:=(by omega);have UQ:=hbu;rw[aLC] at UQ;have Hbu:=aLa UQ;clear hbu UQ;go_wp2_with fail;refine (eY B _ _ Hbu.out hBr).mono ?_;rintro e w3 ⟨rfl,hb3⟩;have hbl:=hbr.trans' HB.out.symm hb3;go_wp2_with fail;go_ret;exact ⟨rfl,hbl⟩
def aZ (l:List Nat):List Value:=l.map fun (n:Nat)=>.int .i64 (n:Int)
end Go.Proofs.YtllefinciimffaaGreatDoor
namespace Go.Proofs.YtllefinciimffaaGreatDoor
open Go.RowKit
def tD (f : Nat → Bool) : Nat → Bool
 |0=>false
 |k+1=>f k
def aV (f : Nat → Bool) : Nat → List Nat × Nat
 |0=>([],0)
 |k+1=>if f k=tD f k then ((aV f k).1,(aV f k).2+1) else ((aV f k).1++[(aV f k).2],1)
def iW (f:Nat→Bool) (k:Nat):List Nat:=(aV f k).1++[(aV f k).2]
theorem tE (f : Nat → Bool) : ∀ k, (aV f k).1.length ≤ k ∧ (aV f k).2 ≤ k
 |0=>⟨Nat.le_refl _,Nat.le_refl _⟩
 |k+1=>by
  have ih:=tE f k;show ((if f k=tD f k then ((aV f k).1,(aV f k).2+1) else ((aV f k).1++[(aV f k).2],1)):List Nat × Nat).1.length≤k+1∧((if f k=tD f k then ((aV f k).1,(aV f k).2+1) else ((aV f k).1++[(aV f k).2],1)):List Nat × Nat).2≤k+1;split
  ·exact ⟨by show (aV f k).1.length≤k+1;omega,by show (aV f k).2+1≤k+1;omega⟩
  ·refine ⟨?_,by show 1≤k+1;omega⟩;show ((aV f k).1++[(aV f k).2]).length≤k+1;rw[aLy,aLR];omega
theorem pN {f:Nat→Bool} {k:Nat} (h:f k=tD f k):aV f (k+1)=((aV f k).1,(aV f k).2+1):=if_pos h
theorem tF {f:Nat→Bool} {k:Nat} (h:f k≠tD f k):aV f (k+1)=((aV f k).1++[(aV f k).2],1):=if_neg h
def n9 (r:List Nat × Nat):List Value:=aZ r.1++[.int .i64 r.2]
theorem E5 (f:Nat→Bool) (k:Nat):n9 (aV f k)=aZ (iW f k):=by unfold n9 iW aZ;rw[aLS];rfl
theorem dH (l:List Nat):(aZ l).length=l.length:=by unfold aZ;rw[aLz]
theorem OR (l:List Nat) (c d:Nat):(aZ l++[Value.int .i64 c]).set l.length (.int .i64 d)=aZ l++[Value.int .i64 d]:=by
 rw[List.set_append_right _ _ (by rw[dH];omega),dH,Nat.sub_self];rfl
theorem VK (l:List Nat) (c e d:Nat):(aZ l++[Value.int .i64 c]++[Value.int .i64 e]).set (l.length+1) (.int .i64 d)=aZ (l++[c])++[Value.int .i64 d]:=by
 rw[List.set_append_right _ _ (by rw[aLy,dH,aLR];omega),aLy,dH,aLR,Nat.sub_self];unfold aZ;rw[aLS];rfl
theorem aCT {l:List Nat} {n:Nat} (h:n=l.length) (c:Nat) (e:Value):(aZ l++[Value.int .i64 c]++[e])[n+1]? = some e:=by
 subst h;have e1:(aZ l++[Value.int .i64 c]).length=l.length+1:=(by rw[aLy,dH];rfl);rw[aLD (by omega),e1,Nat.sub_self];rfl
theorem aCU {w:World} {t:TypeId} {u:Value}:(w.alloc (.cells #[u] t)).ownsRow w.heap.size t 1 (.slice (some ⟨w.heap.size,0,none⟩) 1 1) 1 [u]:=
 ⟨rfl,.inr ⟨w.heap.size,1,#[u],rfl,Nat.le_refl _,heap_alloc_new w _,Nat.le_refl _,by unfold maxLen;omega,rfl,rfl⟩⟩
theorem uP {w:World} {base:Nat} {e:TypeId} {n g cap:Nat} {xs:List Value} (h:w.ownsRow base e 1 (.slice (some ⟨g,0,none⟩) n cap) n xs) {j:Nat} {u:Value} (hj:xs[j]? = some u):w.cell? ⟨g,j,none⟩=some u:=by
 obtain ⟨A,c,e2,hr⟩:=cU h;injection e2 with e1 _ _;subst e1;have hl:=(aLw.1 hj).1;have cL:=hr.1;obtain ⟨ad,e3,hc⟩:=hr.2 (by omega);injection e3 with e3;subst e3;have h1:=hc j u hj;have e4:(⟨g,0,none⟩:Addr).add j=⟨g,j,none⟩:=(by unfold Addr.add;split<;>simp_all);rw[e4] at h1;exact h1
structure Cd where
 k:Int
 t:List UInt8
 X:Int
 Y:Int
 W:Int
 n:Int
def Cd.cells (c:Cd):List Value:=[.int .i64 c.k,.string ⟨c.t.toArray⟩,.int .i64 c.X,.int .i64 c.Y,.int .i64 c.W,.int .i64 c.n]
def aU (cs:List Cd):List Value:=cs.flatMap Cd.cells
theorem yN (ss:List Cd):(aU ss).length=ss.length*6:=by
 unfold aU;induction ss with
 |nil=>rfl
 |cons l ls ih=>rw[aMi,aLy,ih,aLB];show 6+ls.length*6=(ls.length+1)*6;omega
theorem qM {ls:List Cd} {i:Nat} {l:Cd} (h:ls[i]? = some l) (j:Nat) (hj:j<6):(aU ls)[i*6+j]? = l.cells[j]?:=by
 induction ls generalizing i with
 |nil=>simp at h
 |cons x ls ih=>
  unfold aU;rw[aMi];rcases i with _|i
  ·simp only[aLT,Option.some.injEq] at h;subst h;rw[aLE (by show 0*6+j<6;omega)];simp
  ·rw[aLD (by show 6≤(i+1)*6+j;omega)];have e:(i+1)*6+j-x.cells.length=i*6+j:=by
    show (i+1)*6+j-6=i*6+j;omega
   rw[e];exact ih (by simpa using h)
theorem aCV {w:World} {A:Option Addr} {ss:List Cd} {i:Nat} {c:Cd} (h:Reads w 6 A ss.length (aU ss)) (hi:ss[i]? = some c):∃ad,A=some ad∧w.cell? (ad.add (i*6))=some (.int .i64 c.k)∧w.cell? ⟨(ad.add (i*6)).block,(ad.add (i*6)).off+1,none⟩=some (.string ⟨c.t.toArray⟩)∧w.cell? ⟨(ad.add (i*6)).block,(ad.add (i*6)).off+2,none⟩=some (.int .i64 c.X)∧w.cell? ⟨(ad.add (i*6)).block,(ad.add (i*6)).off+3,none⟩=some (.int .i64 c.Y)∧w.cell? ⟨(ad.add (i*6)).block,(ad.add (i*6)).off+4,none⟩=some (.int .i64 c.W)∧w.cell? ⟨(ad.add (i*6)).block,(ad.add (i*6)).off+5,none⟩=some (.int .i64 c.n):=by
 have hlt:i<ss.length:=(aLw.1 hi).1;obtain ⟨ad,e,hc⟩:=h.2 (by omega);have key:∀j v,j<6→c.cells[j]? = some v→w.cell? ((ad.add (i*6)).add j)=some v:=fun j v hj hv=>by
  rw[cY];exact hc _ _ (by rw[qM hi j hj];exact hv)
 have k0:=key 0 _ (by omega) rfl;have k1:=key 1 _ (by omega) rfl;have k2:=key 2 _ (by omega) rfl;have k3:=key 3 _ (by omega) rfl;have k4:=key 4 _ (by omega) rfl;have k5:=key 5 _ (by omega) rfl;rw[Addr.add_zero'] at k0;rw[Addr.add_succ'] at k1 k2 k3 k4 k5;exact ⟨ad,e,k0,k1,k2,k3,k4,k5⟩
theorem Blk.all6' {w:World} {g:Nat} {t:TypeId} {a b c d e f:Value} (k:Blk w g t #[a,b,c,d,e,f]):w.cell? ⟨g,0,none⟩=some a∧w.cell? ⟨g,1,none⟩=some b∧w.cell? ⟨g,2,none⟩=some c∧w.cell? ⟨g,3,none⟩=some d∧w.cell? ⟨g,4,none⟩=some e∧w.cell? ⟨g,5,none⟩=some f∧∀i,w.frozen? ⟨g,i,none⟩=false:=
 ⟨k.cell 0,k.cell 1,k.cell 2,k.cell 3,k.cell 4,k.cell 5,k.frozen⟩
def jS (c:Cd):Bool:=inB c.X 0 4000&&(inB c.Y 0 4000&&(inB c.W 0 4000&&inB c.n 1 1000000))
def gT (c:Cd):Int:=if c.k≠1∧c.k≠2 then 1 else if jS c=false then 3 else 0
def dW (cs:List Cd):Int:=if aG (cs.map gT)=0 then aF (decide (10000<(cs.length:Int))) 4 else aG (cs.map gT)
theorem uQ {α : Type} (f : α → Int) : ∀ (l : List α) (i : Nat) (x : α), aG ((l.take i).map f) = 0 → l[i]? = some x → f x ≠ 0 → aG (l.map f) = f x
 |[],i,x,_,h,_=>by simp at h
 |y :: l,0,x,_,h,hx=>by
  simp only[aLT,Option.some.injEq] at h;subst h;show (if f y=0 then _ else f y)=f y;rw[if_neg hx]
 |y :: l,i+1,x,h0,h,hx=>by
  have h1:(if f y=0 then aG ((l.take i).map f) else f y)=0:=h0;by_cases hy:f y=0
  ·rw[if_pos hy] at h1;show (if f y=0 then aG (l.map f) else f y)=f x;rw[if_pos hy];exact uQ f l i x h1 (by simpa using h) hx
  ·rw[if_neg hy] at h1;exact absurd h1 hy
theorem pO {α : Type} (f : α → Int) : ∀ (l : List α) (i : Nat) (x : α), aG ((l.take i).map f) = 0 → l[i]? = some x → f x = 0 → aG ((l.take (i + 1)).map f) = 0
 |[],i,x,_,h,_=>by simp at h
 |y :: l,0,x,_,h,hx=>by
  simp only[aLT,Option.some.injEq] at h;subst h;show (if f y=0 then aG ((l.take 0).map f) else f y)=0;rw[if_pos hx];rfl
 |y :: l,i+1,x,h0,h,hx=>by
  have h1:(if f y=0 then aG ((l.take i).map f) else f y)=0:=h0;by_cases hy:f y=0
  ·rw[if_pos hy] at h1;show (if f y=0 then aG ((l.take (i+1)).map f) else f y)=0;rw[if_pos hy];exact pO f l i x h1 (by simpa using h) hx
  ·rw[if_neg hy] at h1;exact absurd h1 hy
theorem aAv (n:Int) (w:World) :
 Calls Tryz.prog 238 #[n] w fun e w'=>e=.returned (.bool (inB n 0 4000))∧w=w':=by
 unfold inB;by_cases h1:0≤n<;>by_cases h2:n≤4000
 all_goals
  go_in
  go_wp2
  go_ret;exact ⟨by simp[*],rfl⟩
theorem VL (A:Option Addr) (c:Nat) (zs:List Int) (w:World) (hx:Reads w 1 A zs.length (zs.map (.int .i64))) (hl:zs.length≤1000) :
 Calls Tryz.prog 200 #[.slice A zs.length c] w fun e w'=>e=.returned (.int .i64 (aG zs))∧w=w':=by
 have HX:=aLa hx;clear hx
 go_in
 go_wp2_with fail;go_loopw [8] (fun v wr=>∃i:Nat,i≤zs.length∧v=.int .i64 i∧wr=w∧Hid (aG ((zs.take i).map id)=0)) (fun v _=>zs.length-(RowKit.intOf v).toNat);case atStart=>exact ⟨0,Nat.zero_le _,rfl,by trivial,aLa rfl⟩
 case round=>
  obtain ⟨i,hi,rfl,rfl,H0⟩:=hrel;by_cases hlt:i<zs.length
  ·obtain ⟨z,hz⟩:∃z,zs[i]? = some z:=⟨_,aLv hlt⟩;obtain ⟨ad,u,rfl,hu,hc⟩:=HX.out.at_ hlt;rw[aLG,hz] at hu;obtain rfl:=aLZ hu;have hin:(i:Int)<(zs.length:Int):=(by omega);by_cases h0:z=0
   ·have HG:=aLa (pO id zs i z H0.out hz h0);subst h0;clear hz;go_wp2_with fail;exact ⟨⟨i+1,hlt,by go_num,by trivial,HG⟩,by simp[RowKit.intOf]<;>omega⟩
   ·have HE:=aLa (show aG zs=z by have h:=uQ id zs i z H0.out hz h0;rwa [List.map_id] at h);have hq:(z != 0)=true:=(by rw[bne_iff_ne];exact h0);clear hz h0;go_wp2_with fail;refine aL0 (v:=.int .i64 z) (by simp[results,Tryz.results200,go_sem]) rfl ⟨by rw[HE.out],rfl⟩
  ·obtain rfl:i=zs.length:=(by omega);have h0:=H0.out;rw[aLC,List.map_id] at h0;have HE:=aLa h0;clear h0;go_wp2_with fail;go_ret;exact ⟨gB HE.out.symm,rfl⟩
def eL (c e:Cd):Bool:=decide (e.k=c.k)&&decide (e.t=c.t)
end Go.Proofs.YtllefinciimffaaGreatDoor
namespace Go.Proofs
open Go.Shelf
def Tryz.laysSortI_ren:Go.Shelf.Ren:=⟨fun|5=>143|8=>190|7=>189|19=>250|20=>251|10=>241|11=>242|12=>243|13=>244|14=>245|15=>246|16=>247|17=>248|18=>249|30=>289|31=>290|32=>291|33=>292|34=>293|35=>294|40=>331|n=>n,fun|23=>47|25=>3|3=>3|32=>233|22=>47|0=>0|44=>277|46=>270|4=>4|36=>289|35=>288|41=>182|5=>5|9=>9|53=>322|57=>189|63=>350|64=>351|n=>n,fun|n=>n⟩
theorem Tryz.laysSortI : Go.Proofs.SlLaysM.n5 Tryz.prog Tryz.laysSortI_ren := {
 mixed:=by kernel_rfl
 f5:=⟨Tryz.f143.name,by decide,Tryz.func143.trans (congrArg some (by kernel_rfl))⟩
 f7:=⟨Tryz.f189.name,by decide,Tryz.func189.trans (congrArg some (by kernel_rfl))⟩
 f8:=Tryz.func190.trans (congrArg some (by kernel_rfl))
 f10:=⟨Tryz.f241.name,by decide,Tryz.func241.trans (congrArg some (by kernel_rfl))⟩
 f11:=⟨Tryz.f242.name,by decide,Tryz.func242.trans (congrArg some (by kernel_rfl))⟩
 f12:=⟨Tryz.f243.name,by decide,Tryz.func243.trans (congrArg some (by kernel_rfl))⟩
 f13:=⟨Tryz.f244.name,by decide,Tryz.func244.trans (congrArg some (by kernel_rfl))⟩
 f14:=⟨Tryz.f245.name,by decide,Tryz.func245.trans (congrArg some (by kernel_rfl))⟩
 f15:=⟨Tryz.f246.name,by decide,Tryz.func246.trans (congrArg some (by kernel_rfl))⟩
 f16:=⟨Tryz.f247.name,by decide,Tryz.func247.trans (congrArg some (by kernel_rfl))⟩
 f17:=⟨Tryz.f248.name,by decide,Tryz.func248.trans (congrArg some (by kernel_rfl))⟩
 f18:=⟨Tryz.f249.name,by decide,Tryz.func249.trans (congrArg some (by kernel_rfl))⟩
 f19:=Tryz.func250.trans (congrArg some (by kernel_rfl))
 f20:=Tryz.func251.trans (congrArg some (by kernel_rfl))
 f30:=⟨Tryz.f289.name,by decide,Tryz.func289.trans (congrArg some (by kernel_rfl))⟩
 f31:=Tryz.func290.trans (congrArg some (by kernel_rfl))
 f32:=Tryz.func291.trans (congrArg some (by kernel_rfl))
 f33:=⟨Tryz.f292.name,by decide,Tryz.func292.trans (congrArg some (by kernel_rfl))⟩
 f34:=⟨Tryz.f293.name,by decide,Tryz.func293.trans (congrArg some (by kernel_rfl))⟩
 f35:=⟨Tryz.f294.name,by decide,Tryz.func294.trans (congrArg some (by kernel_rfl))⟩
 f40:=⟨Tryz.f331.name,by decide,Tryz.func331.trans (congrArg some (by kernel_rfl))⟩
 t0:=Tryz.underlying0
 a0:=Tryz.isAgg0
 z0:=Tryz.sizeOf0
 v0:=Tryz.zeroValue0
 t3:=Tryz.underlying3
 a3:=Tryz.isAgg3
 z3:=Tryz.sizeOf3
 v3:=Tryz.zeroValue3
 t4:=Tryz.underlying4
 a4:=Tryz.isAgg4
 z4:=Tryz.sizeOf4
 v4:=Tryz.zeroValue4
 t5:=Tryz.underlying5
 a5:=Tryz.isAgg5
 z5:=Tryz.sizeOf5
 v5:=Tryz.zeroValue5
 t9:=Tryz.underlying9
 a9:=Tryz.isAgg9
 z9:=Tryz.sizeOf9
 v9:=Tryz.zeroValue9
 t22:=Tryz.underlying47
 a22:=Tryz.isAgg47
 z22:=Tryz.sizeOf47
 v22:=Tryz.zeroValue47
 t23:=Tryz.underlying47
 a23:=Tryz.isAgg47
 z23:=Tryz.sizeOf47
 v23:=Tryz.zeroValue47
 t25:=Tryz.underlying3
 a25:=Tryz.isAgg3
 z25:=Tryz.sizeOf3
 v25:=Tryz.zeroValue3
 t32:=Tryz.underlying233
 a32:=Tryz.isAgg233
 z32:=Tryz.sizeOf233
 v32:=Tryz.zeroValue233
 t35:=Tryz.underlying288
 a35:=Tryz.isAgg288
 z35:=Tryz.sizeOf288
 v35:=Tryz.zeroValue288
 t36:=Tryz.underlying289
 a36:=Tryz.isAgg289
 z36:=Tryz.sizeOf289
 v36:=Tryz.zeroValue289
 t41:=Tryz.underlying182
 a41:=Tryz.isAgg182
 z41:=Tryz.sizeOf182
 v41:=Tryz.zeroValue182
 t44:=Tryz.underlying277
 a44:=Tryz.isAgg277
 z44:=Tryz.sizeOf277
 v44:=Tryz.zeroValue277
 t46:=Tryz.underlying270
 a46:=Tryz.isAgg270
 z46:=Tryz.sizeOf270
 v46:=Tryz.zeroValue270
 t53:=Tryz.underlying322
 a53:=Tryz.isAgg322
 z53:=Tryz.sizeOf322
 v53:=Tryz.zeroValue322
 t57:=Tryz.underlying189
 a57:=Tryz.isAgg189
 z57:=Tryz.sizeOf189
 v57:=Tryz.zeroValue189
 t63:=Tryz.underlying350
 a63:=Tryz.isAgg350
 z63:=Tryz.sizeOf350
 v63:=Tryz.zeroValue350
 t64:=Tryz.underlying351
 a64:=Tryz.isAgg351
 z64:=Tryz.sizeOf351
 v64:=Tryz.zeroValue351 }
end Go.Proofs
namespace Go.Proofs.YtllefinciimffaaGreatDoor
open Go.RowKit Go.Shelf Go.Sort
theorem IM (B g cap:Nat) (T:TypeId) (l:List Int) (w:World) (cA:w.ownsRow B T 1 (.slice (some ⟨g,0,none⟩) l.length cap) l.length (l.map (.int .i64))) (hn:l.length≤1000000) :
 Calls Tryz.prog 143 #[.slice (some ⟨g,0,none⟩) l.length cap] w fun e w'=>e=.returned (.tuple #[])∧Reads w' 1 (some ⟨g,0,none⟩) l.length ((nE l).map (.int .i64))∧w.heap.size≤w'.heap.size∧(∀k,k<w.heap.size→k≠g→w'.heap[k]? = w.heap[k]?)∧∀w0,Bl w0 w→w0.heap.size≤g→Bl w0 w':=by
 have GN:g<w.heap.size:=(cA.lt g rfl).2;have hH:Holds (Value.int .i64) w g 0 l.toArray:=fun j hj=>by
  have hj':j<l.length:=(by simpa using hj);rw[Nat.zero_add];refine ⟨?_,World.ownsRow.frozenAt cA j⟩;rw[World.ownsRow.cellAt cA j (by omega)];simp[hj']
 have ZG:=AnyM.slices_Sort_int Tryz.laysSortI g 0 cap l w hH GN (by omega);refine Calls.mono (R:=fun e w'=>e=.returned (.tuple #[])∧∃n os,w'=grow (putRow (Value.int .i64) (Sort.ahead w n) g 0 (nE l).toArray) os) ZG ?_;rintro e w' ⟨rfl,n,os,rfl⟩;have hp:Holds (Value.int .i64) (putRow (Value.int .i64) (Sort.ahead w n) g 0 (nE l).toArray) g 0 (nE l).toArray:=holds_putRow (Value.int .i64) _ _ _ l.toArray _ (fun j hj=>hH j hj) (by simp[yF]);have hsz:(putRow (Value.int .i64) (Sort.ahead w n) g 0 (nE l).toArray).heap.size=w.heap.size:=by
  unfold putRow mapBlock Sort.ahead;simp
 have hp2:=holds_grow (Value.int .i64) (putRow (Value.int .i64) (Sort.ahead w n) g 0 (nE l).toArray) os g 0 (nE l).toArray (by rw[hsz];exact GN) hp;refine ⟨rfl,⟨by simp[yF],fun hk=>⟨_,rfl,fun j u hu => ?_⟩⟩,by rw[←hsz];simp,fun k hk hne => ?_,fun w0 h0 hb => ?_⟩
 ·rw[aLG,Option.map_eq_some_iff] at hu;obtain ⟨x,hx,rfl⟩:=hu;have hj:=(aLw.1 hx).1;have h:=(hp2 j (by simpa using hj)).1;rw[Addr.add_lit,h];have:(nE l).toArray[j]! = x:=by
   rw[getElem!_pos _ j (by simpa using hj)];simpa using aLZ ((aLv hj).symm.trans hx)
  rw[this]
 ·show ((putRow (Value.int .i64) (Sort.ahead w n) g 0 (nE l).toArray).heap++os)[k]? = _;rw[Array.getElem?_append_left (by omega)];unfold putRow mapBlock Sort.ahead;simp only[Array.getElem?_modify];rw[if_neg (Ne.symm hne)]
 ·have h1:Bl w0 (putRow (Value.int .i64) (Sort.ahead w n) g 0 (nE l).toArray):=Lib.below_putRow (q:=n) h0 hb;refine ⟨h1.os,h1.tape,h1.output,?_,fun k hk => ?_⟩
  ·have:=Below.size h1;show _≤((putRow (Value.int .i64) (Sort.ahead w n) g 0 (nE l).toArray).heap++os).size;simp;omega
  ·have h2:=Below.block h1 k hk;have h3:=Below.size h1;show ((putRow (Value.int .i64) (Sort.ahead w n) g 0 (nE l).toArray).heap++os)[k]? = _;rw[Array.getElem?_append_left (by omega)];exact h2
end Go.Proofs.YtllefinciimffaaGreatDoor
namespace Go.Proofs.YtllefinciimffaaGreatDoor
open Go.RowKit
theorem aAw {w:World} {base base':Nat} {e:TypeId} {size:Nat} {v:Value} {n:Nat} {xs:List Value} (h:w.ownsRow base e size v n xs) (hb:base'≤base):w.ownsRow base' e size v n xs:=by
 refine ⟨h.1,?_⟩;rcases h.2 with h2|⟨g,cap,cur,hv,hg,r⟩
 ·exact .inl h2
 ·exact .inr ⟨g,cap,cur,hv,aMb hb hg,r⟩
end Go.Proofs.YtllefinciimffaaGreatDoor
