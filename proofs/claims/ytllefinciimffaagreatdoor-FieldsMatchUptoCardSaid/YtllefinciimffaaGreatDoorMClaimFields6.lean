import Derived.Test.YtllefinciimffaaGreatDoorMClaimFields0
import Derived.Ground.NamesProg
import Derived.Shelf.Lay
import Derived.Shelf.Strings.SlTrimAscii
import Derived.Lib.Split
import Derived.Lib.CountLaws
import Derived.Lib.IndexMore
import Derived.ProofKit
import Derived.OpenShut
import Derived.Lib.SmallJoins
set_option maxHeartbeats 20000000
set_option maxRecDepth 100000
namespace Go.Proofs
open Go.Shelf
def Tryz.lays160_ren:Go.Shelf.Ren:=⟨fun|160=>153|232=>203|231=>202|227=>204|234=>206|233=>205|236=>208|235=>207|228=>262|271=>264|151=>263|197=>229|120=>310|152=>309|260=>283|137=>212|119=>336|224=>175|225=>174|217=>173|266=>231|n=>n,fun|9=>9|4=>4|3=>3|5=>5|117=>258|116=>257|0=>0|124=>261|21=>21|105=>275|46=>233|119=>333|139=>347|138=>346|n=>n,fun|3=>5|4=>6|n=>n⟩
theorem Tryz.lays160 : Go.Proofs.Lays.n160 Tryz.prog Tryz.lays160_ren := {
 mixed:=by kernel_rfl
 f119:=Tryz.func336.trans (congrArg some (by kernel_rfl))
 f120:=Tryz.func310.trans (congrArg some (by kernel_rfl))
 f137:=Tryz.func212.trans (congrArg some (by kernel_rfl))
 f151:=Tryz.func263.trans (congrArg some (by kernel_rfl))
 f152:=Tryz.func309.trans (congrArg some (by kernel_rfl))
 f160:=Tryz.func153.trans (congrArg some (by kernel_rfl))
 f197:=Tryz.func229.trans (congrArg some (by kernel_rfl))
 f217:=Tryz.func173.trans (congrArg some (by kernel_rfl))
 f224:=Tryz.func175.trans (congrArg some (by kernel_rfl))
 f225:=Tryz.func174.trans (congrArg some (by kernel_rfl))
 f227:=Tryz.func204.trans (congrArg some (by kernel_rfl))
 f228:=Tryz.func262.trans (congrArg some (by kernel_rfl))
 f231:=Tryz.func202.trans (congrArg some (by kernel_rfl))
 f232:=Tryz.func203.trans (congrArg some (by kernel_rfl))
 f233:=Tryz.func205.trans (congrArg some (by kernel_rfl))
 f234:=Tryz.func206.trans (congrArg some (by kernel_rfl))
 f235:=Tryz.func207.trans (congrArg some (by kernel_rfl))
 f236:=Tryz.func208.trans (congrArg some (by kernel_rfl))
 f260:=Tryz.func283.trans (congrArg some (by kernel_rfl))
 f266:=Tryz.func231.trans (congrArg some (by kernel_rfl))
 f271:=Tryz.func264.trans (congrArg some (by kernel_rfl))
 t0:=Tryz.underlying0
 a0:=Tryz.isAgg0
 z0:=Tryz.sizeOf0
 v0:=Tryz.zeroValue0
 t3:=Tryz.underlying3
 a3:=Tryz.isAgg3
 z3:=Tryz.sizeOf3
 v3:=Tryz.zeroValue3
 t4:=Tryz.underlying4
 a4:=Tryz.isAgg4
 z4:=Tryz.sizeOf4
 v4:=Tryz.zeroValue4
 t5:=Tryz.underlying5
 a5:=Tryz.isAgg5
 z5:=Tryz.sizeOf5
 v5:=Tryz.zeroValue5
 t9:=Tryz.underlying9
 a9:=Tryz.isAgg9
 z9:=Tryz.sizeOf9
 v9:=Tryz.zeroValue9
 t21:=Tryz.underlying21
 a21:=Tryz.isAgg21
 z21:=Tryz.sizeOf21
 v21:=Tryz.zeroValue21
 t46:=Tryz.underlying233
 a46:=Tryz.isAgg233
 z46:=Tryz.sizeOf233
 v46:=Tryz.zeroValue233
 t105:=Tryz.underlying275
 a105:=Tryz.isAgg275
 z105:=Tryz.sizeOf275
 v105:=Tryz.zeroValue275
 t116:=Tryz.underlying257
 a116:=Tryz.isAgg257
 z116:=Tryz.sizeOf257
 t117:=Tryz.underlying258
 a117:=Tryz.isAgg258
 z117:=Tryz.sizeOf258
 v117:=Tryz.zeroValue258
 t119:=Tryz.underlying333
 a119:=Tryz.isAgg333
 z119:=Tryz.sizeOf333
 t124:=Tryz.underlying261
 a124:=Tryz.isAgg261
 z124:=Tryz.sizeOf261
 v124:=Tryz.zeroValue261
 t138:=Tryz.underlying346
 a138:=Tryz.isAgg346
 z138:=Tryz.sizeOf346
 v138:=Tryz.zeroValue346
 t139:=Tryz.underlying347
 a139:=Tryz.isAgg347
 z139:=Tryz.sizeOf347
 v139:=Tryz.zeroValue347
 g3:=by kernel_rfl
 g4:=by kernel_rfl }
end Go.Proofs
namespace Go.Proofs.YtllefinciimffaaGreatDoor
open Go.RowKit Go.Shelf Go.Lib
def xH:List UInt8:=[97,98,99,100,101,102,103,104,105,106,107,108,109,110,111,112,113,114,115,116,117,118,119,120,121,122,48,49,50,51,52,53,54,55,56,57,45]
def FU (b:UInt8):Bool:=decide (97≤b.toNat∧b.toNat≤122)
def cG (l:List UInt8):Bool:=decide (l≠[]∧l.length≤40∧(∀b,l[0]? = some b→FU b=true)∧∀b∈l,xH.contains b=true)
theorem AY (b:UInt8):xH.contains b=true↔(97≤b.toNat∧b.toNat≤122)∨(48≤b.toNat∧b.toNat≤57)∨b.toNat=45:=by
 rw[List.contains_iff_mem];constructor
 ·intro h;simp only[xH,aIk,List.not_mem_nil,or_false] at h;rcases h with h|h|h|h|h|h|h|h|h|h|h|h|h|h|h|h|h|h|h|h|h|h|h|h|h|h|h|h|h|h|h|h|h|h|h|h|h<;>subst h<;>decide
 ·intro h;have hb:b=UInt8.ofNat b.toNat:=(by simp);rw[hb];have hlt:b.toNat<256:=b.toNat_lt;generalize b.toNat=n at h hlt;have:n∈List.range 256:=List.mem_range.2 hlt
  revert h
  revert n
  decide +kernel
theorem DA {α:Type} (p:α→Bool) (l:List α):l.dropWhile p=[]↔∀b∈l,p b=true:=by
 induction l with
 |nil=>simp
 |cons a l ih=>
  rw[List.dropWhile_cons];cases h:p a
  ·simp[h]
  ·simp[h,ih]
theorem DB {α:Type} (p:α→Bool) (l:List α):∀b∈l.takeWhile p,p b=true:=by
 induction l with
 |nil=>simp
 |cons a l ih=>
  rw[List.takeWhile_cons];cases h:p a
  ·simp
  ·intro b hb;simp only[if_true,aIk] at hb;rcases hb with rfl|hb
   ·exact h
   ·exact ih b hb
theorem nM (l cs:List UInt8):trimS l cs=[]↔∀b∈l,cs.contains b=true:=by
 unfold trimS trimLeftS trimRightS;rw[DA];constructor
 ·intro h b hb;by_cases hc:cs.contains b=true
  ·exact hc
  ·have hr:b∈l.reverse.dropWhile (cs.contains ·):=by
    have h2:b∈l.reverse.takeWhile (cs.contains ·)++l.reverse.dropWhile (cs.contains ·):=(by rw[List.takeWhile_append_dropWhile];exact List.mem_reverse.2 hb);rcases aIj.1 h2 with h3|h3
    ·exact absurd (DB _ _ _ h3) hc
    ·exact h3
   exact h b (List.mem_reverse.2 hr)
 ·intro h b hb;exact h b (List.mem_reverse.1 ((List.dropWhile_suffix _).subset (List.mem_reverse.1 hb)))
theorem DC {s:ByteArray} (h:0<s.size):s.data.toList[0]? = some s[0]:=by
 have:=Lib.size_eq s;rw[aH2 (by omega)];rfl
theorem JT {s:ByteArray} (h:s.size=0):cG s.data.toList=false:=by
 have:=Lib.size_eq s;have h2:s.data.toList=[]:=List.eq_nil_of_length_eq_zero (by omega);rw[h2];rfl
theorem OQ {s:ByteArray} (h:¬s.size≤40):cG s.data.toList=false:=by
 have:=Lib.size_eq s;unfold cG;refine aIt fun h2 => ?_;omega
theorem WL {s:ByteArray} (h0:0<s.size) (h:¬97≤(s[0].toNat:Int)):cG s.data.toList=false:=by
 unfold cG;refine aIt fun h2 => ?_;have h3:=h2.2.2.1 _ (DC h0);unfold FU at h3;have h4:=aIv h3;omega
theorem WM {s:ByteArray} (h0:0<s.size) (h:¬(s[0].toNat:Int)≤122):cG s.data.toList=false:=by
 unfold cG;refine aIt fun h2 => ?_;have h3:=h2.2.2.1 _ (DC h0);unfold FU at h3;have h4:=aIv h3;omega
theorem OR {s:ByteArray} (h0:0<s.size) (h40:s.size≤40) (ha:97≤(s[0].toNat:Int)) (hb:(s[0].toNat:Int)≤122) (hl:s.size=s.data.toList.length):cG s.data.toList=(Lib.trimS s.data.toList xH).isEmpty:=by
 rw[Bool.eq_iff_iff,List.isEmpty_iff,nM];unfold cG;rw[decide_eq_true_eq];constructor
 ·intro h;exact h.2.2.2
 ·intro h;refine ⟨fun e => ?_,by omega,fun b hb' => ?_,h⟩
  ·have h2:=congrArg List.length e;simp only[List.length_nil] at h2;omega
  ·rw[DC h0] at hb';obtain rfl:=aIw hb';unfold FU;exact aIu (by omega)
theorem MN {s:ByteArray} (h:s.size=0):s.toList.isEmpty=true:=by
 rw[Lib.toList_data];cases h':s.data.toList with
 |nil=>rfl
 |cons _ _=>have:=Lib.size_eq s;rw[h',aH8] at this;omega
theorem xI {s:ByteArray} (h:0<s.size):s.toList.isEmpty=false:=by
 rw[Lib.toList_data];cases h':s.data.toList with
 |nil=>have:=Lib.size_eq s;rw[h',List.length_nil] at this;omega
 |cons _ _=>rfl
theorem tB (s:ByteArray) (w:World) (hs:s.size≤9223372036854775807) :
 Calls Tryz.prog 96 #[.string s] w fun e w'=>e=.returned (.bool (cG s.data.toList))∧Bl w w':=by
 have AD:=fun w=>Any.strings_Trim_laid Tryz.lays160 (by kernel_rfl) s ⟨xH.toArray⟩ w hs (by decide) (ascii_of_all (by decide));have aAA:=aHH (Lib.size_eq s);by_cases h0:0<s.size
 ·have he:=xI h0;by_cases h40:s.size≤40
  ·by_cases ha:97≤(s[0].toNat:Int)
   ·by_cases hb:(s[0].toNat:Int)≤122
    ·obtain ⟨r,hr⟩:=aH0 ((⟨(Lib.trimS s.data.toList xH).toArray⟩:ByteArray));have aDF:∀w,Calls Tryz.prog 153 #[.string s,xH] w fun e w'=>e=.returned (.string r)∧Below w.heap.size w w':=(by rw[hr];exact AD);clear AD
     go_in
     go_wp2_with (go_at_call 153;refine (aDF _).mono ?_;rintro e w' ⟨rfl,hB⟩);go_ret;exact ⟨aS (OR h0 h40 ha hb aAA.out).symm,hB⟩
    ·have HN:=aHH (WM h0 hb)
     go_in
     go_wp2_with fail;go_ret;exact ⟨aS HN.out.symm,Bl.refl _⟩
   ·have HN:=aHH (WL h0 ha)
    go_in
    go_wp2_with fail;go_ret;exact ⟨aS HN.out.symm,Bl.refl _⟩
  ·have HN:=aHH (OQ h40)
   go_in
   go_wp2_with fail;go_ret;exact ⟨aS HN.out.symm,Bl.refl _⟩
 ·have he:=MN (show s.size=0 by omega);have HN:=aHH (JT (show s.size=0 by omega))
  go_in
  go_wp2_with fail;go_ret;exact ⟨aS HN.out.symm,Bl.refl _⟩
def MO (i:Nat) (b:UInt8):Bool:=FU b||(decide (i≠0)&&(decide (48≤b.toNat∧b.toNat≤57)||decide (b.toNat=45)))
theorem FW (l:List UInt8):cG l=true↔(l≠[]∧l.length≤40)∧∀(i:Nat) b,l[i]? = some b→MO i b=true:=by
 unfold cG;simp only[decide_eq_true_eq];constructor
 ·rintro ⟨h1,h2,h3,h4⟩;refine ⟨⟨h1,h2⟩,fun i b hb => ?_⟩;have h5:=(AY b).1 (h4 b (List.mem_of_getElem? hb));unfold MO;rcases i with _|i
  ·rw[h3 b hb];rfl
  ·unfold FU;simp only[Bool.or_eq_true,aIs,decide_eq_true_eq];rcases h5 with h|h|h
   ·exact Or.inl h
   ·exact Or.inr ⟨by omega,Or.inl h⟩
   ·exact Or.inr ⟨by omega,Or.inr h⟩
 ·rintro ⟨⟨h1,h2⟩,h3⟩;refine ⟨h1,h2,fun b hb => ?_,fun b hb => ?_⟩
  ·have:=h3 0 b hb;unfold MO at this;simpa using this
  ·obtain ⟨i,hi⟩:=List.getElem?_of_mem hb;have:=h3 i b hi;unfold MO FU at this;simp only[Bool.or_eq_true,aIs,decide_eq_true_eq] at this;refine (AY b).2 ?_;rcases this with h|⟨_,h|h⟩
   ·exact Or.inl h
   ·exact Or.inr (Or.inl h)
   ·exact Or.inr (Or.inr h)
theorem lP (i:Nat) (b:UInt8):MO i b=true↔(97≤(b.toNat:Int)∧(b.toNat:Int)≤122)∨(i≠0∧((48≤(b.toNat:Int)∧(b.toNat:Int)≤57)∨(b.toNat:Int)=45)):=by
 unfold MO FU;simp only[Bool.or_eq_true,aIs,decide_eq_true_eq];omega
theorem mQ {l:List UInt8} {k:Nat} {b:UInt8} (h:l[k]? = some b) (hn:¬MO k b=true):cG l=false:=by
 cases e:cG l
 ·rfl
 ·exact absurd (((FW l).1 e).2 k b h) hn
theorem SQ {s:ByteArray} (hl:s.size=s.data.toList.length) (h:∀(j:Nat) b,j<s.size→s.data.toList[j]? = some b→MO j b=true):cG s.data.toList=(!s.toList.isEmpty&&decide ((s.size:Int)≤40)):=by
 rw[Bool.eq_iff_iff,FW];rw[aIs,decide_eq_true_eq,Lib.toList_data];simp only[Bool.not_eq_true',List.isEmpty_eq_false_iff];constructor
 ·rintro ⟨⟨h1,h2⟩,_⟩;exact ⟨h1,by omega⟩
 ·rintro ⟨h1,h2⟩;refine ⟨⟨h1,by omega⟩,fun i b hb=>h i b ?_ hb⟩;have:=aH3.1 hb;obtain ⟨h3,_⟩:=this;omega
theorem tC (s:ByteArray) (w:World) (hs:s.size≤9223372036854775807) :
 Calls Tryz.prog 50 #[.string s] w fun e w'=>e=.returned (.bool (cG s.data.toList))∧Bl w w':=by
 have aAA:=aHH (Lib.size_eq s)
 go_in
 go_wp2_with fail
 go_loop [7] (fun u=>∃k:Nat,k≤s.size∧u=.int .i64 k∧∀(j:Nat) b,j<k→s.data.toList[j]? = some b→MO j b=true) (fun u=>s.size-(RowKit.intOf u).toNat)
 case atStart=>exact ⟨0,Nat.zero_le _,rfl,fun j b hj=>absurd hj (Nat.not_lt_zero _)⟩
 case round=>
  obtain ⟨k,hk,rfl,hc⟩:=hrel;have HC:=aHH hc;clear hc;by_cases hlt:k<s.size
  ·have hg:s.data.toList[k]? = some s[k]:=(by rw[aH2 (by have:=aAA.out;omega)];rfl);have HG:=aHH hg;clear hg;by_cases c1:97≤(s[k].toNat:Int)
   ·by_cases c2:(s[k].toNat:Int)≤122
    ·have HO:=aHH ((lP k s[k]).2 (by first|omega|(have h3:=HK0.out;omega)));go_wp2_with fail;exact ⟨⟨k+1,hlt,by go_num,fun j b hj hb=>by
      rcases Nat.lt_succ_iff_lt_or_eq.1 hj with h|rfl
      ·exact HC.out j b h hb
      ·rw[HG.out] at hb;obtain rfl:=aIw hb;exact HO.out⟩,by simp[RowKit.intOf];omega⟩
    ·by_cases hk0:k=0
     ·have hq:((k:Int)==0)=true:=(by simp[hk0]);have HK0:=aHH hk0;clear hk0;have HO:=aHH (show ¬MO k s[k]=true from fun h=>by have h2:=(lP k s[k]).1 h;first|omega|(have h3:=HK0.out;omega));have HN:=aHH (mQ HG.out HO.out);go_wp2_with fail;go_ret;exact ⟨aS HN.out.symm,Bl.refl _⟩
     ·have hq:((k:Int)==0)=false:=(by simp[hk0]);have HK0:=aHH hk0;clear hk0;have c3:48≤(s[k].toNat:Int):=(by omega);have c4:¬(s[k].toNat:Int)≤57:=(by omega);have c5:((s[k].toNat:Int) != 45)=true:=(by simp;omega);have HO:=aHH (show ¬MO k s[k]=true from fun h=>by have h2:=(lP k s[k]).1 h;first|omega|(have h3:=HK0.out;omega));have HN:=aHH (mQ HG.out HO.out);go_wp2_with fail;go_ret;exact ⟨aS HN.out.symm,Bl.refl _⟩
   ·by_cases hk0:k=0
    ·have hq:((k:Int)==0)=true:=(by simp[hk0]);have HK0:=aHH hk0;clear hk0;have HO:=aHH (show ¬MO k s[k]=true from fun h=>by have h2:=(lP k s[k]).1 h;first|omega|(have h3:=HK0.out;omega));have HN:=aHH (mQ HG.out HO.out);go_wp2_with fail;go_ret;exact ⟨aS HN.out.symm,Bl.refl _⟩
    ·have hq:((k:Int)==0)=false:=(by simp[hk0]);have HK0:=aHH hk0;clear hk0;by_cases c3:48≤(s[k].toNat:Int)
     ·by_cases c4:(s[k].toNat:Int)≤57
      ·have HO:=aHH ((lP k s[k]).2 (by first|omega|(have h3:=HK0.out;omega)));go_wp2_with fail;exact ⟨⟨k+1,hlt,by go_num,fun j b hj hb=>by
        rcases Nat.lt_succ_iff_lt_or_eq.1 hj with h|rfl
        ·exact HC.out j b h hb
        ·rw[HG.out] at hb;obtain rfl:=aIw hb;exact HO.out⟩,by simp[RowKit.intOf];omega⟩
      ·have c5:((s[k].toNat:Int) != 45)=true:=(by simp;omega);have HO:=aHH (show ¬MO k s[k]=true from fun h=>by have h2:=(lP k s[k]).1 h;first|omega|(have h3:=HK0.out;omega));have HN:=aHH (mQ HG.out HO.out);go_wp2_with fail;go_ret;exact ⟨aS HN.out.symm,Bl.refl _⟩
     ·by_cases c6:(s[k].toNat:Int)=45
      ·have c5:((s[k].toNat:Int) != 45)=false:=(by simp[c6]);have HO:=aHH ((lP k s[k]).2 (by first|omega|(have h3:=HK0.out;omega)));go_wp2_with fail;exact ⟨⟨k+1,hlt,by go_num,fun j b hj hb=>by
        rcases Nat.lt_succ_iff_lt_or_eq.1 hj with h|rfl
        ·exact HC.out j b h hb
        ·rw[HG.out] at hb;obtain rfl:=aIw hb;exact HO.out⟩,by simp[RowKit.intOf];omega⟩
      ·have c5:((s[k].toNat:Int) != 45)=true:=(by simp;omega);have HO:=aHH (show ¬MO k s[k]=true from fun h=>by have h2:=(lP k s[k]).1 h;first|omega|(have h3:=HK0.out;omega));have HN:=aHH (mQ HG.out HO.out);go_wp2_with fail;go_ret;exact ⟨aS HN.out.symm,Bl.refl _⟩
  ·obtain rfl:k=s.size:=(by omega);have HE:=aHH (SQ aAA.out HC.out);cases he:s.toList.isEmpty<;>by_cases h40:s.size≤40
   all_goals
    have HX:=aHH HE.out;go_wp2_with fail;go_ret;exact ⟨aS (by rw[HE.out,he];first|(simp;done)|(simp;omega)),Bl.refl _⟩
end Go.Proofs.YtllefinciimffaaGreatDoor
namespace Go.Proofs.YtllefinciimffaaGreatDoor
open Go.RowKit
def xJ : List (List UInt8) → List UInt8
 |[]=>[]
 |[x]=>x
 |x :: y :: l=>x++32 :: xJ (y :: l)
theorem JU (t:List UInt8):(Lib.index t [32] = -1∧∀b∈t,b≠32)∨∃i:Nat,Lib.index t [32]=(i:Int)∧i<t.length∧t=t.take i++32 :: t.drop (i+1)∧∀b∈t.take i,b≠32:=by
 have occ:∀j (hj:j<t.length),Lib.occAt t [32] j=decide (t[j]=32):=fun j hj=>by
  rw[Lib.occAt_iff_take _ _ _ (by simp;omega),aIE hj];have e:List.take [(32:UInt8)].length (t[j] :: t.drop (j+1))=[t[j]]:=rfl;rw[e,Bool.eq_iff_iff,beq_iff_eq,decide_eq_true_eq];constructor
  ·intro h;injection h
  ·intro h;rw[h]
 rcases Lib.index_spec t [32] with ⟨h,hn⟩|⟨i,h,hi,ho,hno⟩
 ·refine .inl ⟨h,fun b hb e => ?_⟩;obtain ⟨j,hj,hb'⟩:=List.mem_iff_getElem.1 hb;have h1:=hn j (by omega);rw[occ j hj,hb',e] at h1;cases h1
 ·have hlt:i<t.length:=by
   rcases Lib.occAt_room ho with h5|h5
   ·have h6:i+1≤t.length:=h5;omega
   ·cases h5
  refine .inr ⟨i,h,hlt,?_,fun b hb e => ?_⟩
  ·rw[occ i hlt] at ho;have h2:t[i]=32:=aIv ho;conv=>lhs;rw[←aIh i t]
   rw[aIE hlt,h2]
  ·obtain ⟨j,hj,hb'⟩:=List.mem_iff_getElem.1 hb;have hj2:j<i:=(by rw[aH7] at hj;omega);have h1:=hno j hj2;rw[occ j (by omega)] at h1;rw[List.getElem_take] at hb';rw[hb',e] at h1;cases h1
def cL (t:List UInt8):List (List UInt8):=Lib.split t [32]
theorem uK {t:List UInt8} (h:Lib.index t [32] = -1):cL t=[t]:=by
 unfold cL Lib.split;rw[Lib.count_miss h];rfl
theorem JV {t:List UInt8} {i:Nat} (h:Lib.index t [32]=(i:Int)):cL t=t.take i :: cL (t.drop (i+1)):=by
 unfold cL Lib.split;rw[Lib.count_hit (by simp) h,Nat.add_comm];show (if Lib.index t [32]==-1 then [t] else t.take ((Lib.index t [32]).toNat+0) :: Lib.splitK [32] 0 _ (t.drop ((Lib.index t [32]).toNat+[32].length)))=_;rw[h,if_neg (by rw[beq_iff_eq];omega)];simp
theorem oP:∀(n:Nat) (t:List UInt8),t.length≤n→cL t≠[]∧xJ (cL t)=t∧∀x∈cL t,∀b∈x,b≠32:=by
 intro n;induction n with
 |zero=>intro t h;have:t=[]:=List.eq_nil_of_length_eq_zero (by omega);subst this;rw[uK rfl];exact ⟨by simp,rfl,fun x hx b hb=>by rw[aIn.1 hx] at hb;cases hb⟩
 |succ n ih=>
  intro t h;rcases JU t with ⟨h1,h2⟩|⟨i,h1,hi,h2,h3⟩
  ·rw[uK h1];exact ⟨by simp,rfl,fun x hx b hb=>h2 b (by rw[aIn.1 hx] at hb;exact hb)⟩
  ·obtain ⟨a1,a2,a3⟩:=ih (t.drop (i+1)) (by rw[aIg];omega);rw[JV h1];refine ⟨by simp,?_,fun x hx b hb => ?_⟩
   ·cases hw:cL (t.drop (i+1)) with
    |nil=>exact absurd hw a1
    |cons y l=>show t.take i++32 :: xJ (y :: l)=t;rw[←hw,a2];exact h2.symm
   ·rcases aIk.1 hx with rfl|hx
    ·exact h3 b hb
    ·exact a3 x hx b hb
end Go.Proofs.YtllefinciimffaaGreatDoor
namespace Go.Proofs.YtllefinciimffaaGreatDoor
open Go.ChangeShapes Go.WideShapes Go.ChangeAt Go.RowKit Go.Joins
theorem Tryz.own:ownKnob Tryz.prog.godebug=none:=by kernel_rfl
theorem Tryz.laidOut:laidOutB Tryz.prog=true:=by kernel_rfl
section
variable {H:Type} {enc:TypeId × Value→H} {P:Program} {w:World} {base:Nat} {spare:Nat→Bool} {iX:Bool}
theorem MP {t e : TypeId} {fuel : Nat} {a0 : Option Addr} {len cap : Nat} {x : DataW H × List MemPlace} (ht : P.underlying t = some (.slice e)) (he : P.underlying e = some .bool) (hc : P.cellsOf e = 1)
 (h:DataW.trod enc P w base spare iX fuel t [.slice a0 len cap]=some x) :
 ∃bs:List Bool,bs.length=len∧Reads w 1 a0 len (bs.map .bool)∧len≤maxLen:=by
 rcases DataW.trod_slice ht h with ⟨hcs,_⟩|⟨a,len',cap',elems,rest,n,_,hcs,_,_,hl,hm,cT,hel,_⟩
 ·simp at hcs;obtain ⟨rfl,rfl,rfl⟩:=hcs;exact ⟨[],rfl,Reads.none_,by unfold maxLen;omega⟩
 ·simp at hcs;obtain ⟨rfl,rfl,rfl⟩:=hcs;have each:∀i,i<len→∃b:Bool,w.cell? (a.add i)=some (.bool b):=by
   intro i hi;have h1:=hel i hi;rw[aH2 (by omega)] at h1;obtain ⟨cs,hcs,htr⟩:=Option.bind_eq_some_iff.1 h1;obtain ⟨b,rfl,_⟩:=DataW.trod_bool he htr;rw[hc] at hcs;simp only[World.cells?,Nat.mul_one] at hcs;split at hcs
   ·simp[List.range_succ] at hcs;refine ⟨b,?_⟩;cases hq:w.cell? ((a.add i).add 0) with
    |none=>simp[hq] at hcs
    |some v=>simp[hq] at hcs;rw[dZ,Nat.add_zero] at hq;rw[hq,hcs]
   ·cases hcs
  have build:∀m,m≤len→∃bs:List Bool,bs.length=m∧∀i,i<m→w.cell? (a.add i)=some (.bool (bs.getD i false)):=by
   intro m;induction m with
   |zero=>exact fun _=>⟨[],rfl,fun i hi=>absurd hi (by omega)⟩
   |succ m ih=>
    intro hm';obtain ⟨bs,hb,hbs⟩:=ih (by omega);obtain ⟨b,hb'⟩:=each m (by omega);refine ⟨bs++[b],by simp[hb],fun i hi => ?_⟩;rcases Nat.lt_or_ge i m with h' | h'
    ·rw[hbs i h'];simp[List.getD,aIb (show i<bs.length by omega)]
    ·obtain rfl:i=m:=(by omega);rw[hb'];simp[List.getD,←hb]
  obtain ⟨bs,hb,hbs⟩:=build len (Nat.le_refl _);refine ⟨bs,hb,⟨by simp[hb],fun _=>⟨a,rfl,fun j u hu => ?_⟩⟩,by omega⟩;have hj:j<bs.length:=by
   have:=(aH3.1 hu).1;simpa using this
  rw[hbs j (by omega)];simp only[aId,aH2 hj,Option.map_some] at hu;simpa [List.getD,hj] using hu
end
section
variable {H:Type} {enc:TypeId × Value→H} {P:Program} {w:World} {base:Nat} {spare:Nat→Bool} {iX:Bool}
theorem fE {t e:TypeId} {fuel:Nat} {v:Value} {x:DataW H × List MemPlace} (ht:P.underlying t=some (.slice e)) (h:DataW.trod enc P w base spare iX fuel t [v]=some x):∃a n c,v=.slice a n c:=by
 rcases DataW.trod_slice ht h with ⟨hcs,_⟩|⟨a,len',cap',elems,rest,n,_,hcs,_⟩
 ·exact ⟨none,0,0,by simpa using hcs⟩
 ·exact ⟨some a,len',cap',by simpa using hcs⟩
theorem FY {n:Int} (h:(Lit.int .i64 n).wf=true):-9223372036854775808≤n∧n≤9223372036854775807:=by
 simp[Lit.wf,IntKind.min,IntKind.max,IntKind.signed,IntKind.bits] at h;omega
end
section
variable {H:Type} {enc:TypeId × Value→H} {w:World} {base b0:Nat} {spare:Nat→Bool} {iX:Bool} {r:Reach}
theorem SR {v:Value} {d:DataW H} {p:List MemPlace} (hv:Value.okWide Tryz.prog w r b0 43 v) (h:DataW.Trod enc Tryz.prog w base spare iX 43 v d p) :
 ∃ (W Ht : Int) (A : Option Addr) (n c : Nat) (bs : List Bool), v = .agg #[W, Ht, .slice A n c] ∧ bs.length = n ∧ Reads w 1 A n (bs.map .bool) ∧ n ≤ maxLen ∧
  (-9223372036854775808≤W∧W≤9223372036854775807)∧(-9223372036854775808≤Ht∧Ht≤9223372036854775807):=by
 obtain ⟨v0,v1,v2,y0,y1,y2,k,rfl,_,_,h0,h1,h2⟩:=open_agg3 Tryz.underlying43 (by kernel_rfl) (by kernel_rfl) hv h;obtain ⟨W,e0,_,w0⟩:=DataW.trod_int Tryz.underlying3 h0;obtain ⟨Ht,e1,_,w1⟩:=DataW.trod_int Tryz.underlying3 h1;obtain ⟨A,n,c,rfl⟩:=fE Tryz.underlying41 h2;simp at e0 e1;subst e0 e1;obtain ⟨bs,hz,hr,hm⟩:=MP Tryz.underlying41 Tryz.underlying4 (by kernel_rfl) h2;exact ⟨W,Ht,A,n,c,bs,rfl,hz,hr,hm,FY w0,FY w1⟩
end
section
variable {H:Type} {enc:TypeId × Value→H} {P:Program}
theorem AZ {W W':World} (hl:laidOutB P=true) (hb:Bl W W'):∀(ts:List TypeId) (vs:List Value) (ds:List (DataW H)) (ps:List MemPlace),
 (∀t∈ts,P.readableRec t=true∧t<P.types.size)→(∀x∈ps,x.block<W.heap.size) →
 DataW.TrodAll enc P W 0 (fun _=>true) true ts vs ds ps→DataW.TrodAll enc P W' 0 (fun b=>decide (b<W.heap.size)) true ts vs ds ps
 |[],[],[],ps,_,_,h=>h
 |t :: ts,v :: vs,d :: ds,ps,hr,hlt,h=>by
  obtain ⟨p,q,h1,h2,rfl⟩:=h;have ht:=hr t (by simp);exact ⟨p,q,Below.trod hl ht.1 ht.2 h1 hb (fun x hx=>hlt x (by simp[hx])),AZ hl hb ts vs ds q (fun t h=>hr t (by simp[h])) (fun x hx=>hlt x (by simp[hx])) h2,rfl⟩
 |[],_ :: _,_,_,_,_,h=>h.elim
 |[],[],_ :: _,_,_,_,h=>h.elim
 |_ :: _,[],_,_,_,_,h=>h.elim
 |_ :: _,_ :: _,[],_,_,_,h=>h.elim
theorem WN {f : Func} {s : ChangeSpec} {W W' : World} {args : Array Value} {ds gs : List (DataW H)} {before : List MemPlace} {tb : TypeId} (hl : laidOutB P = true) (htb : P.underlying tb = some .bool)
 (vF:f.resultTypes=#[tb]) (aDG:s.vars=[]) (iG:∀t∈f.params.toList,P.readableRec t=true∧t<P.types.size)
 (hW':DataW.Whole enc P f.params.toList s.vars false W args.toList ds gs before)
 (hr:(s.fn H (ds++gs)).results=[.lit (.bool true)]) (ha:(s.fn H (ds++gs)).args=ds) (hv:(s.fn H (ds++gs)).vars=[]) (hb:Bl W W') :
 s.post enc P f false true false false W args (.bool true) W':=by
 obtain ⟨p,q,hA,hV,rfl,_,_⟩:=id hW';have hlt:∀x∈p,x.block<W.heap.size:=fun x hx=>hW'.lt x (by simp[hx]);refine ⟨ds,gs,p++q,[],p,[],hW',?_,?_,?_,Below.frame hb _,fun h=>by cases h⟩
 ·rw[hr,vF];exact trodAll_mk1 (shut_bool htb true)
 ·rw[ha];exact AZ hl hb _ _ _ _ iG hlt hA
 ·rw[hv,aDG];exact rfl
end
end Go.Proofs.YtllefinciimffaaGreatDoor
