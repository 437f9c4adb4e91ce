import Derived.Test.YtllefinciimffaaGreatDoorMClaimFields13
import Derived.Test.YtllefinciimffaaGreatDoorMClaimFields14
import Derived.LaidSub
import Derived.LaidMore
import Derived.LaidLaws
import Derived.Lib.LaidTab
import Derived.Lay
import Derived.Deep.CutRange
set_option maxHeartbeats 20000000
set_option maxRecDepth 100000
namespace Go.Proofs.YtllefinciimffaaGreatDoor
open Go.RowKit Go.Shelf
theorem XD {w:World} {g:Nat} {ts:List (List UInt8)} {i:Nat} {x:List UInt8} (h:Reads w 1 (some ⟨g,0,none⟩) ts.length (bR ts)) (hi:ts[i]? = some x):w.cell? ⟨g,i,none⟩=some (.string ⟨x.toArray⟩):=by
 obtain ⟨ad,e,hc⟩:=pX h hi;obtain rfl:=aIw e;have e2:(⟨g,0,none⟩:Addr).add i=⟨g,i,none⟩:=(by unfold Addr.add;split<;>simp_all);rw[e2] at hc;exact hc
theorem M6 : ∀ (ws : List (List UInt8)) (x : List UInt8), x ∈ ws → x.length ≤ (xJ ws).length
 |[],x,h=>by cases h
 |[y],x,h=>by rw[aIn.1 h];exact Nat.le_refl _
 |y :: z :: l,x,h=>by
  show x.length≤(y++32 :: xJ (z :: l)).length;rw[aH5,aH8];rcases aIk.1 h with rfl|h
  ·omega
  ·have:=M6 (z :: l) x h;omega
theorem G0 {s:ByteArray} (h:¬s.size≤2):uP s.data.toList=none:=by
 have hl:=Lib.size_eq s;unfold uP;split
 ·rw[if_neg (by omega)]
 ·rfl
theorem sA {s:ByteArray} (h:s.size≤2):Lib.atoiAll s.data.toList=Lib.NumEnd.ofOption (Lib.atoi s.data.toList):=Lib.atoiAll_short _ (by have hl:=Lib.size_eq s;omega)
theorem aAo {s r:ByteArray} {v:Int} (hv:Lib.atoiAll s.data.toList=.ok v) (h9:s.size≤2) (hr:r=⟨(Lib.itoa v).toArray⟩):(uP s.data.toList).isSome=(decide (0≤v)&&(r.toList==s.toList))∧∀n:Nat,uP s.data.toList=some n→v=n:=by
 have h:=sA h9;rw[hv] at h;have hl:=Lib.size_eq s;have ha:Lib.atoi s.data.toList=some v:=by
  cases ha:Lib.atoi s.data.toList with
  |none=>rw[ha] at h;cases h
  |some x=>rw[ha] at h;exact congrArg some (Lib.NumEnd.ok.inj h).symm
 have hb:(r.toList==s.toList)=decide (Lib.itoa v=s.data.toList):=by
  rw[Lib.toList_data,Lib.toList_data,hr,Bool.eq_iff_iff,beq_iff_eq,decide_eq_true_eq]
 unfold uP;rw[ha,hb];simp only;by_cases c:0≤v∧Lib.itoa v=s.data.toList
 ·rw[if_pos ⟨by omega,c.1,c.2⟩,aIu c.1,aIu c.2];exact ⟨rfl,fun n hn=>by have:=aIw hn;omega⟩
 ·rw[if_neg (fun x=>c ⟨x.2.1,x.2.2⟩)];refine ⟨?_,fun n hn=>by cases hn⟩;rw[←Bool.decide_and,aIt c];rfl
def CountRes (s:List UInt8) (w:World) (e:Ending) (w':World):Prop:=∃v:Int,e=.returned (.tuple #[v,.bool (uP s).isSome])∧(∀n:Nat,uP s=some n→v=n)∧Bl w w'
theorem T3 (s:ByteArray) (w:World) (hs:s.size≤281474976710656) (hN:NumOk w) :
 Calls Tryz.prog 163 #[.string s] w (CountRes s.data.toList w):=by
 have HN:=aHH hN;clear hN;by_cases hok:∃v,Lib.atoiAll s.data.toList=.ok v
 ·obtain ⟨v,hv⟩:=hok;obtain ⟨v0,v1⟩:=Lib.atoiAll_bounds hv;have hA:=aHH (fun w=>J6 s hs v hv w);have Hv:=aHH hv;clear hv;by_cases h9:s.size≤2
  ·obtain ⟨r,hr⟩:=aH0 (⟨(Lib.itoa v).toArray⟩:ByteArray);have HNA:=aHH (aAo Hv.out h9 hr);by_cases hp:0≤v
   ·have HI:Hid (∀w,NumOk w→Calls Tryz.prog 60 #[.int .i64 v] w fun e w'=>e=.returned (.string r)∧Bl w w'):=aHH (by
     rw[hr];exact fun w hN=>W4 v v0 v1 w hN)
    clear hr;cases hrs:(r.toList==s.toList)
    all_goals
     have Hrs:=aHH hrs
     go_in
     go_wp2_with (go_at_call 168;refine (hA.out _).mono ?_;rintro e w1 ⟨rfl,hb1⟩);go_wp2_with (go_at_call 60;refine (HI.out _ (HN.out.bl hb1)).mono ?_;rintro e w2 ⟨rfl,hb2⟩)
     go_ret2
     refine ⟨v,?_,HNA.out.2,hb1.trans hb2⟩;rw[HNA.out.1,Hrs.out,aIu hp]
     first
      | rfl
      | (simp;done)
   ·have HX:=aHH (show (uP s.data.toList).isSome=false by rw[HNA.out.1,aIt hp];rfl);clear hr
    go_in
    go_wp2_with (go_at_call 168;refine (hA.out _).mono ?_;rintro e w1 ⟨rfl,hb1⟩)
    go_ret2
    exact ⟨v,by rw[HX.out];rfl,HNA.out.2,hb1⟩
  ·have HX:=aHH (G0 h9)
   go_in
   go_wp2_with (go_at_call 168;refine (hA.out _).mono ?_;rintro e w1 ⟨rfl,hb1⟩)
   go_ret2
   exact ⟨v,by rw[HX.out];rfl,(fun n h=>by rw[HX.out] at h;cases h),hb1⟩
 ·have mK:∀v,Lib.atoiAll s.data.toList≠.ok v:=fun v h=>hok ⟨v,h⟩;have HX:Hid (uP s.data.toList=none):=aHH (by
   by_cases h9:s.size≤2
   ·have:=sA h9;unfold uP;cases ha:Lib.atoi s.data.toList with
    |none=>rfl
    |some v=>rw[ha] at this;exact absurd this (mK v)
   ·exact G0 h9)
  have HA:=aHH (fun w hN=>W5 s hs mK w hN);clear mK hok
  go_in
  go_wp2_with (go_at_call 168;refine (HA.out _ HN.out).mono ?_;rintro e w1 ⟨v,T,N,rfl,hb1⟩)
  go_ret2
  exact ⟨v,by rw[HX.out];rfl,(fun n h=>by rw[HX.out] at h;cases h),hb1⟩
theorem QB {t x:List UInt8} {i:Nat} (h:(cL t)[i]? = some x) (hn:(!x.isEmpty&&rN x)=false):mW t=false:=by
 unfold mW;rw[List.all_eq_false];exact ⟨x,List.mem_of_getElem? h,by rw[hn];decide⟩
theorem T4 {t:List UInt8} (h:∀(j:Nat) x,j<(cL t).length→(cL t)[j]? = some x→(!x.isEmpty&&rN x)=true):mW t=true:=by
 unfold mW;rw[aIl];intro x hx;obtain ⟨j,hj⟩:=List.getElem?_of_mem hx;exact h j x (aH3.1 hj).1 hj
theorem QC (t:List UInt8):∀x∈cL t,x.length≤t.length:=fun x hx=>by
 have hj:=(oP _ t (Nat.le_refl _)).2.1;have:=M6 (cL t) x hx
 rwa [hj] at this
theorem G1 : ∀ (l : List (List UInt8)), l.length ≤ (xJ l).length + 1
 |[]=>Nat.zero_le _
 |[_]=>by simp
 |x :: y :: l=>by
  have:=G1 (y :: l);show (y :: l).length+1≤(x++32 :: xJ (y :: l)).length+1;simp only[aH5,aH8] at this ⊢;omega
theorem yD (t:List UInt8):(cL t).length≤t.length+1:=by
 have hj:=(oP _ t (Nat.le_refl _)).2.1;have:=G1 (cL t)
 rwa [hj] at this
theorem G2 (t:List UInt8) (w:World) (hl:t.length<1048577) (hC:SplitOk w):Calls Tryz.prog 164 #[t] w fun e w'=>e=.returned (.bool (mW t))∧Bl w w':=by
 have hsp:=BA t w (by omega) hC;have YK:=fun i x=>QB (t:=t) (x:=x) (i:=i);have RO:=T4 (t:=t);have hle:=QC t;have RM:=yD t;obtain ⟨V,hV⟩:=aH0 (mW t);rw[←hV] at YK RO ⊢;generalize cL t=ws at hsp YK RO hle RM;obtain ⟨Hsp,Hst,aGP,Hle⟩:=aHJ hsp YK RO hle;clear hsp YK RO hle hV hC
 go_in
 go_wp2_with fail;refine Hsp.out.mono ?_;rintro e w2 ⟨c,rfl,hr,hb2⟩;have HR:=aHH hr;have Hb2:=aHH hb2;clear hr hb2;go_wp2_with fail
 go_loop [9] (fun u=>∃i:Nat,i≤ws.length∧u=.int .i64 i∧∀(j:Nat) x,j<i→ws[j]? = some x→(!x.isEmpty&&rN x)=true) (fun u=>ws.length-(RowKit.intOf u).toNat)
 case atStart=>exact ⟨0,Nat.zero_le _,rfl,fun j x hj=>absurd hj (Nat.not_lt_zero _)⟩
 case round=>
  obtain ⟨i,hi,rfl,iG⟩:=hrel;have CI:=aHH iG;clear iG;by_cases hlt:i<ws.length
  ·have hg:ws[i]? = some ws[i]:=aH2 hlt;obtain ⟨x,hx⟩:=aH0 (ws[i]);rw[←hx] at hg;have hc:=XD HR.out hg;have hxl:=Hle.out x (List.mem_of_getElem? hg);have hsz:(⟨x.toArray⟩:ByteArray).size=x.length:=Lib.size_mk x;have HG:=aHH hg;clear hg hx;cases he:x.isEmpty with
   |true=>have HX:=aHH (Hst.out i x HG.out (by rw[he];rfl));go_wp2_with fail;go_ret;exact ⟨by rw[HX.out];rfl,Hb2.out⟩
   |false=>
    have He:=aHH he;go_wp2_with fail
    go_loop [17] (fun u=>∃k:Nat,k≤x.length∧u=.int .i64 k∧∀(j:Nat) b,j<k→x[j]? = some b→okC b) (fun u=>x.length-(RowKit.intOf u).toNat)
    case atStart=>exact ⟨0,Nat.zero_le _,rfl,fun j b hj=>absurd hj (Nat.not_lt_zero _)⟩
    case round=>
     obtain ⟨k,hk,rfl,hcs⟩:=hrel;have HC:=aHH hcs;clear hcs;by_cases hlk:k<x.length
     ·have hih:k<(⟨x.toArray⟩:ByteArray).size:=(by rw[hsz];exact hlk);have hgi:=Lib.getElem_mk x k hih;obtain ⟨c',hc'⟩:=aH0 ((⟨x.toArray⟩:ByteArray)[k]'hih);rw[←hc'] at hgi;have HGi:=aHH hgi;have hc2:=hc'.symm;clear hc' hgi;by_cases c1:(c'.toNat:Int)<33
      ·have HX:=aHH (Hst.out i x HG.out (by rw[nL HGi.out (show ¬okC c' from fun h=>by unfold okC at h;omega),Bool.and_false]));go_wp2_with fail;go_ret;exact ⟨by rw[HX.out];rfl,Hb2.out⟩
      ·by_cases c3:126<(c'.toNat:Int)
       ·have HX:=aHH (Hst.out i x HG.out (by rw[nL HGi.out (show ¬okC c' from fun h=>by unfold okC at h;omega),Bool.and_false]));go_wp2_with fail;go_ret;exact ⟨by rw[HX.out];rfl,Hb2.out⟩
       ·have HO:=aHH (show okC c' from ⟨by omega,by omega⟩);go_wp2_with fail;exact ⟨⟨k+1,hlk,by go_num,fun j b hj hb=>by
         rcases Nat.lt_succ_iff_lt_or_eq.1 hj with h|rfl
         ·exact HC.out j b h hb
         ·rw[HGi.out] at hb;obtain rfl:=aIw hb;exact HO.out⟩,by simp[RowKit.intOf];omega⟩
     ·obtain rfl:k=x.length:=(by omega);have HE:=aHH (AW HC.out);go_wp2_with fail;exact ⟨⟨i+1,hlt,by go_num,fun j b hj hb=>by
       rcases Nat.lt_succ_iff_lt_or_eq.1 hj with h|rfl
       ·exact CI.out j b h hb
       ·rw[HG.out] at hb;obtain rfl:=aIw hb;rw[He.out,HE.out];rfl⟩,by simp[RowKit.intOf];omega⟩
  ·obtain rfl:i=ws.length:=(by omega);have HX:=aHH (aGP.out CI.out);go_wp2_with fail;go_ret;exact ⟨by rw[HX.out];rfl,Hb2.out⟩
end Go.Proofs.YtllefinciimffaaGreatDoor
namespace Go.Proofs.YtllefinciimffaaGreatDoor
open Go.RowKit
theorem qO (f:Fld) (fs:List Fld) (nm:List UInt8):fR (f :: fs) nm=if f.name=nm then some f.kind else fR fs nm:=by
 unfold fR;rw[List.find?_cons];by_cases h:f.name=nm
 ·rw[aIu h,if_pos h];rfl
 ·rw[aIt h,if_neg h]
theorem KP {fs:List Fld} {nm:List UInt8} (h:∀l∈fs,gB nm l=false):fR fs nm=none:=by
 induction fs with
 |nil=>rfl
 |cons f fs ih=>rw[qO,if_neg (of_decide_eq_false (h f (by simp)))];exact ih fun l hl=>h l (List.mem_cons_of_mem _ hl)
theorem G3 : ∀ {fs : List Fld} {nm : List UInt8} {j : Nat} {l : Fld}, fs[j]? = some l → gB nm l = true → (∀ j' l', j' < j → fs[j']? = some l' → gB nm l' = false) → fR fs nm = some l.kind
 |[],_,_,_,h,_,_=>by simp at h
 |f :: fs,nm,0,l,h,hp,_=>by
  simp only[aIq,Option.some.injEq] at h;subst h;rw[qO,if_pos (aIv hp)]
 |f :: fs,nm,j+1,l,h,hp,hn=>by
  have h0:=hn 0 f (Nat.succ_pos _) rfl;rw[qO,if_neg (of_decide_eq_false h0)];exact G3 (by simpa using h) hp fun j' l' hj hl=>hn (j'+1) l' (by omega) (by simpa using hl)
theorem jE {fs:List Fld} {nm:List UInt8} {i:Int} (h:FirstG fs (gB nm) i):(i<0∧fR fs nm=none)∨∃(j:Nat) (l:Fld),i=(j:Int)∧fs[j]? = some l∧fR fs nm=some l.kind:=by
 rcases h with ⟨rfl,h⟩|⟨j,l,rfl,hl,hp,hn⟩
 ·exact .inl ⟨by omega,KP h⟩
 ·exact .inr ⟨j,l,rfl,hl,G3 hl hp hn⟩
end Go.Proofs.YtllefinciimffaaGreatDoor
namespace Go.Proofs.YtllefinciimffaaGreatDoor
open Go.RowKit Go.Shelf
def jM (s:List UInt8):Bool:=!s.isEmpty&&(decide (s.length≤2)&&(s.all aBa&&!(decide (1<s.length)&&s.getD 0 0==48)))
theorem M7 {n:Nat} (h:n≤99):(Lib.decDigits n).length≤2:=by
 rw[Lib.decDigits_length];by_cases h1:n<10
 ·rw[Lib.nDigits_small h1];omega
 ·rw[Lib.nDigits_big h1,Lib.nDigits_small (by omega)];omega
theorem M8 {n:Nat} (h:(Lib.decDigits n).length≤2):n≤99:=by
 rw[Lib.decDigits_length] at h;have h1:=Lib.lt_pow_nDigits n;have h2:10 ^ Lib.nDigits n≤10 ^ 2:=Nat.pow_le_pow_right (by decide) h;omega
theorem qP (n:Nat):Lib.atoi (Lib.decDigits n)=some (n:Int):=by
 rcases Nat.eq_zero_or_pos n with rfl|h
 ·rw[kT (by decide)];decide
 ·exact JS h
theorem DV (s:List UInt8) (n:Nat):uP s=some n↔n≤99∧s=Lib.decDigits n:=by
 constructor
 ·intro h;unfold uP at h;cases ha:Lib.atoi s with
  |none=>rw[ha] at h;cases h
  |some v=>
   rw[ha] at h;simp only at h;split at h
   ·rename_i hc
    obtain ⟨h4,hv,hi⟩:=hc;obtain rfl:=aIw h;unfold Lib.itoa at hi;rw[if_neg (by omega)] at hi;exact ⟨M8 (by rw[hi];exact h4),hi.symm⟩
   ·cases h
 ·rintro ⟨h9,rfl⟩;unfold uP;rw[qP n];simp only;rw[if_pos ⟨M7 h9,by omega,by unfold Lib.itoa;rw[if_neg (by omega),aIF]⟩,aIF]
theorem BN {s:List UInt8} (hp:jM s=true):∃n,n≤99∧s=Lib.decDigits n:=by
 unfold jM at hp;simp only[aIs,Bool.not_eq_true',decide_eq_true_eq] at hp;obtain ⟨hne,h4,iG,hz⟩:=hp;obtain ⟨b,l,rfl⟩:∃b l,s=b :: l:=by
  cases s with
  |nil=>cases hne
  |cons b l=>exact ⟨b,l,rfl⟩
 have hb:48≤b.toNat∧b.toNat≤57:=aIv (aIl.1 iG b (List.mem_cons_self ..));have key:∀(l:List UInt8) (acc:Nat),l.all aBa=true→∃m,Lib.decFrom acc l=some m:=by
  intro l;induction l with
  |nil=>intro acc _;exact ⟨acc,rfl⟩
  |cons b l ih=>intro acc h;rw[List.all_cons,aIs] at h;have hb:48≤b.toNat∧b.toNat≤57:=aIv h.1;have hd:Lib.digitVal b=some (b.toNat-48):=(by unfold Lib.digitVal;rw[if_pos (by omega)]);show ∃m,(match Lib.digitVal b with|some d=>Lib.decFrom (acc*10+d) l|none=>none)=some m;rw[hd];exact ih _ h.2
 obtain ⟨m,hm⟩:=key (b :: l) 0 iG;have hdd:=AX l.length (b :: l) m rfl (by
  by_cases hk:l.length=0
  ·exact .inr hk
  ·left;rw[aIu (by simp only[aH8];omega)] at hz;simpa using hz) hm
 exact ⟨m,M8 (by rw[hdd];exact h4),hdd.symm⟩
theorem DW {n:Nat} (h9:n≤99):jM (Lib.decDigits n)=true:=by
 rcases Nat.eq_zero_or_pos n with rfl|h1
 ·rw[kT (by decide)];decide
 ·obtain ⟨b,l,e,hb⟩:=MM n h1;unfold jM;simp only[aIs,Bool.not_eq_true',decide_eq_true_eq];refine ⟨by rw[e];rfl,M7 h9,aIl.2 fun x hx=>aIu (SO n x hx),?_⟩;rw[e];simp[hb]
theorem BR (s:List UInt8):(uP s).isSome=jM s:=by
 cases hp:jM s with
 |true=>obtain ⟨n,h9,rfl⟩:=BN hp;rw[(DV _ n).2 ⟨h9,rfl⟩];rfl
 |false=>
  cases hi:uP s with
  |none=>rfl
  |some n=>obtain ⟨h9,rfl⟩:=(DV _ n).1 hi;rw[DW h9] at hp;cases hp
theorem vX {s:List UInt8} (h:jM s=false):uP s=none:=by
 have:=BR s;rw[h] at this;cases hi:uP s with
 |none=>rfl
 |some n=>rw[hi] at this;cases this
theorem T5 {s:ByteArray} (h0:0<s.size) (h4:s.size≤2) (ha:s.data.toList.all aBa=true):jM s.data.toList = !(decide (1<s.size)&&((s[0].toNat:Int)==48)):=by
 have hl:=Lib.size_eq s;have hd:=DC h0;unfold jM;rw[ha,aH4,hd];have he:s.data.toList.isEmpty=false:=by
  cases e:s.data.toList with
  |nil=>rw[e,List.length_nil] at hl;omega
  |cons _ _=>rfl
 rw[he,aIu (show s.data.toList.length≤2 by omega),←hl];have:(s[0]==48)=((s[0].toNat:Int)==48):=by
  rw[Bool.eq_iff_iff,beq_iff_eq,beq_iff_eq];constructor
  ·intro h;rw[h];rfl
  ·intro h;apply UInt8.toNat_inj.1;show s[0].toNat=48;omega
 show (!false&&(true&&(true&&!(decide (1<s.size)&&(s[0]==48)))))=_;rw[this];simp
theorem yE {s:ByteArray} (h:¬(0<s.size∧s.size≤2∧s.data.toList.all aBa=true)):jM s.data.toList=false:=by
 have hl:=Lib.size_eq s;cases e:jM s.data.toList with
 |false=>rfl
 |true=>
  unfold jM at e;simp only[aIs,Bool.not_eq_true',decide_eq_true_eq] at e;obtain ⟨e1,e2,e3,-⟩:=e;refine absurd ⟨?_,by omega,e3⟩ h;rcases Nat.eq_zero_or_pos s.size with hz|hz
  ·rw[List.eq_nil_of_length_eq_zero (show s.data.toList.length=0 by omega)] at e1;cases e1
  ·exact hz
theorem vY {s:ByteArray} {w w':World} {v:Int} (h:uP s.data.toList=none) (hb:Bl w w'):CountRes s.data.toList w (.returned (.tuple #[v,.bool false])) w':=
 ⟨v,by rw[h];rfl,(fun n hn=>by rw[h] at hn;cases hn),hb⟩
theorem G4 {s:ByteArray} {w w':World} {v:Int} (hp:jM s.data.toList=true) (ha:Lib.atoi s.data.toList=some v) (hb:Bl w w'):CountRes s.data.toList w (.returned (.tuple #[v,.bool true])) w':=by
 refine ⟨v,by rw[BR,hp],(fun n hn => ?_),hb⟩;obtain ⟨h9,e⟩:=(DV _ n).1 hn;rw[e,qP n] at ha;exact (aIw ha).symm
theorem KQ (s:ByteArray) (w:World) (hs:s.size≤281474976710656) :
 Calls Tryz.prog 121 #[.string s,.int .i64 2] w fun e w'=>CountRes s.data.toList w e w':=by
 by_cases h0:0<s.size
 ·have he:=xI h0;by_cases h4:s.size≤2
  ·obtain ⟨r,hr⟩:=aH0 (⟨(Lib.trimS s.data.toList PI).toArray⟩:ByteArray);have hT:∀w,Calls Tryz.prog 153 #[.string s,PI] w fun e w'=>e=.returned (.string r)∧Below w.heap.size w w':=by
    rw[hr];exact fun w=>Any.strings_Trim_laid Tryz.lays160 (by kernel_rfl) s ⟨PI.toArray⟩ w (by omega) (by decide) (ascii_of_all (by decide))
   have iG:=DL s r hr;clear hr;cases hre:r.toList.isEmpty with
   |false=>
    rw[hre] at iG;have HX:=aHH (vX (yE (s:=s) (fun h=>by rw[h.2.2] at iG;cases iG)));clear iG
    go_in
    go_wp2_with (go_at_call 153;refine (hT _).mono ?_;rintro e w1 ⟨rfl,hb1⟩)
    go_ret2
    exact vY HX.out hb1
   |true=>
    rw[hre] at iG;have hpl:=T5 h0 h4 iG.symm;clear iG;have HG:Hid (∀v,Lib.atoiAll s.data.toList=.ok v→Lib.atoi s.data.toList=some v):=aHH (fun v h=>by
     have ht:=sA h4;rw[h] at ht;cases ha:Lib.atoi s.data.toList with
     |none=>rw[ha] at ht;cases ht
     |some x=>rw[ha] at ht;exact congrArg some (Lib.NumEnd.ok.inj ht).symm)
    have HV:Hid (jM s.data.toList=true→∃v,Lib.atoiAll s.data.toList=.ok v):=aHH (fun h=>by
     obtain ⟨n,-,e⟩:=BN h;have ht:=sA h4;rw[show Lib.atoi s.data.toList=some (n:Int) by rw[e,qP]] at ht;exact ⟨_,ht⟩)
    by_cases h1:1<s.size
    ·cases hz:((s[0].toNat:Int)==48) with
     |true=>
      have HX:=aHH (vX (show jM s.data.toList=false by rw[hpl,hz,aIu h1];rfl));clear hpl
      go_in
      go_wp2_with (go_at_call 153;refine (hT _).mono ?_;rintro e w1 ⟨rfl,hb1⟩)
      go_ret2
      exact vY HX.out hb1
     |false=>
      have HP:=aHH (show jM s.data.toList=true by rw[hpl,hz,Bool.and_false];rfl);clear hpl;obtain ⟨v,hv⟩:=HV.out HP.out;have hA:=fun w=>J6 s hs v hv w;have HX:=aHH (HG.out v hv);clear hv
      go_in
      go_wp2_with (go_at_call 153;refine (hT _).mono ?_;rintro e w1 ⟨rfl,hb1⟩);go_wp2_with (go_at_call 168;refine (hA _).mono ?_;rintro e w2 ⟨rfl,hb2⟩)
      go_region
      go_wp2_with fail
      go_ret2
      exact G4 HP.out HX.out (Bl.drew (Bl.trans hb1 hb2))
    ·have HP:=aHH (show jM s.data.toList=true by rw[hpl,aIt h1];rfl);clear hpl;obtain ⟨v,hv⟩:=HV.out HP.out;have hA:=fun w=>J6 s hs v hv w;have HX:=aHH (HG.out v hv);clear hv
     go_in
     go_wp2_with (go_at_call 153;refine (hT _).mono ?_;rintro e w1 ⟨rfl,hb1⟩);go_wp2_with (go_at_call 168;refine (hA _).mono ?_;rintro e w2 ⟨rfl,hb2⟩)
     go_region
     go_wp2_with fail
     go_ret2
     exact G4 HP.out HX.out (Bl.drew (Bl.trans hb1 hb2))
  ·have HX:=aHH (vX (yE (s:=s) (fun h=>h4 h.2.1)))
   go_in
   go_wp2_with fail
   go_ret2
   exact vY HX.out (Bl.refl _)
 ·have he:=MN (show s.size=0 by omega);have HX:=aHH (vX (yE (s:=s) (fun h=>h0 h.1)))
  go_in
  go_wp2_with fail
  go_ret2
  exact vY HX.out (Bl.refl _)
end Go.Proofs.YtllefinciimffaaGreatDoor
namespace Go.Proofs.YtllefinciimffaaGreatDoor
def tM (fs:List Fld) (nm:List UInt8):Option Fld:=fs.find? (gB nm)
theorem QD {fs:List Fld} {nm:List UInt8} (h:∀l∈fs,gB nm l=false):tM fs nm=none:=by
 unfold tM;rw[List.find?_eq_none];intro l hl;rw[h l hl];decide
theorem M9 : ∀ {fs : List Fld} {nm : List UInt8} {j : Nat} {l : Fld}, fs[j]? = some l → gB nm l = true → (∀ j' l', j' < j → fs[j']? = some l' → gB nm l' = false) → tM fs nm = some l
 |[],_,_,_,h,_,_=>by simp at h
 |f :: fs,nm,0,l,h,hp,_=>by
  simp only[aIq,Option.some.injEq] at h;subst h;unfold tM;rw[List.find?_cons,hp]
 |f :: fs,nm,j+1,l,h,hp,hn=>by
  have h0:=hn 0 f (Nat.succ_pos _) rfl;unfold tM;rw[List.find?_cons,h0];exact M9 (by simpa using h) hp fun j' l' hj hl=>hn (j'+1) l' (by omega) (by simpa using hl)
theorem BS {fs:List Fld} {nm:List UInt8} {i:Int} (h:FirstG fs (gB nm) i):(i<0∧tM fs nm=none)∨∃(j:Nat) (l:Fld),i=(j:Int)∧fs[j]? = some l∧tM fs nm=some l:=by
 rcases h with ⟨rfl,h⟩|⟨j,l,rfl,hl,hp,hn⟩
 ·exact .inl ⟨by omega,QD h⟩
 ·exact .inr ⟨j,l,rfl,hl,M9 hl hp hn⟩
theorem G5 (a b:Int):aB [a,b]=if a=0 then b else a:=by
 by_cases ha:a=0
 ·rw[cV ha,if_pos ha];show (if b=0 then 0 else b)=b;split
  ·rename_i h;rw[h]
  ·rfl
 ·rw[aJ ha,if_neg ha]
end Go.Proofs.YtllefinciimffaaGreatDoor
namespace Go.Proofs.YtllefinciimffaaGreatDoor
open Go.ChangeShapes Go.WideShapes Go.ChangeAt Go.RowKit Go.Joins Go.Shelf
theorem oA {l : List (String × DataW Unit)} {W : World} {n nm : String} {D : DataW Unit} (hl : (l.filter fun e => e.1 == n) = [(n, .iface nm D)]) (hp : laidMetH Tryz.prog [(n, .iface nm D)] W ↔ laidMet Tryz.prog [(n, .iface nm D)] W)
 (hty:((Tryz.prog.globalNamed n).bind fun g=>(Tryz.prog.globals[g]?).map (·.type))=some 96) (h:laidMetH Tryz.prog l W):∃t p,W.var? Tryz.prog n=some #[.iface t p]:=by
 have h:=h.filter (fun e=>e.1==n);rw[hl] at h;obtain ⟨ps,⟨g,t,cs,fuel,p,q,hg,ht,hv,hd,_,_⟩,_,_⟩:=hp.1 h;rw[hg,Option.bind_some,ht] at hty;obtain rfl:=aIw hty;obtain ⟨f',u,v,hcs,-,-⟩:=iface_of_trod Tryz.underlying96 hd;refine ⟨u,v,?_⟩;rw[hv]
 congr 1
 apply Array.ext';simpa using hcs
theorem DX {l : List (String × DataW Unit)} {W : World} (h1 : (l.filter fun e => e.1 == "strconv.ErrSyntax") = [("strconv.ErrSyntax", Rows.laid_strconv_ErrSyntax)]) (h2 : (l.filter fun e => e.1 == "strconv.ErrRange") = [("strconv.ErrRange", Rows.laid_strconv_ErrRange)])
 (h3:(l.filter fun e=>e.1 == "internal/strconv.uint64pow10")=[("internal/strconv.uint64pow10",Rows.laid_internal_strconv_uint64pow10)]) (h:laidMetH Tryz.prog l W):NumOk W where
 syn:=oA h1 (by rw[MakeChecks.laidMetH_plain _ _ _ (by kernel_rfl)]) (by kernel_rfl) h
 ran:=oA h2 (by rw[MakeChecks.laidMetH_plain _ _ _ (by kernel_rfl)]) (by kernel_rfl) h
 tab:=by
  have h:=h.filter (fun e=>e.1 == "internal/strconv.uint64pow10");rw[h3,MakeChecks.laidMetH_plain _ _ _ (by kernel_rfl)] at h;obtain ⟨g,hg⟩:=Option.isSome_iff_exists.1 (show (Tryz.prog.globalNamed "internal/strconv.uint64pow10").isSome=true by kernel_rfl);have hty:((Tryz.prog.globalNamed "internal/strconv.uint64pow10").bind fun g=>(Tryz.prog.globals[g]?).map (·.type))=some 320:=(by kernel_rfl);rw[hg,Option.bind_some] at hty;exact Lib.tabIs_of_head (zs:=Lib.pow10Tab) hg hty Tryz.underlying320 Tryz.underlying270 (by kernel_rfl) (by kernel_rfl) h
end Go.Proofs.YtllefinciimffaaGreatDoor
namespace Go.Proofs.YtllefinciimffaaGreatDoor
open Go.RowKit Go.Shelf
def cN (r:Rul):List (List UInt8):=if JF r.kind=true then [r.field,r.other] else [r.field]
def fO (fs:List Fld) (k:Int) (nm:List UInt8):Bool:=!decide (k=1)&&(cC ((fR fs nm).getD 0) != decide (k=6))
def oZ (r:Rul):Bool:=(!JF r.kind&&!r.other.isEmpty)||((!J8 r.kind&&!r.text.isEmpty)||((decide (r.kind=3)&&!mW r.text)||(decide (r.kind=6)&&(uP r.text).isNone)))
theorem l6 (fs:List Fld) (r:Rul):eX fs r=aB [aE (!inB r.kind 1 6) 1,aE ((cN r).any fun n=>decide (fR fs n=none)) 10,aE ((cN r).any (fO fs r.kind)) 1,aE (oZ r) 2]:=by
 unfold eX cN oZ;cases h:JF r.kind with
 |false=>simp[fO]
 |true=>have hk:r.kind=4∨r.kind=5:=(by unfold JF at h;simpa using h);have h1:decide (r.kind=1)=false:=aIt (by omega);have h6:decide (r.kind=6)=false:=aIt (by omega);simp[fO,h1,h6]
theorem aAp {w:World} {e:TypeId} {xs:List Value} {base:Nat} (hb:base≤w.heap.size) (h:xs.length≤maxLen):(w.alloc (.cells xs.toArray e)).ownsRow base e 1 (.slice (some ⟨w.heap.size,0,none⟩) xs.length xs.length) xs.length xs:=by
 refine ⟨by simp,.inr ⟨w.heap.size,xs.length,xs.toArray,rfl,hb,(MapKept.heap_alloc w _).1,Nat.le_refl _,h,by simp,by simp⟩⟩
theorem qQ {fs:List Fld} {r:Rul} (h:inB r.kind 1 6=false):eX fs r=1:=by unfold eX;rw[h];rfl
theorem KS {fs:List Fld} {r:Rul} {n:List UInt8} (h:inB r.kind 1 6=true) (hn:n∈cN r) (hk:fR fs n=none):eX fs r=10:=by
 rw[l6,h,show ((cN r).any fun n=>decide (fR fs n=none))=true from aIm.2 ⟨n,hn,aIu hk⟩];rfl
theorem BT {fs:List Fld} {r:Rul} {n:List UInt8} (h:inB r.kind 1 6=true) (ha:∀x∈cN r,fR fs x≠none) (hn:n∈cN r) (hk:fO fs r.kind n=true):eX fs r=1:=by
 rw[l6,h,show ((cN r).any fun n=>decide (fR fs n=none))=false from List.any_eq_false.2 fun x hx=>by simp[ha x hx],show (cN r).any (fO fs r.kind)=true from aIm.2 ⟨n,hn,hk⟩];rfl
theorem KT {fs:List Fld} {r:Rul} (h:inB r.kind 1 6=true) (ha:∀x∈cN r,fR fs x≠none) (hb:∀x∈cN r,fO fs r.kind x=false):eX fs r=aE (oZ r) 2:=by
 rw[l6,h,show ((cN r).any fun n=>decide (fR fs n=none))=false from List.any_eq_false.2 fun x hx=>by simp[ha x hx],show (cN r).any (fO fs r.kind)=false from List.any_eq_false.2 fun x hx=>by rw[hb x hx];decide];cases oZ r<;>rfl
theorem T6 (o two t tk k3 wd k6 nb : Bool) : (o = false ∧ two = false) ∨
 (((o=true)∨(o=false∧two=true))∧((t=false∧tk=false)∨(((t=true)∨(t=false∧tk=true))∧((k3=true∧wd=false)∨(k3=true∧wd=true∧k6=false)∨(k3=true∧wd=true∧k6=true)∨(k3=false∧k6=false)∨(k3=false∧k6=true∧nb=false)∨(k3=false∧k6=true∧nb=true))))):=by
 cases o<;>cases two<;>cases t<;>cases tk<;>cases k3<;>cases wd<;>cases k6<;>cases nb<;>decide
theorem sB {r:Rul} {o two t tk k3 wd k6 nb:Bool} (h1:r.other.isEmpty=o) (h2:JF r.kind=two) (h3:r.text.isEmpty=t) (h4:J8 r.kind=tk) (h5:(r.kind==3)=k3) (h6:mW r.text=wd) (h7:(r.kind==6)=k6) (h8:(uP r.text).isSome=nb) :
 oZ r=((!two&&!o)||((!tk&&!t)||((k3&&!wd)||(k6&&!nb)))):=by
 unfold oZ;subst h1 h2 h3 h4 h5 h6 h7 h8;have e:(uP r.text).isNone = !(uP r.text).isSome:=(by cases uP r.text<;>rfl);rw[e];have e3:decide (r.kind=3)=(r.kind==3):=(by rw[Bool.eq_iff_iff];simp);have e6:decide (r.kind=6)=(r.kind==6):=(by rw[Bool.eq_iff_iff];simp);rw[e3,e6]
theorem DY (f:Frm) (r:Rul) (w:World) (hF:FrmAt w f) (h3:r.text.length≤1048576) (hN:NumOk w) (hC:SplitOk w) :
 Calls Tryz.prog 112 #[f.val,r.val] w fun e w'=>e=.returned (.int .i64 (eX f.lf r))∧Bl w w':=by
 obtain ⟨nm,fW,fH,reach,dark,AL,ac,la,FL,fc,lf,RL,rc,lr⟩:=f;obtain ⟨RE,hRE⟩:=aH0 (eX lf r);show Calls _ _ _ w fun e w'=>e=.returned (.int .i64 (eX lf r))∧Bl w w';rw[←hRE];have HRE:=aHH hRE;let w1:=((w).alloc (.cells #[nm,fW,fH,reach,dark,.slice AL la.length ac,.slice FL lf.length fc,.slice RL lr.length rc] 26)).alloc (.cells #[r.kind,r.field,r.other,r.text] 104);obtain ⟨w1b,w11,w12⟩:=aHP (x:=w1) w _ _ _ _ rfl;have hfa:=fun (n:List UInt8) wx (hF:FrmAt wx ⟨nm,fW,fH,reach,dark,AL,ac,la,FL,fc,lf,RL,rc,lr⟩)=>xW _ n wx hF;unfold Frm.val at hfa;obtain ⟨HF,HN,HC,Hfa⟩:=aHJ (hF.bl w1b) (hN.bl w1b) (hC.bl w1b) hfa;have k1:=w11.all8;have k2:=w12.all4;have lw1:w1.heap.size=w.heap.size+2:=(by simp[w1]);have hln:lf.length≤9223372036854775807:=hF.fn.2;have dM:=aHH w1b;unfold Frm.val Rul.val;clear hF hN hC hRE hfa w1b
 go_in
 by_cases hk1:r.kind<1
 ·have HX:=aHH (qQ (fs:=lf) (dF.2 (.inl hk1)));go_wp2_with fail;go_ret;exact ⟨by rw[HRE.out,HX.out];rfl,dM.out⟩
 by_cases hk6:6<r.kind
 ·have HX:=aHH (qQ (fs:=lf) (dF.2 (.inr hk6)));go_wp2_with fail;go_ret;exact ⟨by rw[HRE.out,HX.out];rfl,dM.out⟩
 have HK:=aHH (aQ.2 (show 1≤r.kind∧r.kind≤6 by omega));obtain ⟨ns,hns⟩:=aH0 (cN r);obtain ⟨two,aAL⟩:=aH0 (JF r.kind);have huo:=fun wx=>DN r.kind wx;rw[←aAL] at huo;obtain ⟨Huo,Hns,RT⟩:=aHI huo hns aAL;clear huo hns aAL;go_upto_region 4 with fail;obtain ⟨wn,hwn⟩:=aH0 (w1.alloc (.cells #[r.field] 9));have aV:wn.ownsRow w1.heap.size 9 1 (.slice (some ⟨w1.heap.size,0,none⟩) 1 1) 1 (bR [r.field]):=(by rw[hwn];exact aAp (xs:=[.string ⟨r.field.toArray⟩]) (Nat.le_refl _) (by simp[maxLen]));have hbn:=aHU hwn;rw[show w.heap.size+2=w1.heap.size from lw1.symm,←hwn];have hrd:Reads wn 1 (some ⟨w1.heap.size,0,none⟩) 1 (bR [r.field]):=(by rw[hwn];exact (Blk.new w1 _ _).reads 1 1 rfl);obtain ⟨HOw,Hbn,HRd⟩:=aHI aV hbn hrd;have k1:=(w11.bl hbn).all8;have k2:=(w12.bl hbn).all4;clear hwn aV hbn hrd lw1;clear_value w1;go_upto_if 25 with (go_at_call 46;refine (Huo.out _).mono ?_;rintro e w' ⟨rfl,rfl⟩);go_cut [5] from 26 to 31 (fun s wc=>∃A c,s=.slice A ns.length c∧Reads wc 1 A ns.length (bR ns)∧Bl w1 wc);case first=>
  cases two with
  |false=>have Hn1:=aHH (show ns=[r.field] by rw[Hns.out];unfold cN;rw[←RT.out];rfl);go_wp2_with fail;go_meet;case rel=>exact ⟨_,1,by rw[Hn1.out];rfl,by rw[Hn1.out];exact HRd.out,Hbn.out⟩
  |true=>have Hn1:=aHH (show ns=[r.field,r.other] by rw[Hns.out];unfold cN;rw[←RT.out];rfl);go_wp2_with (at_builtin;refine bI (w1:=w1) rfl (.tmp 26) (.tmp 29) 105 rfl 9 (.string ByteArray.empty) 16 Tryz.underlying105 MK rfl w1.heap.size _ 1 (bR [r.field]) rfl (.string ⟨r.other.toArray⟩) rfl rfl Hbn.out (Nat.le_refl _) Hbn.out.le HOw.out (by omega) (by unfold maxLen;omega) ?_;intro v' w8 bF hb8 hg8;obtain ⟨A8,c8,rfl,hr8⟩:=bL bF;have HR8:=aHH hr8;have Hb8:=aHH hb8;clear bF hb8 hg8 hr8);go_meet;case rel=>exact ⟨A8,c8,by rw[Hn1.out];rfl,by rw[Hn1.out];exact HR8.out,Hb8.out⟩
 case rest=>
 rename World=>wd;obtain ⟨A,c,rfl,hr,hbd⟩:=hcut;have HR:=aHH hr;have Hbd:=aHH hbd;have hnl:ns.length≤2:=(by rw[Hns.out];unfold cN;split<;>simp);have hnp:0<ns.length:=(by rw[Hns.out];unfold cN;split<;>simp);obtain ⟨ad,rfl,-⟩:=hr.2 hnp;clear hr hbd HOw HRd;go_wp2_with fail;go_loopw [33] (fun u wr=>∃i:Nat,i≤ns.length∧u=.int .i64 i∧Bl wd wr∧∀(j:Nat) x,j<i→ns[j]? = some x→fR lf x≠none) (fun u _=>ns.length-(RowKit.intOf u).toNat);case atStart=>exact ⟨0,Nat.zero_le _,rfl,Bl.refl _,fun j x hj=>absurd hj (Nat.not_lt_zero _)⟩
 case round=>
  obtain ⟨i,hi,rfl,hbr,iG⟩:=hrel;have CI:=aHH iG;have Hbr:=aHH hbr;have k1:=(w11.bl (Hbd.out.trans hbr)).all8;have k2:=(w12.bl (Hbd.out.trans hbr)).all4;clear iG hbr;by_cases hlt:i<ns.length
  ·have hg:ns[i]? = some ns[i]:=aH2 hlt;obtain ⟨x,hx⟩:=aH0 (ns[i]);rw[←hx] at hg;obtain ⟨ad',e1,hc⟩:=pX (HR.out.bl Hbr.out) hg;obtain rfl:=aIw e1;have HG:=aHH hg;clear hg hx e1;go_wp2_with fail;refine (Hfa.out x _ (HF.out.bl (Hbd.out.trans Hbr.out))).mono ?_;rintro e w2 ⟨ix,rfl,hix,hb2⟩;have Hb2:=aHH (Hbr.out.trans hb2);rcases jE hix with ⟨h0,hk⟩|⟨j,l,rfl,hl,hk⟩
   ·have HX:=aHH (KS HK.out (by rw[←Hns.out];exact List.mem_of_getElem? HG.out) hk);clear hix hk hb2;go_wp2_with fail;go_ret;exact ⟨by rw[HRE.out,HX.out];rfl,dM.out.trans (Hbd.out.trans Hb2.out)⟩
   ·have HX:=aHH (show fR lf x≠none by rw[hk];intro h;cases h);clear hix hk hb2 hl;go_wp2_with fail;exact ⟨⟨i+1,hlt,by go_num,Hb2.out,fun j' x' hj hx'=>by
     rcases Nat.lt_succ_iff_lt_or_eq.1 hj with h|rfl
     ·exact CI.out j' x' h hx'
     ·rw[HG.out] at hx';obtain rfl:=aIw hx';exact HX.out⟩,by simp[RowKit.intOf];omega⟩
  ·obtain rfl:i=ns.length:=(by omega);have VT:=aHH (show ∀x∈cN r,fR lf x≠none from fun x hx=>by
    rw[←Hns.out] at hx;obtain ⟨j,hj⟩:=List.getElem?_of_mem hx;exact CI.out j x (aH3.1 hj).1 hj)
   have hlp:0<lf.length:=by
    have h:=VT.out r.field (by unfold cN;split<;>simp);cases lf with
    |nil=>exact absurd rfl h
    |cons _ _=>simp
   obtain ⟨adF,hFL,-⟩:=HF.out.flds.1.2 hlp;simp only at hFL;subst hFL;clear CI;go_wp2_with fail;go_loopw [44] (fun u wq=>∃i:Nat,i≤ns.length∧u=.int .i64 i∧Bl wd wq∧∀(j:Nat) x,j<i→ns[j]? = some x→fO lf r.kind x=false) (fun u _=>ns.length-(RowKit.intOf u).toNat);case atStart=>exact ⟨0,Nat.zero_le _,rfl,Hbr.out,fun j x hj=>absurd hj (Nat.not_lt_zero _)⟩
   case round=>
    clear Hbr k1 k2 hi hlt;rename World=>wr0;obtain ⟨i,hi,rfl,hbr,iG⟩:=hrel
    rename_i wq _ _
    have CI:=aHH iG;have Hbr:=aHH hbr;have k1:=(w11.bl (Hbd.out.trans hbr)).all8;have k2:=(w12.bl (Hbd.out.trans hbr)).all4;clear iG hbr;by_cases hlt:i<ns.length
    ·have hg:ns[i]? = some ns[i]:=aH2 hlt;obtain ⟨x,hx⟩:=aH0 (ns[i]);rw[←hx] at hg;obtain ⟨ad',e1,hc⟩:=pX (HR.out.bl Hbr.out) hg;obtain rfl:=aIw e1;have HG:=aHH hg;have Hne:=aHH (VT.out x (by rw[←Hns.out];exact List.mem_of_getElem? hg));clear hg hx e1;by_cases aAJ:r.kind=1
     ·have q1:(r.kind != 1)=false:=(by simp[aAJ]);have HX:=aHH (show fO lf r.kind x=false by unfold fO;rw[aIu aAJ];rfl);clear aAJ;go_upto_region 15 with fail;refine aHZ [aHX 0,aHX 1,aHX 2,aHX 3,aHX 4,aHX 5,aHX 6,aHX 7,aHX 13,aHX 14,aHX 15,aHY 8,aHX 9,aHX 10,aHX 11,aHY 12,aHX 16,aHX 17] (by kernel_rfl) ?_
      iterate 3
       apply Flow.calm2 _ _ rfl rfl
       ·intro a b c d;obtain ⟨e,f⟩:=b.rule;go_simp;(try go_ints);exact d
       ·intro a b;simp only[sqA];exact b
      apply Flow.mv _ rfl
      ·intro a b;simp only[sqA,Act.eval,sqC];exact b
      iterate 7
       first
        | (apply Flow.pass rfl (by rfl))
        | (apply Flow.calmG _ rfl (by rfl)
           ·intro a b;obtain ⟨e,f⟩:=b.rule;go_simp;all_goals (try rfl))
       simp only[sqA];try go_ints
      apply Flow.move rfl;go_wp2_with fail;first|refine ⟨fun _=>Bl.refl _,?_⟩|refine ⟨Bl.refl _,?_⟩
      iterate 3
       first
        | (apply Flow.pass rfl (by rfl))
        | (apply Flow.calmG _ rfl (by rfl)
           ·intro a b;obtain ⟨e,f⟩:=b.rule;go_simp;all_goals (try rfl))
       simp only[sqA];try go_ints
      apply Flow.move rfl;go_wp2_with fail;first|refine ⟨fun _=>Bl.refl _,?_⟩|refine ⟨Bl.refl _,?_⟩
      first
       | (apply Flow.pass rfl (by rfl))
       | (apply Flow.calmG _ rfl (by rfl)
          ·intro a b;obtain ⟨e,f⟩:=b.rule;go_simp;all_goals (try rfl))
      simp only[sqA];try go_ints
      apply Flow.calm2 _ _ rfl rfl
      ·intro a b c d;obtain ⟨e,f⟩:=b.rule;go_simp;(try go_ints);exact d
      ·intro a b;simp only[sqA];exact b
      refine Flow.done ?_;go_wp2_with fail;exact ⟨⟨i+1,hlt,by go_num,Hbr.out.drew,fun j' x' hj hx'=>by
       rcases Nat.lt_succ_iff_lt_or_eq.1 hj with h|rfl
       ·exact CI.out j' x' h hx'
       ·rw[HG.out] at hx';obtain rfl:=aIw hx';exact HX.out⟩,by simp[RowKit.intOf];omega⟩
     ·have q1:(r.kind != 1)=true:=(by simp[aAJ]);have HK1:=aHH aAJ;clear aAJ;go_upto_region 15 with fail;refine aHZ [aHX 0,aHX 1,aHX 2,aHX 3,aHX 4,aHX 5,aHX 6,aHX 7,aHX 13,aHX 14,aHX 15,aHY 8,aHX 9,aHX 10,aHX 11,aHY 12,aHX 16,aHX 17] (by kernel_rfl) ?_
      iterate 3
       apply Flow.calm2 _ _ rfl rfl
       ·intro a b c d;obtain ⟨e,f⟩:=b.rule;go_simp;(try go_ints);exact d
       ·intro a b;simp only[sqA];exact b
      apply Flow.mv _ rfl
      ·intro a b;simp only[sqA,Act.eval,sqC];exact b
      iterate 7
       first
        | (apply Flow.pass rfl (by rfl))
        | (apply Flow.calmG _ rfl (by rfl)
           ·intro a b;obtain ⟨e,f⟩:=b.rule;go_simp;all_goals (try rfl))
       simp only[sqA];try go_ints
      apply Flow.move rfl;go_wp2_with fail;refine (Hfa.out x _ (HF.out.bl (Hbd.out.trans Hbr.out.drew))).mono ?_;rintro e w2 ⟨ix,rfl,hix,HB1⟩;have hb2:Bl wd w2:=Hbr.out.trans (Bl.ofDrew HB1);have Hb2:=aHH hb2;have hkk:=jE hix;clear hix;rcases hkk with ⟨h0,hk⟩|⟨j,l,rfl,hl,hk⟩
      ·exact absurd hk Hne.out
      have hjl:=(aH3.1 hl).1;obtain ⟨ad2,e2,j1,j2,j3,j4,j5,j6,j7,j8,j9⟩:=FldsAt.at_ ((HF.out.flds).bl (Hbd.out.trans hb2)) hl;obtain rfl:=aIw e2;have k1:=(w11.bl (Hbd.out.trans hb2)).all8;have k2:=(w12.bl (Hbd.out.trans hb2)).all4;have Hk:=aHH hk;clear hb2 hk hl e2;go_wp2_with fail;refine ⟨fun _=>(by first|exact HB1|exact Bl.refl _),?_⟩
      iterate 3
       first
        | (apply Flow.pass rfl (by rfl))
        | (apply Flow.calmG _ rfl (by rfl)
           ·intro a b;obtain ⟨e,f⟩:=b.rule;go_simp;all_goals (try rfl))
       simp only[sqA];try go_ints
      apply Flow.move rfl;go_wp2_with fail;refine (jH _ _).mono ?_;rintro e w' ⟨rfl,rfl⟩;go_wp2_with fail;refine ⟨fun _=>(by first|exact HB2|exact Bl.refl _),?_⟩
      first
       | (apply Flow.pass rfl (by rfl))
       | (apply Flow.calmG _ rfl (by rfl)
          ·intro a b;obtain ⟨e,f⟩:=b.rule;go_simp;all_goals (try rfl))
      simp only[sqA];try go_ints
      apply Flow.calm2 _ _ rfl rfl
      ·intro a b c d;obtain ⟨e,f⟩:=b.rule;go_simp;(try go_ints);exact d
      ·intro a b;simp only[sqA];exact b
      refine Flow.done ?_;have hkb:fO lf r.kind x=(cC l.kind != (r.kind==6)):=by
       unfold fO;rw[Hk.out,aIt HK1.out];have e6:decide (r.kind=6)=(r.kind==6):=(by rw[Bool.eq_iff_iff];simp);rw[e6];rfl
      have Hkb:=aHH hkb;clear hkb;cases hm:cC l.kind with
      |true=>
       cases h6:(r.kind==6) with
       |true=>
        have HX:=aHH (show fO lf r.kind x=false by rw[Hkb.out,hm,h6];rfl);go_wp2_with fail;exact ⟨⟨i+1,hlt,by go_num,Hb2.out,fun j' x' hj hx'=>by
         rcases Nat.lt_succ_iff_lt_or_eq.1 hj with h|rfl
         ·exact CI.out j' x' h hx'
         ·rw[HG.out] at hx';obtain rfl:=aIw hx';exact HX.out⟩,by simp[RowKit.intOf];omega⟩
       |false=>have HX:=aHH (BT HK.out VT.out (by rw[←Hns.out];exact List.mem_of_getElem? HG.out) (by rw[Hkb.out,hm,h6];rfl));go_wp2_with fail;go_ret;exact ⟨by rw[HRE.out,HX.out];rfl,dM.out.trans (Hbd.out.trans Hb2.out)⟩
      |false=>
       cases h6:(r.kind==6) with
       |true=>have HX:=aHH (BT HK.out VT.out (by rw[←Hns.out];exact List.mem_of_getElem? HG.out) (by rw[Hkb.out,hm,h6];rfl));go_wp2_with fail;go_ret;exact ⟨by rw[HRE.out,HX.out];rfl,dM.out.trans (Hbd.out.trans Hb2.out)⟩
       |false=>
        have HX:=aHH (show fO lf r.kind x=false by rw[Hkb.out,hm,h6];rfl);go_wp2_with fail;exact ⟨⟨i+1,hlt,by go_num,Hb2.out,fun j' x' hj hx'=>by
         rcases Nat.lt_succ_iff_lt_or_eq.1 hj with h|rfl
         ·exact CI.out j' x' h hx'
         ·rw[HG.out] at hx';obtain rfl:=aIw hx';exact HX.out⟩,by simp[RowKit.intOf];omega⟩
    ·obtain rfl:i=ns.length:=(by omega);have ZR:=aHH (show ∀x∈cN r,fO lf r.kind x=false from fun x hx=>by
      rw[←Hns.out] at hx;obtain ⟨j,hj⟩:=List.getElem?_of_mem hx;exact CI.out j x (aH3.1 hj).1 hj)
     clear CI;have HTl:=aHH (HRE.out.trans (KT HK.out VT.out ZR.out));obtain ⟨TT,hTT⟩:=aH0 (oZ r);have HTT:=aHH hTT;rw[←hTT] at HTl;obtain ⟨o,ho⟩:=aH1 r.other.isEmpty;obtain ⟨t,ht⟩:=aH1 r.text.isEmpty;obtain ⟨tk,htk⟩:=aH1 (J8 r.kind);obtain ⟨k3,hk3⟩:=aH1 ((r.kind==3));obtain ⟨wb,hwb⟩:=aH1 (mW r.text);obtain ⟨k6,aGQ⟩:=aH1 ((r.kind==6));obtain ⟨nb,hnb⟩:=aH1 ((uP r.text).isSome);have HT:=aHH (hTT.trans (sB ho RT.out.symm ht htk hk3 hwb aGQ hnb));have hut:=fun wx=>GI r.kind wx;have haw:=fun wx hC=>G2 r.text wx (by omega) hC;have hct:=fun wx hN=>T3 ⟨r.text.toArray⟩ wx (by rw[Lib.size_mk];omega) hN;rw[htk] at hut;rw[hwb] at haw;unfold CountRes at hct;simp only[hnb] at hct;obtain ⟨Hut,Haw,Hct⟩:=aHI hut haw hct;clear hut haw hct htk hwb hnb hTT;go_wp2_with fail;refine (Hct.out _ (HN.out.bl (Hbd.out.trans Hbr.out))).mono ?_;rintro e w3 ⟨cv,rfl,-,hb3⟩;have Hb3:=aHH (Hbr.out.trans hb3);have k2:=(w12.bl (Hbd.out.trans Hb3.out)).all4;clear hb3 Hbr k1;go_upto_region 19 with fail;go_cut [112] from 73 to 112 (fun s wc=>s=.bool TT∧Bl wd wc);case first=>
      rcases T6 o two t tk k3 wb k6 nb with ⟨rfl,rfl⟩|⟨rfl|⟨rfl,rfl⟩,⟨rfl,rfl⟩|⟨rfl|⟨rfl,rfl⟩,⟨rfl,rfl⟩|⟨rfl,rfl,rfl⟩|⟨rfl,rfl,rfl⟩|⟨rfl,rfl⟩|⟨rfl,rfl,rfl⟩|⟨rfl,rfl,rfl⟩⟩⟩
      all_goals
       go_wp2_with (first|(go_at_call 46;refine (Huo.out _).mono ?_;rintro e w' ⟨rfl,rfl⟩)|(go_at_call 47;refine (Hut.out _).mono ?_;rintro e w' ⟨rfl,rfl⟩)|(go_at_call 164;refine (Haw.out _ (HC.out.bl (Hbd.out.trans Hb3.out))).mono ?_;rintro e w4 ⟨rfl,hb4⟩;have k2:=(w12.bl (Hbd.out.trans (Hb3.out.trans hb4))).all4));go_meet;case rel=>exact ⟨by rw[HT.out];simp,by first|exact Hb3.out|exact Hb3.out.trans hb4⟩
     case rest=>
      rename World=>wz;obtain ⟨rfl,hbz⟩:=hcut;have Hbz:=aHH hbz;clear hbz;cases TT with
      |true=>go_wp2_with fail;go_ret;exact ⟨by rw[HTl.out];rfl,dM.out.trans (Hbd.out.trans Hbz.out)⟩
      |false=>go_wp2_with fail;go_ret;exact ⟨by rw[HTl.out];rfl,dM.out.trans (Hbd.out.trans Hbz.out)⟩
end Go.Proofs.YtllefinciimffaaGreatDoor
