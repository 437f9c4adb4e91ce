import Derived.Test.YtllefinciimffaaGreatDoorMClaimFields4
import Derived.Lib.TrimByte
import Derived.Laws.EntriesVeiled
import Derived.Lib.Atoi
import Derived.Lib.ItoaNum
import Derived.Laws.BitsLemmas
set_option maxHeartbeats 20000000
set_option maxRecDepth 100000
namespace Go.Proofs.YtllefinciimffaaGreatDoor
open Go.RowKit
def okC (b:UInt8):Prop:=33≤(b.toNat:Int)∧(b.toNat:Int)≤126
theorem AV {l:List UInt8} {k:Nat} {b:UInt8} (h:l[k]? = some b) (hn:¬okC b):iJ l=false:=by
 unfold iJ;rw[aIt (fun h2=>hn (by have:=h2 b (List.mem_of_getElem? h);unfold okC;omega))];rfl
theorem SN {l:List UInt8} (h:∀(j:Nat) b,j<l.length→l[j]? = some b→okC b):iJ l=inB (l.length:Int) 1 4:=by
 unfold iJ;have e:(∀b∈l,33≤b.toNat∧b.toNat≤126):=fun b hb=>by
  obtain ⟨j,hj⟩:=List.getElem?_of_mem hb;have h2:=h j b (aH3.1 hj).1 hj;unfold okC at h2;omega
 rw[aIu e,Bool.true_and,Bool.eq_iff_iff,aQ,decide_eq_true_eq];omega
def rN (l:List UInt8):Bool:=decide (∀b∈l,33≤b.toNat∧b.toNat≤126)
theorem nL {l:List UInt8} {k:Nat} {b:UInt8} (h:l[k]? = some b) (hn:¬okC b):rN l=false:=
 aIt (fun h2=>hn (by have:=h2 b (List.mem_of_getElem? h);unfold okC;omega))
theorem AW {l:List UInt8} (h:∀(j:Nat) b,j<l.length→l[j]? = some b→okC b):rN l=true:=
 aIu fun b hb=>by
  obtain ⟨j,hj⟩:=List.getElem?_of_mem hb;have h2:=h j b (aH3.1 hj).1 hj;unfold okC at h2;omega
theorem zN (l:List UInt8) (w:World) (hs:l.length≤9223372036854775807) :
 Calls Tryz.prog 88 #[l] w fun e w'=>e=.returned (.bool (iJ l))∧w=w':=by
 have hsz:(⟨l.toArray⟩:ByteArray).size=l.length:=Lib.size_mk l
 go_in
 go_wp2_with fail
 go_loop [6] (fun u=>∃k:Nat,k≤l.length∧u=.int .i64 k∧∀(j:Nat) b,j<k→l[j]? = some b→okC b) (fun u=>l.length-(RowKit.intOf u).toNat)
 case atStart=>exact ⟨0,Nat.zero_le _,rfl,fun j b hj=>absurd hj (Nat.not_lt_zero _)⟩
 case round=>
  obtain ⟨k,hk,rfl,hc⟩:=hrel;have HC:=aHH hc;clear hc;by_cases hlt:k<l.length
  ·have hih:k<(⟨l.toArray⟩:ByteArray).size:=(by rw[hsz];exact hlt);have hgi:=Lib.getElem_mk l k hih;obtain ⟨c,hc⟩:=aH0 ((⟨l.toArray⟩:ByteArray)[k]'hih);rw[←hc] at hgi;have HG:=aHH hgi;have hc':=hc.symm;clear hc hgi;by_cases c1:(c.toNat:Int)<33
   ·have HN:=aHH (AV HG.out (show ¬okC c from fun h=>by unfold okC at h;omega));go_wp2_with fail;go_ret;exact ⟨aS HN.out.symm,rfl⟩
   ·by_cases c2:126<(c.toNat:Int)
    ·have HN:=aHH (AV HG.out (show ¬okC c from fun h=>by unfold okC at h;omega));go_wp2_with fail;go_ret;exact ⟨aS HN.out.symm,rfl⟩
    ·have HO:=aHH (show okC c from ⟨by omega,by omega⟩);go_wp2_with fail;exact ⟨⟨k+1,hlt,by go_num,fun j b hj hb=>by
      rcases Nat.lt_succ_iff_lt_or_eq.1 hj with h|rfl
      ·exact HC.out j b h hb
      ·rw[HG.out] at hb;obtain rfl:=aIw hb;exact HO.out⟩,by simp[RowKit.intOf];omega⟩
  ·obtain rfl:k=l.length:=(by omega);have HE:=aHH (SN HC.out);go_wp2_with (go_at_call 13;refine (eJ _ _ _ _).mono ?_;rintro e w' ⟨rfl,rfl⟩);go_ret;exact ⟨aS HE.out.symm,rfl⟩
theorem C8 (l:List UInt8) (w:World) (hs:l.length≤9223372036854775807) :
 Calls Tryz.prog 233 #[l] w fun e w'=>e=.returned (.bool (rN l))∧w=w':=by
 have hsz:(⟨l.toArray⟩:ByteArray).size=l.length:=Lib.size_mk l
 go_in
 go_wp2_with fail
 go_loop [6] (fun u=>∃k:Nat,k≤l.length∧u=.int .i64 k∧∀(j:Nat) b,j<k→l[j]? = some b→okC b) (fun u=>l.length-(RowKit.intOf u).toNat)
 case atStart=>exact ⟨0,Nat.zero_le _,rfl,fun j b hj=>absurd hj (Nat.not_lt_zero _)⟩
 case round=>
  obtain ⟨k,hk,rfl,hc⟩:=hrel;have HC:=aHH hc;clear hc;by_cases hlt:k<l.length
  ·have hih:k<(⟨l.toArray⟩:ByteArray).size:=(by rw[hsz];exact hlt);have hgi:=Lib.getElem_mk l k hih;obtain ⟨c,hc⟩:=aH0 ((⟨l.toArray⟩:ByteArray)[k]'hih);rw[←hc] at hgi;have HG:=aHH hgi;have hc':=hc.symm;clear hc hgi;by_cases c1:(c.toNat:Int)<33
   ·have HN:=aHH (nL HG.out (show ¬okC c from fun h=>by unfold okC at h;omega));go_wp2_with fail;go_ret;exact ⟨aS HN.out.symm,rfl⟩
   ·by_cases c2:126<(c.toNat:Int)
    ·have HN:=aHH (nL HG.out (show ¬okC c from fun h=>by unfold okC at h;omega));go_wp2_with fail;go_ret;exact ⟨aS HN.out.symm,rfl⟩
    ·have HO:=aHH (show okC c from ⟨by omega,by omega⟩);go_wp2_with fail;exact ⟨⟨k+1,hlt,by go_num,fun j b hj hb=>by
      rcases Nat.lt_succ_iff_lt_or_eq.1 hj with h|rfl
      ·exact HC.out j b h hb
      ·rw[HG.out] at hb;obtain rfl:=aIw hb;exact HO.out⟩,by simp[RowKit.intOf];omega⟩
  ·obtain rfl:k=l.length:=(by omega);have HE:=aHH (AW HC.out);go_wp2_with fail;go_ret;exact ⟨aS HE.out.symm,rfl⟩
theorem OL (l:List UInt8) (w:World) (hs:l.length≤9223372036854775807) :
 Calls Tryz.prog 177 #[l] w fun e w'=>e=.returned (.bool (iJ l))∧w=w':=by
 have hsz:(⟨l.toArray⟩:ByteArray).size=l.length:=Lib.size_mk l;by_cases c1:(l.length:Int)<1
 ·have HN:=aHH (show iJ l=false by unfold iJ;rw[aIt (show ¬(1≤l.length∧l.length≤4) by omega),Bool.and_false])
  go_in
  go_wp2_with fail;go_ret;exact ⟨aS HN.out.symm,rfl⟩
 ·by_cases c2:4<(l.length:Int)
  ·have HN:=aHH (show iJ l=false by unfold iJ;rw[aIt (show ¬(1≤l.length∧l.length≤4) by omega),Bool.and_false])
   go_in
   go_wp2_with fail;go_ret;exact ⟨aS HN.out.symm,rfl⟩
  ·have HN:=aHH (show iJ l=rN l by unfold iJ rN;rw[aIu (show 1≤l.length∧l.length≤4 by omega),Bool.and_true])
   go_in
   go_wp2_with fail;refine (C8 l _ hs).mono ?_;rintro e w' ⟨rfl,rfl⟩;go_wp2_with fail;go_ret;exact ⟨aS HN.out.symm,rfl⟩
def Ltr.val (l:Ltr):Value:=.agg #[l.text,l.W,l.H,.slice l.A l.m l.c]
def Tests (P:Program) (k:FuncId) (cap:Array Value) (w:World) (ls:List Ltr) (p:Ltr→Bool):Prop:=
 (∀args w,(callFunc k args).run P w=.ok (.enter k args) w)∧∀wx l,Bl w wx→l∈ls→Calls P k (#[l.val]++cap) wx fun e w'=>e=.returned (.bool (p l))∧Bl wx w'
theorem Tests.bl {P:Program} {k:FuncId} {cap:Array Value} {w w':World} {ls:List Ltr} {p:Ltr→Bool} (h:Tests P k cap w ls p) (hb:Bl w w'):Tests P k cap w' ls p:=⟨h.1,fun wx l hx hl=>h.2 wx l (hb.trans hx) hl⟩
def FirstIs (ls:List Ltr) (p:Ltr→Bool) (i:Int):Prop:=
 (i = -1∧∀l∈ls,p l=false)∨∃(j:Nat) (l:Ltr),i=(j:Int)∧ls[j]? = some l∧p l=true∧∀j' l',j'<j→ls[j']? = some l'→p l'=false
theorem FirstIs.some_iff {ls:List Ltr} {p:Ltr→Bool} {i:Int} (h:FirstIs ls p i):0≤i↔∃l∈ls,p l=true:=by
 rcases h with ⟨rfl,h⟩|⟨j,l,rfl,hl,hp,_⟩
 ·constructor
  ·intro h2;omega
  ·rintro ⟨l,hl,hp⟩;rw[h l hl] at hp;cases hp
 ·exact ⟨fun _=>⟨l,List.mem_of_getElem? hl,hp⟩,fun _=>Int.natCast_nonneg j⟩
theorem aIQ (L:Option Addr) (c:Nat) (ls:List Ltr) (k:FuncId) (cap:Array Value) (p:Ltr→Bool) (w:World) (hL:LtrsAt w L ls) (hk:Tests Tryz.prog k cap w ls p) (hn:ls.length≤9223372036854775807) :
 Calls Tryz.prog 146 #[.slice L ls.length c,.func (.func k) #[] cap] w fun e w'=>∃i:Int,e=.returned i∧FirstIs ls p i∧Bl w w':=by
 have ZF:=hk.1;have HL:=aHH hL;have HK:=aHH hk;clear hL hk
 go_in
 go_wp2_with fail;go_loopw [8] (fun u wr=>∃i:Nat,i≤ls.length∧u=.int .i64 i∧Bl w wr∧∀j l,j<i→ls[j]? = some l→p l=false) (fun u _=>ls.length-(RowKit.intOf u).toNat);case atStart=>exact ⟨0,Nat.zero_le _,rfl,Bl.refl _,fun j l hj=>absurd hj (Nat.not_lt_zero _)⟩
 case round=>
  obtain ⟨i,hi,rfl,hbr,hno⟩:=hrel;have HNo:=aHH hno;clear hno;by_cases hlt:i<ls.length
  ·have hg:ls[i]? = some ls[i]:=aH2 hlt;obtain ⟨l,hl⟩:=aH0 (ls[i]);rw[←hl] at hg;obtain ⟨ad,rfl,k1,k2,k3,k4⟩:=(HL.out.bl hbr).at_ hg;have cI:=HK.out.2 wr l hbr (List.mem_of_getElem? hg);obtain ⟨fP,HG,HBr⟩:=aHI cI hg hbr;clear cI hg hl hbr;go_wp2_with fail;refine fP.out.mono ?_;rintro e w1 ⟨rfl,hb1⟩;have HB1:=aHH (HBr.out.trans hb1);clear hb1;cases hp:p l
   ·have HP:=aHH hp;clear hp;go_wp2_with fail;exact ⟨⟨i+1,hlt,by go_num,HB1.out,fun j l' hj hl'=>by
     rcases Nat.lt_succ_iff_lt_or_eq.1 hj with h|rfl
     ·exact HNo.out j l' h hl'
     ·rw[HG.out] at hl';obtain rfl:=aIw hl';exact HP.out⟩,by simp[RowKit.intOf];omega⟩
   ·have HP:=aHH hp;clear hp;go_wp2_with fail;go_ret;exact ⟨_,rfl,Or.inr ⟨i,l,rfl,HG.out,HP.out,fun j' l' hj hl'=>HNo.out j' l' hj hl'⟩,HB1.out⟩
  ·obtain rfl:i=ls.length:=(by omega);go_wp2_with fail;go_ret;exact ⟨_,rfl,Or.inl ⟨rfl,fun l hl=>by
    obtain ⟨j,hj⟩:=List.getElem?_of_mem hl;exact HNo.out j l (aH3.1 hj).1 hj⟩,hbr⟩
theorem xE (L:Option Addr) (c:Nat) (ls:List Ltr) (k:FuncId) (cap:Array Value) (p:Ltr→Bool) (w:World) (hL:LtrsAt w L ls) (hk:Tests Tryz.prog k cap w ls p) (hn:ls.length≤9223372036854775807) :
 Calls Tryz.prog 89 #[.slice L ls.length c,.func (.func k) #[] cap] w fun e w'=>e=.returned (.bool (decide (∃l∈ls,p l=true)))∧Bl w w':=by
 have Hc:=aHH (aIQ L c ls k cap p w hL hk hn);clear hL hk
 go_in
 go_wp2_with fail;refine Hc.out.mono ?_;rintro e w1 ⟨i,rfl,hi,hb⟩;have Hi:=aHH hi.some_iff;clear hi;go_wp2_with fail;go_ret;exact ⟨aS (decide_eq_decide.2 Hi.out),hb⟩
theorem OM (A:Option Addr) (n c:Nat) (xs:List Int) (v:Int) (w:World) (hA:Reads w 1 A n (xs.map (.int .i64))) (hn:n≤1099511627776) :
 Calls Tryz.prog 147 #[.slice A n c,v] w fun e w'=>∃k:Int,e=.returned k∧(0≤k↔v∈xs)∧w=w':=by
 have hl:xs.length=n:=(by have:=hA.1;simpa using this);have HA:=aHH hA;have HL:=aHH hl;clear hA hl
 go_in
 go_wp2_with fail;go_loopw [8] (fun u wr=>∃i:Nat,i≤n∧u=.int .i64 i∧w=wr∧∀j,j<i→xs[j]? ≠ some v) (fun u _=>n-(RowKit.intOf u).toNat);case atStart=>exact ⟨0,Nat.zero_le _,rfl,rfl,fun j hj=>absurd hj (Nat.not_lt_zero _)⟩
 case round=>
  obtain ⟨i,hi,rfl,rfl,hno⟩:=hrel;have Hno:=aHH hno;clear hno;by_cases hlt:i<n
  ·obtain ⟨ad,u,rfl,hu,hc⟩:=HA.out.at_ hlt;have hl2:i<xs.length:=(by rw[HL.out];exact hlt);have hu':u=.int .i64 xs[i]:=(by simpa [hl2] using hu.symm);have hg:xs[i]? = some xs[i]:=aH2 hl2;subst hu';obtain ⟨b,hb⟩:=aH0 (xs[i]);rw[←hb] at hc hg;have Hg:=aHH hg;clear hu hb hg hl2;by_cases hbv:v=b
   ·have hq:(v==b)=true:=(by simp[hbv]);have HX:=aHH (show 0≤(i:Int)↔v∈xs from ⟨fun _=>by rw[hbv];exact List.mem_of_getElem? Hg.out,fun _=>Int.natCast_nonneg i⟩);clear hbv;go_wp2_with fail;go_ret;exact ⟨_,rfl,HX.out,rfl⟩
   ·have hq:(v==b)=false:=(by simp[hbv]);have HY:Hid (∀j,j<i+1→xs[j]? ≠ some v):=fun j hj=>by
     rcases Nat.lt_succ_iff_lt_or_eq.1 hj with h|rfl
     ·exact Hno.out j h
     ·rw[Hg.out];intro e;exact hbv (aIw e).symm
    clear hbv;go_wp2_with fail;exact ⟨⟨i+1,hlt,by go_num,by first|rfl|trivial,HY.out⟩,by simp[RowKit.intOf];omega⟩
  ·have HX:=aHH (show (0:Int)≤-1↔v∈xs from ⟨fun h=>absurd h (by decide),fun h=>by
    obtain ⟨j,hj⟩:=List.getElem?_of_mem h;have:=(aH3.1 hj).1;exact absurd hj (Hno.out j (by have:=HL.out;omega))⟩)
   go_wp2_with fail;go_ret;exact ⟨_,rfl,HX.out,rfl⟩
theorem rO (A:Option Addr) (n c:Nat) (xs:List Int) (v:Int) (w:World) (hA:Reads w 1 A n (xs.map (.int .i64))) (hn:n≤1099511627776) :
 Calls Tryz.prog 91 #[.slice A n c,v] w fun e w'=>e=.returned (.bool (decide (v∈xs)))∧w=w':=by
 go_in
 go_wp2_with fail;refine (OM A n c xs v w hA hn).mono ?_;rintro e w1 ⟨k,rfl,hk,rfl⟩;have Hk:=aHH hk;clear hk hA;go_wp2_with fail;go_ret;exact ⟨aS (decide_eq_decide.2 Hk.out),rfl⟩
theorem mP {bs : List Bool} : ∀ {m : Nat}, (CT bs m).length = 0 ↔ ∀ i, i < m → bs.getD i false = false
 |0=>by simp[CT]
 |m+1=>by
  simp only[CT,aH5];have ih:=mP (bs:=bs) (m:=m);constructor
  ·intro h i hi;rcases Nat.lt_or_ge i m with c|c
   ·exact ih.1 (by omega) i c
   ·obtain rfl:i=m:=(by omega);cases hb:bs.getD i false
    ·rfl
    ·rw[hb] at h;simp at h
  ·intro h;rw[ih.2 (fun i hi=>h i (by omega)),h m (by omega)];rfl
def aDm (bs:List Bool) (N:Nat):Bool:=decide (0<(CT bs N).length)
theorem Z9 {bs:List Bool} {W H:Nat} {is:Bool} {X Y BW BH:Int} (h:BoundsIs bs W H is X Y BW BH):is=aDm bs (W*H):=by
 unfold aDm;rcases h with ⟨rfl,hno,_⟩|⟨rfl,l,r,t,b,hl,_⟩
 ·symm;rw[decide_eq_false_iff_not];intro aDE;have:(CT bs (W*H)).length=0:=mP.2 fun i hi=>by
   obtain ⟨h1,h2,h3⟩:=eR hi;have:=hno _ h1;cases hb:bs.getD i false
   ·rfl
   ·have:=(nG bs W H (i % W)).2 ⟨i / W,h2,by rw[mL hi];exact hb⟩;omega
  omega
 ·symm;rw[decide_eq_true_iff];rcases Nat.eq_zero_or_pos (CT bs (W*H)).length with e|e
  ·have hz:=mP.1 e;obtain ⟨y,hy,hp⟩:=(nG bs W H l).1 hl.1.2.1;have:=hz (l+y*W) (by rw[Nat.add_comm];exact d8 hl.1.1 hy);unfold pix at hp;rw[Nat.add_comm] at this;rw[this] at hp;cases hp
  ·exact e
theorem oO (b : UInt8) : ∀ (l : List UInt8) (acc : Nat), Lib.decFrom acc (l ++ [b]) = match Lib.decFrom acc l with | none => none | some m => (match Lib.digitVal b with | some d => some (m * 10 + d) | none => none)
 |[],acc=>by
  show (match Lib.digitVal b with|some d=>Lib.decFrom (acc*10+d) []|none=>none)=_;cases Lib.digitVal b<;>rfl
 |a :: l,acc=>by
  show (match Lib.digitVal a with|some d=>Lib.decFrom (acc*10+d) (l++[b])|none=>none)=match (match Lib.digitVal a with|some d=>Lib.decFrom (acc*10+d) l|none=>none) with|none=>none|some m=>(match Lib.digitVal b with|some d=>some (m*10+d)|none=>none);cases Lib.digitVal a with
  |none=>rfl
  |some d=>exact oO b l (acc*10+d)
def dgB (d:Nat):UInt8:=UInt8.ofNat (48+d)
theorem xF {d:Nat} (h:d<10):(dgB d).toNat=48+d:=by unfold dgB;rw[UInt8.toNat_ofNat'];omega
theorem xG {d:Nat} (h:d<10):Lib.digitVal (dgB d)=some d:=by
 unfold Lib.digitVal;rw[xF h,if_pos (by omega)]
 congr 1
 omega
theorem rP {b:UInt8} {d:Nat} (h:Lib.digitVal b=some d):d<10∧b=dgB d:=by
 unfold Lib.digitVal at h;split at h
 ·rename_i hb
  obtain rfl:=aIw h;refine ⟨by omega,?_⟩;apply UInt8.toNat_inj.1;rw[xF (by omega)];omega
 ·cases h
theorem kT {n:Nat} (h:n<10):Lib.decDigits n=[dgB n]:=Lib.decDigits_one h
theorem C9 {n:Nat} (h:¬n<10):Lib.decDigits n=Lib.decDigits (n / 10)++[dgB (n % 10)]:=by
 rw[Lib.decDigits,dif_neg h];rfl
theorem ON (n:Nat):Lib.decFrom 0 (Lib.decDigits n)=some n:=by
 induction n using Nat.strongRecOn with
 |ind n ih=>
  by_cases h:n<10
  ·rw[kT h];show (match Lib.digitVal (dgB n) with|some d=>Lib.decFrom (0*10+d) []|none=>none)=some n;rw[xG h];show some (0*10+n)=some n
   congr 1
   omega
  ·rw[C9 h,oO,ih (n / 10) (by omega)];simp only;rw[xG (by omega)];simp only
   congr 1
   omega
theorem SO (n:Nat):∀b∈Lib.decDigits n,48≤b.toNat∧b.toNat≤57:=by
 induction n using Nat.strongRecOn with
 |ind n ih=>
  by_cases h:n<10
  ·rw[kT h];intro b hb;rw[aIn.1 hb,xF h];omega
  ·rw[C9 h];intro b hb;rcases aIj.1 hb with hb|hb
   ·exact ih (n / 10) (by omega) b hb
   ·rw[aIn.1 hb,xF (by omega)];omega
theorem MM (n:Nat) (h:1≤n):∃b l,Lib.decDigits n=b :: l∧b≠48:=by
 induction n using Nat.strongRecOn with
 |ind n ih=>
  by_cases h9:n<10
  ·refine ⟨dgB n,[],kT h9,fun e => ?_⟩;have:=congrArg UInt8.toNat e;rw[xF h9] at this;have h48:(48:UInt8).toNat=48:=rfl;omega
  ·obtain ⟨b,l,e,hb⟩:=ih (n / 10) (by omega) (by omega);exact ⟨b,l++[dgB (n % 10)],by rw[C9 h9,e];rfl,hb⟩
theorem AX : ∀ (k : Nat) (l : List UInt8) (m : Nat), l.length = k + 1 → (l.getD 0 0 ≠ 48 ∨ k = 0) → Lib.decFrom 0 l = some m → Lib.decDigits m = l
 |0,l,m,hl,_,h=>by
  match l,hl with
  |[b],_=>
   have h':(match Lib.digitVal b with|some d=>Lib.decFrom (0*10+d) []|none=>none)=some m:=h;cases hd:Lib.digitVal b with
   |none=>rw[hd] at h';cases h'
   |some d=>rw[hd] at h';have hm:0*10+d=m:=aIw h';obtain ⟨h10,rfl⟩:=rP hd;rw[show m=d by omega];exact kT h10
 |k+1,l,m,hl,hz,h=>by
  rcases List.eq_nil_or_concat l with rfl|⟨q,b,rfl⟩
  ·simp at hl
  ·rw[List.concat_eq_append] at h hz hl ⊢;rw[aH5,aIo] at hl;rw[oO] at h;cases hq:Lib.decFrom 0 q with
   |none=>rw[hq] at h;cases h
   |some v=>
    rw[hq] at h;cases hd:Lib.digitVal b with
    |none=>simp only[hd] at h;cases h
    |some d=>
     simp only[hd] at h;have hm:v*10+d=m:=aIw h;obtain ⟨h10,rfl⟩:=rP hd;have hq0:q.getD 0 0≠48:=by
      rcases hz with hz|hz
      ·rw[aH4,aIb (by omega),←aH4] at hz;exact hz
      ·omega
     have ih:=AX k q v (by omega) (.inl hq0) hq;have hv:1≤v:=by
      rcases Nat.eq_zero_or_pos v with rfl|hv
      ·rw[kT (by decide)] at ih;rw[←ih] at hq0;exact absurd rfl hq0
      ·exact hv
     rw[C9 (by omega),show m / 10=v by omega,show m % 10=d by omega,ih]
theorem OO {b:UInt8} (l:List UInt8) (hb:48≤b.toNat):Lib.atoi (b :: l)=(Lib.decNat (b :: l)).map fun (m:Nat)=>(m:Int):=by
 show (if (b==45)=true then (Lib.decNat l).map (fun (m:Nat) => -(m:Int)) else if (b==43)=true then (Lib.decNat l).map (fun (m:Nat)=>(m:Int)) else (Lib.decNat (b :: l)).map fun (m:Nat)=>(m:Int))=_;rw[if_neg (by intro hx;rw[beq_iff_eq] at hx;rw[hx] at hb;exact absurd hb (by decide)),if_neg (by intro hx;rw[beq_iff_eq] at hx;rw[hx] at hb;exact absurd hb (by decide))]
theorem JS {n:Nat} (h:1≤n):Lib.atoi (Lib.decDigits n)=some (n:Int):=by
 obtain ⟨b,l,e,-⟩:=MM n h;have hb:=SO n b (by rw[e];exact List.mem_cons_self ..);have hd:=ON n;rw[e] at hd ⊢;rw[OO l hb.1];unfold Lib.decNat;rw[if_neg (by simp),hd];rfl
def aBa (b:UInt8):Bool:=decide (48≤b.toNat∧b.toNat≤57)
def BPage (B:Nat) (w:World) (v:Value) (W H:Nat) (bs:List Bool):Prop:=∃g,v=.agg #[W,H,.slice (some ⟨g,0,none⟩) (W*H) (W*H)]∧Blk w g 4 (bs.map Value.bool).toArray∧bs.length=W*H∧B≤g
theorem BPage.is {B:Nat} {w:World} {v:Value} {W H:Nat} {bs:List Bool} (h:BPage B w v W H bs):IsPage w v W H (bs.map .bool):=by
 obtain ⟨g,e,hb,hl,-⟩:=h;exact ⟨_,_,e,by have:=hb.reads (W*H) 1 (by simp[hl]);simpa using this⟩
theorem BPage.bl {B:Nat} {w w':World} {v:Value} {W H:Nat} {bs:List Bool} (h:BPage B w v W H bs) (hb:Bl w w'):BPage B w' v W H bs:=
 let ⟨g,e,hg,hl,hn⟩:=h
 ⟨g,e,hg.bl hb,hl,hn⟩
theorem BPage.mono {B B':Nat} {w:World} {v:Value} {W H:Nat} {bs:List Bool} (h:BPage B w v W H bs) (hb:B'≤B):BPage B' w v W H bs:=
 let ⟨g,e,hg,hl,hn⟩:=h
 ⟨g,e,hg,hl,aII hb hn⟩
theorem FT (W H:Nat) (f:Nat→Nat→Bool) (k:FuncId) (cap:Array Value) (w:World) (hW:W≤1048576) (hH:H≤1048576) (hWH:W*H≤1048576) (hk:Paints Tryz.prog k cap Value.bool w W H f) :
 Calls Tryz.prog 103 #[W,H,.func (.func k) #[] cap] w fun e w'=>∃v,e=.returned v∧BPage w.heap.size w' v W H (fS W H f)∧Bl w w':=by
 have hmk:=run_make_row' (P:=Tryz.prog) 41 4 (.bool false) 1 Tryz.underlying41 rE rfl .i64 .i64 (W*H) (by omega) (by omega);have ZF:=hk.1;have eWH:(W:Int)*(H:Int)=((W*H:Nat):Int):=(by simp);have h1:(0:Int)≤(W:Int)*(H:Int):=(by omega);have h2:(W:Int)*(H:Int)≤1048576:=(by omega);rw[←eWH] at hmk;have EWH:=aHH eWH;clear eWH;have inv0:=aHH (madeInv.start w W H f)
 go_in
 go_wp2_with fail;go_loopw [18] (fun v wr=>∃y:Nat,y≤H∧v=.int .i64 y∧madeInv w W H f wr (y*W)) (fun v _=>H-(intOf v).toNat);case atStart=>exact ⟨0,Nat.zero_le _,rfl,by simpa using inv0.out⟩
 case round=>
  obtain ⟨y,hy,rfl,q9⟩:=hrel;by_cases hlt:y<H
  ·go_wp2_with fail;go_loopw [22] (fun v w2=>∃x:Nat,x≤W∧v=.int .i64 x∧madeInv w W H f w2 (y*W+x)) (fun v _=>W-(intOf v).toNat);case atStart=>exact ⟨0,Nat.zero_le _,rfl,by simpa using q9⟩
   case round=>
    obtain ⟨x,hx,rfl,AC⟩:=hrel;by_cases iH:x<W
    ·obtain ⟨hbl,⟨cs,JA,hsz,hcs⟩,hb2,hb0⟩:=AC;have ex:(y*W+x) % W=x:=(by rw[Nat.mul_comm,Nat.mul_add_mod,Nat.mod_eq_of_lt iH]);have ey:(y*W+x) / W=y:=(by rw[Nat.mul_comm,Nat.mul_add_div (by omega),Nat.div_eq_of_lt iH,Nat.add_zero]);have aAz:=d8 iH hlt;obtain ⟨i,hi⟩:=aH0 (y*W+x);have e1:(y:Int)*(W:Int)+(x:Int)=(i:Int):=(by rw[hi];simp);rw[←hi] at aAz ex ey hcs;have k2:=hb2.all3;obtain ⟨vi,ci⟩:∃v,wr.cell? ⟨w.heap.size+1,i,none⟩=some v:=⟨cs[i]'(by omega),by rw[JA.cell];simp⟩;have fi:=JA.frozen i;have hi2:(i:Int)<(W:Int)*(H:Int):=(by have:=EWH.out;omega);have h3:(0:Int)≤(y:Int)*(W:Int)∧(y:Int)*(W:Int)≤1048576:=(by have:=aIG y W;have:=EWH.out;omega);obtain ⟨Hi,Hcs,Hex,Hey⟩:=aHJ hi hcs ex ey;clear hi hcs ex ey;go_wp2_with fail;refine aA [(true,0),(true,1),(true,2),(true,3),(true,4),(true,5),(true,6),(true,7),(true,8),(true,9),(false,10),(true,11),(false,12)] (fun i=>i==12) (by kernel_rfl) (by kernel_rfl) (by kernel_rfl) (by kernel_rfl) ?_
     iterate 2
      apply Flow.calm2 _ _ rfl rfl
      ·intro a b c d;obtain ⟨e,f⟩:=b.rule;go_simp;(try go_ints);exact d
      ·intro a b;simp only[sqA];exact b
     iterate 2
      apply Flow.mv _ rfl
      ·intro a b;simp only[sqA,Act.eval,sqC];exact b
     apply Flow.calm2 _ _ rfl rfl
     ·intro a b c d;obtain ⟨e,f⟩:=b.rule;go_simp;(try go_ints);exact d
     ·intro a b;simp only[sqA];exact b
     apply Flow.mv _ rfl
     ·intro a b;simp only[sqA,Act.eval,sqC];exact b
     apply Flow.calm2 _ _ rfl rfl
     ·intro a b c d;obtain ⟨e,f⟩:=b.rule;go_simp;(try go_ints);exact d
     ·intro a b;simp only[sqA];exact b
     iterate 3
      apply Flow.mv _ rfl
      ·intro a b;simp only[sqA,Act.eval,sqC];exact b
     apply Flow.move rfl;go_wp2_with fail;refine (hk.2 _ _ _ (hbl.trans (Bl.refl _).drew) iH hlt).mono ?_;rintro e w3 ⟨rfl,HB1⟩;obtain ⟨hc3,hf3⟩:=HB1.rule;go_wp2_with fail;refine ⟨fun _=>(by first|exact HB1|exact Bl.refl _),?_⟩;apply Flow.calm2 _ _ rfl rfl
     ·intro a b c d;obtain ⟨e,f⟩:=b.rule;go_simp;(try go_ints);exact d
     ·intro a b;simp only[sqA];exact b
     refine Flow.tail _ rfl ?_;go_wp2_with fail;have hb4:Bl wr w3:=((Bl.refl _).drew).trans HB1;have hst:madeInv w W H f (w3.setCell ⟨w.heap.size+1,i,none⟩ (Value.bool (f x y))) (i+1):=by
      refine ⟨(hbl.trans hb4).setCell (by simp) _,⟨_,(JA.bl hb4).set_ i _,by simpa using hsz,fun j hj => ?_⟩,(hb2.bl hb4).far (by simp) _,(hb0.bl hb4).far (by simp) _⟩;by_cases e:i=j
      ·subst e;rw[Hex.out,Hey.out];simp[hsz,aAz]
      ·rw[Array.getElem?_setIfInBounds_ne e];exact Hcs.out j (by omega)
     have Hst:=aHH hst;clear hst;exact ⟨⟨x+1,iH,by go_num,by have:=Hst.out;rw[Hi.out] at this;simpa [Nat.add_assoc,Hi.out] using this⟩,by simp[intOf];omega⟩
    ·go_wp2_with fail;exact ⟨⟨y+1,hlt,by go_num,by rw[Nat.add_mul,Nat.one_mul];rwa [show x=W by omega] at AC⟩,by simp[intOf];omega⟩
  ·have k2:=q9.2.2.1.all3;have k0:=q9.2.2.2.all3;go_wp2_with fail;refine aIx (v:=.agg #[W,H,.slice (some ⟨w.heap.size+1,0,none⟩) (W*H) (W*H)]) (by simp[results,Tryz.results103,go_sem,k0]) rfl ?_;obtain ⟨hbl,⟨cs,JA,hsz,hcs⟩,_,_⟩:=q9;refine ⟨_,rfl,⟨_,rfl,?_,nF _ _ _,by simp⟩,?_⟩
   ·have hb':=((JA.far (p:=⟨w.heap.size,0,none⟩) (by simp) (.int .i64 W)).far (p:=⟨w.heap.size,1,none⟩) (by simp) (.int .i64 H)).far (p:=⟨w.heap.size,2,none⟩) (by simp) (.slice (some ⟨w.heap.size+1,0,none⟩) (W*H) (W*H));have hl:cs.toList=(fS W H f).map Value.bool:=by
     apply List.ext_getElem?;intro i;rcases Nat.lt_or_ge i (W*H) with h|h
     ·rw[aId,CQ W H f i h];have:=hcs i (by have:=Nat.mul_comm W H;rw[show y=H by omega];omega);simpa using this
     ·rw[aIC (by simpa [hsz] using h),aIC (by simpa [nF] using h)]
    rw[←hl];exact hb'
   ·exact ((hbl.setCell (by simp) _).setCell (by simp) _).setCell (by simp) _
theorem SP (W H:Nat) (w:World) (hs:aM W H=0) :
 Calls Tryz.prog 34 #[W,H] w fun e w'=>
  ∃v,e=.returned (.tuple #[v,.int .i64 0])∧BPage w.heap.size w' v W H (List.replicate (W*H) false)∧Bl w w':=by
 have hz':=aR hs;have hWH:(W:Int)*(H:Int)=((W*H:Nat):Int):=(by simp);have h1:(0:Int)≤(W:Int)*(H:Int):=(by omega);have h2:(W:Int)*(H:Int)≤1048576:=(by omega);have hN:W*H≤1048576:=(by omega);have hmk:=run_make_row' (P:=Tryz.prog) 41 4 (.bool false) 1 Tryz.underlying41 rE rfl .i64 .i64 (W*H) (by omega) (by omega);rw[←hWH] at hmk;have hq:(aM W H != 0)=false:=(by simp[hs]);have HS:=aHH hs;have HWH:=aHH hWH;clear hs hWH
 go_in
 go_wp2_with (go_at_call 102;refine (gE _ _ _).mono ?_;rintro e w1 ⟨rfl,rfl⟩);have hm:madeCells #[.bool false] (W*H)=Array.replicate (W*H) (.bool false):=by
  apply Array.ext_getElem?;intro i;rcases Nat.lt_or_ge i (W*H) with h|h
  ·simp[madeCells,h,Nat.mod_one]
  ·rw[Array.getElem?_eq_none (by rw[size_madeCells];exact h),Array.getElem?_eq_none (by simpa using h)]
 rw[hm];refine aIx (v:=.tuple #[.agg #[W,H,.slice (some ⟨w.heap.size+1,0,none⟩) (W*H) (W*H)],.int .i64 0]) (by simp[results,Tryz.results34,go_sem]) rfl ⟨_,rfl,⟨_,rfl,?_,by simp,by simp⟩,?_⟩
 ·have hb:=Blk.new (w.alloc (.cells #[W,H,.slice (some ⟨w.heap.size+1,0,none⟩) (W*H) (W*H)] 43)) 4 (Array.replicate (W*H) (.bool false));simpa using hb
 ·repeat' (first|exact Bl.refl _|refine Bl.drew ?_|refine Bl.setCell ?_ (by simp) _|refine Bl.alloc ?_ _)
theorem OP (bW bH cW cH : Nat) (bv cv : Value) (bs cs : List Bool) (x y : Int) (w : World) (hA : IsPage w bv bW bH (bs.map .bool)) (hC : IsPage w cv cW cH (cs.map .bool))
 (e1:aM bW bH=0) (e2:aM cW cH=0) (_hx:-9223372036854775808≤x∧x≤9223372036854775807) (_hy:-9223372036854775808≤y∧y≤9223372036854775807) :
 Calls Tryz.prog 35 #[bv,cv,x,y] w fun e w'=>∃v,e=.returned (.tuple #[v,.int .i64 0])∧BPage w.heap.size w' v bW bH (fS bW bH (oJ bs cs bW bH cW cH x y))∧Bl w w':=by
 obtain ⟨A,bc,rfl,hA⟩:=hA;obtain ⟨C,cc,rfl,hC⟩:=hC;have z1:=aR e1;have z2:=aR e2;have p1:aF bW bH (bW*bH)=0:=(by unfold aF;rw[if_pos e1,if_pos (by simp)]);have p2:aF cW cH (cW*cH)=0:=(by unfold aF;rw[if_pos e2,if_pos (by simp)]);have hbd:bW*bH≤1048576:=(by have:=aIG bW bH;omega);have ub1:1≤bW∧bW≤4000:=(by omega);have ub2:1≤bH∧bH≤4000:=(by omega);have uc1:1≤cW∧cW≤4000:=(by omega);have uc2:1≤cH∧cH≤4000:=(by omega);obtain ⟨E1,E2,P1,P2⟩:=aHJ e1 e2 p1 p2;clear e1 e2 z1 z2;let w6:=((((((w).alloc (.cells #[bW,bH,.slice A (bW*bH) bc] 43)).alloc (.cells #[cW,cH,.slice C (cW*cH) cc] 43)).alloc (.cells #[x] 3)).alloc (.cells #[y] 3)).alloc (.cells #[.int .i64 0,.int .i64 0,.slice none 0 0] 43)).alloc (.cells #[bW,bH,.slice A (bW*bH) bc,cW,cH,.slice C (cW*cH) cc] 43);obtain ⟨w6b,w61,w62,w63,w64,w65,w66⟩:=aHT (x:=w6) w _ _ _ _ _ _ _ _ _ _ _ _ rfl
 go_in
 go_wp2_with fail;refine wp_loop_rounds 3 ?_;rw[rounds_succ];go_wp2_with fail;refine (cQ _ _ _ _ _ _).mono ?_;rintro e w7 ⟨rfl,hb7⟩;have RN:Bl w6 w7:=((Bl.refl w6).alloc _).trans hb7;have a6:=(w66.bl RN).all6;have l7:w.heap.size+5<w7.heap.size:=(by have:=(w66.bl RN).lt;simpa using this);go_wp2_with fail;rw[rounds_succ];go_wp2_with fail;refine (cQ _ _ _ _ _ _).mono ?_;rintro e w8 ⟨rfl,hb8⟩;have CH:Bl w6 w8:=(RN.alloc _).trans hb8;have q1:=(w61.bl CH).all3;have q2:=(w62.bl CH).all3;have q3:=(w63.bl CH).all1;have q4:=(w64.bl CH).all1;have q5:=w65.bl CH;have hr:=q5.all3;have l1:=(w61.bl CH).lt;have l2:=(w62.bl CH).lt;have l3:=(w63.bl CH).lt;have l4:=(w64.bl CH).lt;have l5:=q5.lt;have hPA:=(hA.bl (w6b.trans CH));have hPC:=(hC.bl (w6b.trans CH));have aFk:=w6b.trans CH;generalize hB1:w61.bl CH=B1;clear hB1 a6 l7;have B2:=w62.bl CH;have B3:=w63.bl CH;have B4:=w64.bl CH;go_wp2_with fail;rw[rounds_succ];have tok:True:=trivial;have hP:=fun (ap:Bool) (hap:ap=iL bW bH cW cH x y)=>(⟨fT Tryz.func104 (by kernel_rfl) rfl,fun wx u v hb hu hv=>by
  subst hap;have hb':Bl w8 wx:=((Bl.refl w8).alloc _).trans hb;have q2:Blk (w8.alloc (.cells #[.bool (iL bW bH cW cH x y)] 4)) w8.heap.size 4 #[.bool (iL bW bH cW cH x y)]:=Blk.new _ _ _;exact OG _ _ _ _ _ bW bH cW cH A C bc cc bs cs x y u v wx (B1.bl hb') (q2.bl hb) (B3.bl hb') (B4.bl hb') (B2.bl hb') (hPA.bl hb') (hPC.bl hb') ub1.2 ub2.2 uc1.2 uc2.2 hu hv⟩ :
  Paints Tryz.prog 104 #[.pointer (some ⟨w.heap.size,0,none⟩),.pointer (some ⟨w8.heap.size,0,none⟩),.pointer (some ⟨w.heap.size+1+1,0,none⟩),.pointer (some ⟨w.heap.size+1+1+1,0,none⟩),.pointer (some ⟨w.heap.size+1,0,none⟩)] Value.bool (w8.alloc (.cells #[.bool ap] 4)) bW bH (oJ bs cs bW bH cW cH x y))
 have HP:=aHH hP;clear hP;have HPA:=aHH hPA;have HPC:=aHH hPC;clear hPA hPC B1 B2 B3 B4;go_wp2_with fail
 all_goals
  refine (FT bW bH _ _ _ _ (by omega) (by omega) hbd (HP.out _ (by first|(unfold iL;rfl)|(simp[iL];omega)))).mono ?_;rintro e w9 ⟨r,rfl,hpg,hb9⟩;have kr:=((q5.alloc _).bl hb9).all3;obtain ⟨R,rfl,hR,hRl,hRn⟩:=hpg;have hb8':=aFk.le;have VG:w.heap.size+5≤R:=(by simp at hRn;omega);obtain ⟨HR,HRn,HRl⟩:=aHI hR VG hRl;clear hR hRn VG hRl;go_wp2_with fail;refine aIx (v:=.tuple #[.agg #[bW,bH,.slice (some ⟨R,0,none⟩) (bW*bH) (bW*bH)],.int .i64 0]) (by simp[results,Tryz.results35,go_sem,kr]) rfl ⟨_,rfl,⟨R,rfl,?_,HRl.out,by have:=HRn.out;omega⟩,?_⟩
  ·have:=HRn.out;exact ((HR.out.far (by simp;omega) _).far (by simp;omega) _).far (by simp;omega) _
  ·exact ((((aFk.alloc _).trans hb9).setCell (by simp;omega) _).setCell (by simp;omega) _).setCell (by simp;omega) _
end Go.Proofs.YtllefinciimffaaGreatDoor
