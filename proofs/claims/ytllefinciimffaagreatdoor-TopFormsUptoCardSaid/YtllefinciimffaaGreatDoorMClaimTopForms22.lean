import Derived.Test.YtllefinciimffaaGreatDoorMClaimTopForms12
import Derived.Test.YtllefinciimffaaGreatDoorMClaimTopForms14
import Derived.LaidSub
import Derived.LaidMore
import Derived.LaidLaws
import Derived.Lib.LaidTab
import Derived.Lay
import Derived.Deep.CutRange
set_option maxHeartbeats 20000000
set_option maxRecDepth 100000
namespace Go.Proofs.YtllefinciimffaaGreatDoor
open Go.RowKit Go.Shelf
theorem aA1 {w:World} {g:Nat} {ts:List (List UInt8)} {i:Nat} {x:List UInt8} (h:Reads w 1 (some ⟨g,0,none⟩) ts.length (bE ts)) (hi:ts[i]? = some x):w.cell? ⟨g,i,none⟩=some (.string ⟨x.toArray⟩):=by
 obtain ⟨ad,e,hc⟩:=kS h hi;obtain rfl:=aLZ e;have e2:(⟨g,0,none⟩:Addr).add i=⟨g,i,none⟩:=(by unfold Addr.add;split<;>simp_all);rw[e2] at hc;exact hc
theorem O6 : ∀ (ws : List (List UInt8)) (x : List UInt8), x ∈ ws → x.length ≤ (LU ws).length
 |[],x,h=>by cases h
 |[y],x,h=>by rw[aLQ.1 h];exact Nat.le_refl _
 |y :: z :: l,x,h=>by
  show x.length≤(y++32 :: LU (z :: l)).length;rw[aLy,aLB];rcases aLN.1 h with rfl|h
  ·omega
  ·have:=O6 (z :: l) x h;omega
theorem JO {s:ByteArray} (h:¬s.size≤2):IZ s.data.toList=none:=by
 have hl:=Lib.size_eq s;unfold IZ;split
 ·rw[if_neg (by omega)]
 ·rfl
theorem JP {s:ByteArray} (h:s.size≤2):Lib.atoiAll s.data.toList=Lib.NumEnd.ofOption (Lib.atoi s.data.toList):=Lib.atoiAll_short _ (by have hl:=Lib.size_eq s;omega)
theorem aDg {s r:ByteArray} {v:Int} (hv:Lib.atoiAll s.data.toList=.ok v) (h9:s.size≤2) (hr:r=⟨(Lib.itoa v).toArray⟩):(IZ s.data.toList).isSome=(decide (0≤v)&&(r.toList==s.toList))∧∀n:Nat,IZ s.data.toList=some n→v=n:=by
 have h:=JP h9;rw[hv] at h;have hl:=Lib.size_eq s;have ha:Lib.atoi s.data.toList=some v:=by
  cases ha:Lib.atoi s.data.toList with
  |none=>rw[ha] at h;cases h
  |some x=>rw[ha] at h;exact congrArg some (Lib.NumEnd.ok.inj h).symm
 have hb:(r.toList==s.toList)=decide (Lib.itoa v=s.data.toList):=by
  rw[Lib.toList_data,Lib.toList_data,hr,Bool.eq_iff_iff,beq_iff_eq,decide_eq_true_eq]
 unfold IZ;rw[ha,hb];simp only;by_cases c:0≤v∧Lib.itoa v=s.data.toList
 ·rw[if_pos ⟨by omega,c.1,c.2⟩,aLX c.1,aLX c.2];exact ⟨rfl,fun n hn=>by have:=aLZ hn;omega⟩
 ·rw[if_neg (fun x=>c ⟨x.2.1,x.2.2⟩)];refine ⟨?_,fun n hn=>by cases hn⟩;rw[←Bool.decide_and,aLW c];rfl
def CountRes (s:List UInt8) (w:World) (e:Ending) (w':World):Prop:=∃v:Int,e=.returned (.tuple #[v,.bool (IZ s).isSome])∧(∀n:Nat,IZ s=some n→v=n)∧Bl w w'
theorem WW (s:ByteArray) (w:World) (hs:s.size≤281474976710656) (hN:NumOk w) :
 Calls Tryz.prog 163 #[.string s] w (CountRes s.data.toList w):=by
 have HN:=aLa hN;clear hN;by_cases hok:∃v,Lib.atoiAll s.data.toList=.ok v
 ·obtain ⟨v,hv⟩:=hok;obtain ⟨v0,v1⟩:=Lib.atoiAll_bounds hv;have hA:=aLa (fun w=>aC2 s hs v hv w);have Hv:=aLa hv;clear hv;by_cases h9:s.size≤2
  ·obtain ⟨r,hr⟩:=aLt (⟨(Lib.itoa v).toArray⟩:ByteArray);have HNA:=aLa (aDg Hv.out h9 hr);by_cases hp:0≤v
   ·have HI:Hid (∀w,NumOk w→Calls Tryz.prog 60 #[.int .i64 v] w fun e w'=>e=.returned (.string r)∧Bl w w'):=aLa (by
     rw[hr];exact fun w hN=>aAI v v0 v1 w hN)
    clear hr;cases hrs:(r.toList==s.toList)
    all_goals
     have Hrs:=aLa hrs
     go_in
     go_wp2_with (go_at_call 168;refine (hA.out _).mono ?_;rintro e w1 ⟨rfl,hb1⟩);go_wp2_with (go_at_call 60;refine (HI.out _ (HN.out.bl hb1)).mono ?_;rintro e w2 ⟨rfl,hb2⟩)
     go_ret2
     refine ⟨v,?_,HNA.out.2,hb1.trans hb2⟩;rw[HNA.out.1,Hrs.out,aLX hp]
     first
      | rfl
      | (simp;done)
   ·have HX:=aLa (show (IZ s.data.toList).isSome=false by rw[HNA.out.1,aLW hp];rfl);clear hr
    go_in
    go_wp2_with (go_at_call 168;refine (hA.out _).mono ?_;rintro e w1 ⟨rfl,hb1⟩)
    go_ret2
    exact ⟨v,by rw[HX.out];rfl,HNA.out.2,hb1⟩
  ·have HX:=aLa (JO h9)
   go_in
   go_wp2_with (go_at_call 168;refine (hA.out _).mono ?_;rintro e w1 ⟨rfl,hb1⟩)
   go_ret2
   exact ⟨v,by rw[HX.out];rfl,(fun n h=>by rw[HX.out] at h;cases h),hb1⟩
 ·have wW:∀v,Lib.atoiAll s.data.toList≠.ok v:=fun v h=>hok ⟨v,h⟩;have HX:Hid (IZ s.data.toList=none):=aLa (by
   by_cases h9:s.size≤2
   ·have:=JP h9;unfold IZ;cases ha:Lib.atoi s.data.toList with
    |none=>rfl
    |some v=>rw[ha] at this;exact absurd this (wW v)
   ·exact JO h9)
  have HA:=aLa (fun w hN=>aAJ s hs wW w hN);clear wW hok
  go_in
  go_wp2_with (go_at_call 168;refine (HA.out _ HN.out).mono ?_;rintro e w1 ⟨v,T,N,rfl,hb1⟩)
  go_ret2
  exact ⟨v,by rw[HX.out];rfl,(fun n h=>by rw[HX.out] at h;cases h),hb1⟩
theorem SV {t x:List UInt8} {i:Nat} (h:(cV t)[i]? = some x) (hn:(!x.isEmpty&&tA x)=false):rK t=false:=by
 unfold rK;rw[List.all_eq_false];exact ⟨x,List.mem_of_getElem? h,by rw[hn];decide⟩
theorem WX {t:List UInt8} (h:∀(j:Nat) x,j<(cV t).length→(cV t)[j]? = some x→(!x.isEmpty&&tA x)=true):rK t=true:=by
 unfold rK;rw[aLO];intro x hx;obtain ⟨j,hj⟩:=List.getElem?_of_mem hx;exact h j x (aLw.1 hj).1 hj
theorem SW (t:List UInt8):∀x∈cV t,x.length≤t.length:=fun x hx=>by
 have hj:=(vY _ t (Nat.le_refl _)).2.1;have:=O6 (cV t) x hx
 rwa [hj] at this
theorem JQ : ∀ (l : List (List UInt8)), l.length ≤ (LU l).length + 1
 |[]=>Nat.zero_le _
 |[_]=>by simp
 |x :: y :: l=>by
  have:=JQ (y :: l);show (y :: l).length+1≤(x++32 :: LU (y :: l)).length+1;simp only[aLy,aLB] at this ⊢;omega
theorem MW (t:List UInt8):(cV t).length≤t.length+1:=by
 have hj:=(vY _ t (Nat.le_refl _)).2.1;have:=JQ (cV t)
 rwa [hj] at this
theorem JR (t:List UInt8) (w:World) (hl:t.length<1048577) (hC:SplitOk w):Calls Tryz.prog 164 #[t] w fun e w'=>e=.returned (.bool (rK t))∧Bl w w':=by
 have hsp:=RO t w (by omega) hC;have aBO:=fun i x=>SV (t:=t) (x:=x) (i:=i);have BX:=WX (t:=t);have hle:=SW t;have aCo:=MW t;obtain ⟨V,hV⟩:=aLt (rK t);rw[←hV] at aBO BX ⊢;generalize cV t=ws at hsp aBO BX hle aCo;obtain ⟨Hsp,Hst,aJ8,Hle⟩:=aLc hsp aBO BX hle;clear hsp aBO BX hle hV hC
 go_in
 go_wp2_with fail;refine Hsp.out.mono ?_;rintro e w2 ⟨c,rfl,hr,hb2⟩;have HR:=aLa hr;have Hb2:=aLa hb2;clear hr hb2;go_wp2_with fail
 go_loop [9] (fun u=>∃i:Nat,i≤ws.length∧u=.int .i64 i∧∀(j:Nat) x,j<i→ws[j]? = some x→(!x.isEmpty&&tA x)=true) (fun u=>ws.length-(RowKit.intOf u).toNat)
 case atStart=>exact ⟨0,Nat.zero_le _,rfl,fun j x hj=>absurd hj (Nat.not_lt_zero _)⟩
 case round=>
  obtain ⟨i,hi,rfl,gA⟩:=hrel;have CA:=aLa gA;clear gA;by_cases hlt:i<ws.length
  ·have hg:ws[i]? = some ws[i]:=aLv hlt;obtain ⟨x,hx⟩:=aLt (ws[i]);rw[←hx] at hg;have hc:=aA1 HR.out hg;have hxl:=Hle.out x (List.mem_of_getElem? hg);have hsz:(⟨x.toArray⟩:ByteArray).size=x.length:=Lib.size_mk x;have HG:=aLa hg;clear hg hx;cases he:x.isEmpty with
   |true=>have HX:=aLa (Hst.out i x HG.out (by rw[he];rfl));go_wp2_with fail;go_ret;exact ⟨by rw[HX.out];rfl,Hb2.out⟩
   |false=>
    have He:=aLa he;go_wp2_with fail
    go_loop [17] (fun u=>∃k:Nat,k≤x.length∧u=.int .i64 k∧∀(j:Nat) b,j<k→x[j]? = some b→okC b) (fun u=>x.length-(RowKit.intOf u).toNat)
    case atStart=>exact ⟨0,Nat.zero_le _,rfl,fun j b hj=>absurd hj (Nat.not_lt_zero _)⟩
    case round=>
     obtain ⟨k,hk,rfl,hcs⟩:=hrel;have HC:=aLa hcs;clear hcs;by_cases hlk:k<x.length
     ·have hih:k<(⟨x.toArray⟩:ByteArray).size:=(by rw[hsz];exact hlk);have hgi:=Lib.getElem_mk x k hih;obtain ⟨c',hc'⟩:=aLt ((⟨x.toArray⟩:ByteArray)[k]'hih);rw[←hc'] at hgi;have HGi:=aLa hgi;have hc2:=hc'.symm;clear hc' hgi;by_cases c1:(c'.toNat:Int)<33
      ·have HX:=aLa (Hst.out i x HG.out (by rw[nX HGi.out (show ¬okC c' from fun h=>by unfold okC at h;omega),Bool.and_false]));go_wp2_with fail;go_ret;exact ⟨by rw[HX.out];rfl,Hb2.out⟩
      ·by_cases c3:126<(c'.toNat:Int)
       ·have HX:=aLa (Hst.out i x HG.out (by rw[nX HGi.out (show ¬okC c' from fun h=>by unfold okC at h;omega),Bool.and_false]));go_wp2_with fail;go_ret;exact ⟨by rw[HX.out];rfl,Hb2.out⟩
       ·have HO:=aLa (show okC c' from ⟨by omega,by omega⟩);go_wp2_with fail;exact ⟨⟨k+1,hlk,by go_num,fun j b hj hb=>by
         rcases Nat.lt_succ_iff_lt_or_eq.1 hj with h|rfl
         ·exact HC.out j b h hb
         ·rw[HGi.out] at hb;obtain rfl:=aLZ hb;exact HO.out⟩,by simp[RowKit.intOf];omega⟩
     ·obtain rfl:k=x.length:=(by omega);have HE:=aLa (CT HC.out);go_wp2_with fail;exact ⟨⟨i+1,hlt,by go_num,fun j b hj hb=>by
       rcases Nat.lt_succ_iff_lt_or_eq.1 hj with h|rfl
       ·exact CA.out j b h hb
       ·rw[HG.out] at hb;obtain rfl:=aLZ hb;rw[He.out,HE.out];rfl⟩,by simp[RowKit.intOf];omega⟩
  ·obtain rfl:i=ws.length:=(by omega);have HX:=aLa (aJ8.out CA.out);go_wp2_with fail;go_ret;exact ⟨by rw[HX.out];rfl,Hb2.out⟩
end Go.Proofs.YtllefinciimffaaGreatDoor
namespace Go.Proofs.YtllefinciimffaaGreatDoor
open Go.RowKit
theorem sA (f:Fld) (fs:List Fld) (nm:List UInt8):gO (f :: fs) nm=if f.name=nm then some f.kind else gO fs nm:=by
 unfold gO;rw[List.find?_cons];by_cases h:f.name=nm
 ·rw[aLX h,if_pos h];rfl
 ·rw[aLW h,if_neg h]
theorem MX {fs:List Fld} {nm:List UInt8} (h:∀l∈fs,lJ nm l=false):gO fs nm=none:=by
 induction fs with
 |nil=>rfl
 |cons f fs ih=>rw[sA,if_neg (of_decide_eq_false (h f (by simp)))];exact ih fun l hl=>h l (List.mem_cons_of_mem _ hl)
theorem JS : ∀ {fs : List Fld} {nm : List UInt8} {j : Nat} {l : Fld}, fs[j]? = some l → lJ nm l = true → (∀ j' l', j' < j → fs[j']? = some l' → lJ nm l' = false) → gO fs nm = some l.kind
 |[],_,_,_,h,_,_=>by simp at h
 |f :: fs,nm,0,l,h,hp,_=>by
  simp only[aLT,Option.some.injEq] at h;subst h;rw[sA,if_pos (aLY hp)]
 |f :: fs,nm,j+1,l,h,hp,hn=>by
  have h0:=hn 0 f (Nat.succ_pos _) rfl;rw[sA,if_neg (of_decide_eq_false h0)];exact JS (by simpa using h) hp fun j' l' hj hl=>hn (j'+1) l' (by omega) (by simpa using hl)
theorem zJ {fs:List Fld} {nm:List UInt8} {i:Int} (h:FirstG fs (lJ nm) i):(i<0∧gO fs nm=none)∨∃(j:Nat) (l:Fld),i=(j:Int)∧fs[j]? = some l∧gO fs nm=some l.kind:=by
 rcases h with ⟨rfl,h⟩|⟨j,l,rfl,hl,hp,hn⟩
 ·exact .inl ⟨by omega,MX h⟩
 ·exact .inr ⟨j,l,rfl,hl,JS hl hp hn⟩
end Go.Proofs.YtllefinciimffaaGreatDoor
namespace Go.Proofs.YtllefinciimffaaGreatDoor
def lT (fs:List Fld) (nm:List UInt8):Option Fld:=fs.find? (lJ nm)
theorem SX {fs:List Fld} {nm:List UInt8} (h:∀l∈fs,lJ nm l=false):lT fs nm=none:=by
 unfold lT;rw[List.find?_eq_none];intro l hl;rw[h l hl];decide
theorem O7 : ∀ {fs : List Fld} {nm : List UInt8} {j : Nat} {l : Fld}, fs[j]? = some l → lJ nm l = true → (∀ j' l', j' < j → fs[j']? = some l' → lJ nm l' = false) → lT fs nm = some l
 |[],_,_,_,h,_,_=>by simp at h
 |f :: fs,nm,0,l,h,hp,_=>by
  simp only[aLT,Option.some.injEq] at h;subst h;unfold lT;rw[List.find?_cons,hp]
 |f :: fs,nm,j+1,l,h,hp,hn=>by
  have h0:=hn 0 f (Nat.succ_pos _) rfl;unfold lT;rw[List.find?_cons,h0];exact O7 (by simpa using h) hp fun j' l' hj hl=>hn (j'+1) l' (by omega) (by simpa using hl)
theorem uZ {fs:List Fld} {nm:List UInt8} {i:Int} (h:FirstG fs (lJ nm) i):(i<0∧lT fs nm=none)∨∃(j:Nat) (l:Fld),i=(j:Int)∧fs[j]? = some l∧lT fs nm=some l:=by
 rcases h with ⟨rfl,h⟩|⟨j,l,rfl,hl,hp,hn⟩
 ·exact .inl ⟨by omega,SX h⟩
 ·exact .inr ⟨j,l,rfl,hl,O7 hl hp hn⟩
def iH (w0 : Bool) (l : List Int) : Nat → Bool
 |0=>w0
 |j+1=>iH w0 l j||(decide (1≤j)&&decide (l.getD j 0≤l.getD (j-1) 0))
theorem sB (w0:Bool) (l:List Int):iH w0 l 1=w0:=by show (w0||(decide (1≤0)&&_))=w0;simp
theorem wM (w0:Bool) (l:List Int) {j:Nat} (hj:1≤j):iH w0 l (j+1)=(iH w0 l j||decide (l.getD j 0≤l.getD (j-1) 0)):=by
 show (iH w0 l j||(decide (1≤j)&&decide (l.getD j 0≤l.getD (j-1) 0)))=_;rw[aLX hj,Bool.true_and]
theorem fD {w0:Bool} {l:List Int} {j:Nat} (h:iH w0 l j=true):∀n,j≤n→iH w0 l n=true:=by
 intro n hn;induction n with
 | zero => obtain rfl : j = 0 := by omega
           exact h
 |succ n ih=>
  rcases Nat.lt_or_ge n j with h1|h1
  ·obtain rfl:j=n+1:=(by omega);exact h
  ·show (iH w0 l n||_)=true;rw[ih h1,Bool.true_or]
def rM (x:Fld) (v:Vlu):Bool:=(bL x.kind&&!v.text.isEmpty)||((!bL x.kind&&decide (0<v.marks.length))||(decide (x.kind=3)&&decide (1<v.marks.length)))
def mN (x:Fld) (l:List Int):Int:=aF (l.any fun m => !inB m 0 ((x.marks.length:Int)-1)) 3
theorem pT (a b:Int):aG [a,b]=if a=0 then b else a:=by
 by_cases ha:a=0
 ·rw[iN ha,if_pos ha];show (if b=0 then 0 else b)=b;split
  ·rename_i h;rw[h]
  ·rfl
 ·rw[bK ha,if_neg ha]
end Go.Proofs.YtllefinciimffaaGreatDoor
namespace Go.Proofs.YtllefinciimffaaGreatDoor
open Go.RowKit
def eU (x:Fld) (v:Vlu):Bool:=!decide (v.sure=0)||rM x v
def bB (x:Fld) (v:Vlu):Bool:=iH (eU x v) v.marks (max 1 v.marks.length)
def cP (fs:List Fld) (tw:Bool) (v:Vlu):Int:=match lT fs v.field with
 |none=>10
 |some x=>aG [aF tw 6,aF (bB x v) 2,mN x v.marks]
def rN (W X Y w : Nat) : Nat → Nat → Bool
 |0,_=>false
 |i+1,k=>rN W X Y w i k||decide (k=(Y+i / w)*W+(X+i % w))
theorem DG (W X Y w k : Nat) : ∀ n, rN W X Y w n k = true ↔ ∃ i, i < n ∧ k = (Y + i / w) * W + (X + i % w)
 |0=>by
  constructor
  ·intro h;cases h
  ·rintro ⟨i,hi,-⟩;omega
 |n+1=>by
  show (rN W X Y w n k||decide _)=true↔_;rw[Bool.or_eq_true,DG W X Y w k n,decide_eq_true_eq];constructor
  ·rintro (⟨i,hi,e⟩|e)
   ·exact ⟨i,by omega,e⟩
   ·exact ⟨n,Nat.lt_succ_self n,e⟩
  ·rintro ⟨i,hi,e⟩;rcases Nat.lt_succ_iff_lt_or_eq.1 hi with h|rfl
   ·exact .inl ⟨i,h,e⟩
   ·exact .inr e
theorem SY {W X Y w h k:Nat} (hw:1≤w) (hX:X+w≤W):rN W X Y w (w*h) k=decide (X≤k % W∧k % W<X+w∧Y≤k / W∧k / W<Y+h):=by
 rw[Bool.eq_iff_iff,DG,decide_eq_true_eq];constructor
 ·rintro ⟨i,hi,e⟩;have h1:i % w<w:=Nat.mod_lt _ hw;have h2:i / w<h:=Nat.div_lt_of_lt_mul hi;generalize i % w=p at h1 e;generalize i / w=q at h2 e;have h3:X+p<W:=(by omega);have e1:k % W=X+p:=(by rw[e,Nat.mul_comm,Nat.mul_add_mod,Nat.mod_eq_of_lt h3]);have e2:k / W=Y+q:=(by rw[e,Nat.mul_comm,Nat.mul_add_div (by omega),Nat.div_eq_of_lt h3,Nat.add_zero]);rw[e1,e2];omega
 ·rintro ⟨a1,a2,a3,a4⟩;have hdm:=Nat.div_add_mod k W;obtain ⟨p,hp⟩:∃p,k % W=X+p:=⟨k % W-X,by omega⟩;obtain ⟨q,hq⟩:∃q,k / W=Y+q:=⟨k / W-Y,by omega⟩;rw[hp,hq] at hdm;rw[hp] at a1 a2;rw[hq] at a3 a4;have hpw:p<w:=(by omega);have hqh:q<h:=(by omega);refine ⟨q*w+p,?_,?_⟩
  ·have:=eD hpw hqh;exact this
  ·have e1:(q*w+p) % w=p:=(by rw[Nat.mul_comm,Nat.mul_add_mod,Nat.mod_eq_of_lt hpw]);have e2:(q*w+p) / w=q:=(by rw[Nat.mul_comm,Nat.mul_add_div (by omega),Nat.div_eq_of_lt hpw,Nat.add_zero]);rw[e1,e2,Nat.mul_comm (Y+q) W];omega
def pU (b:Bx) (u v:Nat):Bool:=decide (b.X≤(u:Int)∧(u:Int)<b.X+b.W∧b.Y≤(v:Int)∧(v:Int)<b.Y+b.H)
def aA2 (pg:List Bool) (W:Nat) (b:Bx) (u v:Nat):Bool:=pix pg W u v||pU b u v
def BL (W H:Nat) (pg:List Bool) (b:Bx):List Bool:=eS W H (aA2 pg W b)
theorem SZ {W H X Y w h:Nat} {pg:List Bool} {b:Bx} (hb:b=⟨X,Y,w,h⟩) (hw:1≤w) (hX:X+w≤W):lD (W*H) (fun k=>pg.getD k false||rN W X Y w (w*h) k)=((BL W H pg b).map Value.bool).toArray:=by
 unfold lD BL eS;rw[aMg]
 congr 1
 refine List.map_congr_left fun k hk => ?_;show Value.bool (pg.getD k false||rN W X Y w (w*h) k)=Value.bool (aA2 pg W b (k % W) (k / W));have e:k / W*W+k % W=k:=(by rw[Nat.mul_comm];exact Nat.div_add_mod k W);unfold aA2 pU pix;rw[e,SY hw hX,hb]
 congr 2
 rw[decide_eq_decide];simp only;omega
def dB (W H : Nat) (x : Fld) (l : List Int) (pg : List Bool) : Nat → List Bool
 |0=>pg
 |i+1=>match l[i]? with
  |none=>dB W H x l pg i
  |some n=>match x.marks[n.toNat]? with
   |none=>dB W H x l pg i
   |some b=>BL W H (dB W H x l pg i) b
theorem JT {W H:Nat} {x:Fld} {l:List Int} {pg:List Bool} {i n:Nat} {b:Bx} (h1:l[i]? = some (n:Int)) (h2:x.marks[n]? = some b):dB W H x l pg (i+1)=BL W H (dB W H x l pg i) b:=by
 show (match l[i]? with|none=>_|some n=>_)=_;rw[h1];simp only[aL8,h2]
theorem WY (W H:Nat) (pg:List Bool) (b:Bx):(BL W H pg b).length=W*H:=fI _ _ _
theorem sC {W H : Nat} {x : Fld} {l : List Int} {pg : List Bool} (h : pg.length = W * H) : ∀ i, (dB W H x l pg i).length = W * H
 |0=>h
 |i+1=>by
  have ih:=sC (x:=x) (l:=l) h i;show (match l[i]? with|none=>_|some n=>_:List Bool).length=_;split
  ·exact ih
  ·split
   ·exact ih
   ·exact WY _ _ _ _
theorem aA3 {W H:Nat} {pg:List Bool} (h:pg.length=W*H):(pg.map Value.bool).toArray=lD (W*H) (fun k=>pg.getD k false):=by
 unfold lD
 congr 1
 refine List.ext_getElem? fun k => ?_;rw[aLG,aLG];by_cases hk:k<W*H
 ·rw[aMd hk,aLv (by omega)];show some (Value.bool _)=some (Value.bool (pg.getD k false));rw[aLx,aLv (show k<pg.length by omega)];rfl
 ·rw[aL5 (show pg.length≤k by omega),aL5 (by simpa using Nat.le_of_not_lt hk)];rfl
end Go.Proofs.YtllefinciimffaaGreatDoor
namespace Go.Proofs.YtllefinciimffaaGreatDoor
open Go.ChangeShapes Go.WideShapes Go.ChangeAt Go.RowKit Go.Joins Go.Shelf
theorem oU {l : List (String × DataW Unit)} {W : World} {n nm : String} {D : DataW Unit} (hl : (l.filter fun e => e.1 == n) = [(n, .iface nm D)]) (hp : laidMetH Tryz.prog [(n, .iface nm D)] W ↔ laidMet Tryz.prog [(n, .iface nm D)] W)
 (hty:((Tryz.prog.globalNamed n).bind fun g=>(Tryz.prog.globals[g]?).map (·.type))=some 96) (h:laidMetH Tryz.prog l W):∃t p,W.var? Tryz.prog n=some #[.iface t p]:=by
 have h:=h.filter (fun e=>e.1==n);rw[hl] at h;obtain ⟨ps,⟨g,t,cs,fuel,p,q,hg,ht,hv,hd,_,_⟩,_,_⟩:=hp.1 h;rw[hg,Option.bind_some,ht] at hty;obtain rfl:=aLZ hty;obtain ⟨f',u,v,hcs,-,-⟩:=iface_of_trod Tryz.underlying96 hd;refine ⟨u,v,?_⟩;rw[hv]
 congr 1
 apply Array.ext';simpa using hcs
theorem FU {l : List (String × DataW Unit)} {W : World} (h1 : (l.filter fun e => e.1 == "strconv.ErrSyntax") = [("strconv.ErrSyntax", Rows.laid_strconv_ErrSyntax)]) (h2 : (l.filter fun e => e.1 == "strconv.ErrRange") = [("strconv.ErrRange", Rows.laid_strconv_ErrRange)])
 (h3:(l.filter fun e=>e.1 == "internal/strconv.uint64pow10")=[("internal/strconv.uint64pow10",Rows.laid_internal_strconv_uint64pow10)]) (h:laidMetH Tryz.prog l W):NumOk W where
 syn:=oU h1 (by rw[MakeChecks.laidMetH_plain _ _ _ (by kernel_rfl)]) (by kernel_rfl) h
 ran:=oU h2 (by rw[MakeChecks.laidMetH_plain _ _ _ (by kernel_rfl)]) (by kernel_rfl) h
 tab:=by
  have h:=h.filter (fun e=>e.1 == "internal/strconv.uint64pow10");rw[h3,MakeChecks.laidMetH_plain _ _ _ (by kernel_rfl)] at h;obtain ⟨g,hg⟩:=Option.isSome_iff_exists.1 (show (Tryz.prog.globalNamed "internal/strconv.uint64pow10").isSome=true by kernel_rfl);have hty:((Tryz.prog.globalNamed "internal/strconv.uint64pow10").bind fun g=>(Tryz.prog.globals[g]?).map (·.type))=some 320:=(by kernel_rfl);rw[hg,Option.bind_some] at hty;exact Lib.tabIs_of_head (zs:=Lib.pow10Tab) hg hty Tryz.underlying320 Tryz.underlying270 (by kernel_rfl) (by kernel_rfl) h
end Go.Proofs.YtllefinciimffaaGreatDoor
namespace Go.Proofs.YtllefinciimffaaGreatDoor
open Go.RowKit Go.Shelf
def eO (r:Rul):List (List UInt8):=if V6 r.kind=true then [r.field,r.other] else [r.field]
def iI (fs:List Fld) (k:Int) (nm:List UInt8):Bool:=!decide (k=1)&&(bL ((gO fs nm).getD 0) != decide (k=6))
def sD (r:Rul):Bool:=(!V6 r.kind&&!r.other.isEmpty)||((!SB r.kind&&!r.text.isEmpty)||((decide (r.kind=3)&&!rK r.text)||(decide (r.kind=6)&&(IZ r.text).isNone)))
theorem pV (fs:List Fld) (r:Rul):gW fs r=aG [aF (!inB r.kind 1 6) 1,aF ((eO r).any fun n=>decide (gO fs n=none)) 10,aF ((eO r).any (iI fs r.kind)) 1,aF (sD r) 2]:=by
 unfold gW eO sD;cases h:V6 r.kind with
 |false=>simp[iI]
 |true=>have hk:r.kind=4∨r.kind=5:=(by unfold V6 at h;simpa using h);have h1:decide (r.kind=1)=false:=aLW (by omega);have h6:decide (r.kind=6)=false:=aLW (by omega);simp[iI,h1,h6]
theorem aDh {w:World} {e:TypeId} {xs:List Value} {base:Nat} (hb:base≤w.heap.size) (h:xs.length≤maxLen):(w.alloc (.cells xs.toArray e)).ownsRow base e 1 (.slice (some ⟨w.heap.size,0,none⟩) xs.length xs.length) xs.length xs:=by
 refine ⟨by simp,.inr ⟨w.heap.size,xs.length,xs.toArray,rfl,hb,(MapKept.heap_alloc w _).1,Nat.le_refl _,h,by simp,by simp⟩⟩
theorem zK {fs:List Fld} {r:Rul} (h:inB r.kind 1 6=false):gW fs r=1:=by unfold gW;rw[h];rfl
theorem MZ {fs:List Fld} {r:Rul} {n:List UInt8} (h:inB r.kind 1 6=true) (hn:n∈eO r) (hk:gO fs n=none):gW fs r=10:=by
 rw[pV,h,show ((eO r).any fun n=>decide (gO fs n=none))=true from aLP.2 ⟨n,hn,aLX hk⟩];rfl
theorem DI {fs:List Fld} {r:Rul} {n:List UInt8} (h:inB r.kind 1 6=true) (ha:∀x∈eO r,gO fs x≠none) (hn:n∈eO r) (hk:iI fs r.kind n=true):gW fs r=1:=by
 rw[pV,h,show ((eO r).any fun n=>decide (gO fs n=none))=false from List.any_eq_false.2 fun x hx=>by simp[ha x hx],show (eO r).any (iI fs r.kind)=true from aLP.2 ⟨n,hn,hk⟩];rfl
theorem M0 {fs:List Fld} {r:Rul} (h:inB r.kind 1 6=true) (ha:∀x∈eO r,gO fs x≠none) (hb:∀x∈eO r,iI fs r.kind x=false):gW fs r=aF (sD r) 2:=by
 rw[pV,h,show ((eO r).any fun n=>decide (gO fs n=none))=false from List.any_eq_false.2 fun x hx=>by simp[ha x hx],show (eO r).any (iI fs r.kind)=false from List.any_eq_false.2 fun x hx=>by rw[hb x hx];decide];cases sD r<;>rfl
theorem WZ (o two t tk k3 wd k6 nb : Bool) : (o = false ∧ two = false) ∨
 (((o=true)∨(o=false∧two=true))∧((t=false∧tk=false)∨(((t=true)∨(t=false∧tk=true))∧((k3=true∧wd=false)∨(k3=true∧wd=true∧k6=false)∨(k3=true∧wd=true∧k6=true)∨(k3=false∧k6=false)∨(k3=false∧k6=true∧nb=false)∨(k3=false∧k6=true∧nb=true))))):=by
 cases o<;>cases two<;>cases t<;>cases tk<;>cases k3<;>cases wd<;>cases k6<;>cases nb<;>decide
theorem FW {r:Rul} {o two t tk k3 wd k6 nb:Bool} (h1:r.other.isEmpty=o) (h2:V6 r.kind=two) (h3:r.text.isEmpty=t) (h4:SB r.kind=tk) (h5:(r.kind==3)=k3) (h6:rK r.text=wd) (h7:(r.kind==6)=k6) (h8:(IZ r.text).isSome=nb) :
 sD r=((!two&&!o)||((!tk&&!t)||((k3&&!wd)||(k6&&!nb)))):=by
 unfold sD;subst h1 h2 h3 h4 h5 h6 h7 h8;have e:(IZ r.text).isNone = !(IZ r.text).isSome:=(by cases IZ r.text<;>rfl);rw[e];have e3:decide (r.kind=3)=(r.kind==3):=(by rw[Bool.eq_iff_iff];simp);have e6:decide (r.kind=6)=(r.kind==6):=(by rw[Bool.eq_iff_iff];simp);rw[e3,e6]
theorem FX (f:Frm) (r:Rul) (w:World) (hF:FrmAt w f) (h3:r.text.length≤1048576) (hN:NumOk w) (hC:SplitOk w) :
 Calls Tryz.prog 112 #[f.val,r.val] w fun e w'=>e=.returned (.int .i64 (gW f.lf r))∧Bl w w':=by
 obtain ⟨nm,fW,fH,reach,dark,AL,ac,la,FL,fc,lf,RL,rc,lr⟩:=f;obtain ⟨RE,hRE⟩:=aLt (gW lf r);show Calls _ _ _ w fun e w'=>e=.returned (.int .i64 (gW lf r))∧Bl w w';rw[←hRE];have HRE:=aLa hRE;let w1:=((w).alloc (.cells #[nm,fW,fH,reach,dark,.slice AL la.length ac,.slice FL lf.length fc,.slice RL lr.length rc] 26)).alloc (.cells #[r.kind,r.field,r.other,r.text] 104);obtain ⟨w1b,w11,w12⟩:=aLi (x:=w1) w _ _ _ _ rfl;have hfa:=fun (n:List UInt8) wx (hF:FrmAt wx ⟨nm,fW,fH,reach,dark,AL,ac,la,FL,fc,lf,RL,rc,lr⟩)=>rY _ n wx hF;unfold Frm.val at hfa;obtain ⟨HF,HN,HC,Hfa⟩:=aLc (hF.bl w1b) (hN.bl w1b) (hC.bl w1b) hfa;have k1:=w11.all8;have k2:=w12.all4;have lw1:w1.heap.size=w.heap.size+2:=(by simp[w1]);have hln:lf.length≤9223372036854775807:=hF.fn.2;have dV:=aLa w1b;unfold Frm.val Rul.val;clear hF hN hC hRE hfa w1b
 go_in
 by_cases hk1:r.kind<1
 ·have HX:=aLa (zK (fs:=lf) (dC.2 (.inl hk1)));go_wp2_with fail;go_ret;exact ⟨by rw[HRE.out,HX.out];rfl,dV.out⟩
 by_cases hk6:6<r.kind
 ·have HX:=aLa (zK (fs:=lf) (dC.2 (.inr hk6)));go_wp2_with fail;go_ret;exact ⟨by rw[HRE.out,HX.out];rfl,dV.out⟩
 have HK:=aLa (aR.2 (show 1≤r.kind∧r.kind≤6 by omega));obtain ⟨ns,hns⟩:=aLt (eO r);obtain ⟨two,aHb⟩:=aLt (V6 r.kind);have huo:=fun wx=>FJ r.kind wx;rw[←aHb] at huo;obtain ⟨Huo,Hns,aHc⟩:=aLb huo hns aHb;clear huo hns aHb;go_upto_region 4 with fail;obtain ⟨wn,hwn⟩:=aLt (w1.alloc (.cells #[r.field] 9));have cA:wn.ownsRow w1.heap.size 9 1 (.slice (some ⟨w1.heap.size,0,none⟩) 1 1) 1 (bE [r.field]):=(by rw[hwn];exact aDh (xs:=[.string ⟨r.field.toArray⟩]) (Nat.le_refl _) (by simp[maxLen]));have hbn:=aLn hwn;rw[show w.heap.size+2=w1.heap.size from lw1.symm,←hwn];have hrd:Reads wn 1 (some ⟨w1.heap.size,0,none⟩) 1 (bE [r.field]):=(by rw[hwn];exact (Blk.new w1 _ _).reads 1 1 rfl);obtain ⟨HOw,Hbn,HRd⟩:=aLb cA hbn hrd;have k1:=(w11.bl hbn).all8;have k2:=(w12.bl hbn).all4;clear hwn cA hbn hrd lw1;clear_value w1;go_upto_if 25 with (go_at_call 46;refine (Huo.out _).mono ?_;rintro e w' ⟨rfl,rfl⟩);go_cut [5] from 26 to 31 (fun s wc=>∃A c,s=.slice A ns.length c∧Reads wc 1 A ns.length (bE ns)∧Bl w1 wc);case first=>
  cases two with
  |false=>have Hn1:=aLa (show ns=[r.field] by rw[Hns.out];unfold eO;rw[←aHc.out];rfl);go_wp2_with fail;go_meet;case rel=>exact ⟨_,1,by rw[Hn1.out];rfl,by rw[Hn1.out];exact HRd.out,Hbn.out⟩
  |true=>have Hn1:=aLa (show ns=[r.field,r.other] by rw[Hns.out];unfold eO;rw[←aHc.out];rfl);go_wp2_with (at_builtin;refine dJ (w1:=w1) rfl (.tmp 26) (.tmp 29) 105 rfl 9 (.string ByteArray.empty) 16 Tryz.underlying105 EL rfl w1.heap.size _ 1 (bE [r.field]) rfl (.string ⟨r.other.toArray⟩) rfl rfl Hbn.out (Nat.le_refl _) Hbn.out.le HOw.out (by omega) (by unfold maxLen;omega) ?_;intro v' w8 cF hb8 hg8;obtain ⟨A8,c8,rfl,hr8⟩:=cU cF;have HR8:=aLa hr8;have Hb8:=aLa hb8;clear cF hb8 hg8 hr8);go_meet;case rel=>exact ⟨A8,c8,by rw[Hn1.out];rfl,by rw[Hn1.out];exact HR8.out,Hb8.out⟩
 case rest=>
 rename World=>wd;obtain ⟨A,c,rfl,hr,hbd⟩:=hcut;have HR:=aLa hr;have Hbd:=aLa hbd;have hnl:ns.length≤2:=(by rw[Hns.out];unfold eO;split<;>simp);have hnp:0<ns.length:=(by rw[Hns.out];unfold eO;split<;>simp);obtain ⟨ad,rfl,-⟩:=hr.2 hnp;clear hr hbd HOw HRd;go_wp2_with fail;go_loopw [33] (fun u wr=>∃i:Nat,i≤ns.length∧u=.int .i64 i∧Bl wd wr∧∀(j:Nat) x,j<i→ns[j]? = some x→gO lf x≠none) (fun u _=>ns.length-(RowKit.intOf u).toNat);case atStart=>exact ⟨0,Nat.zero_le _,rfl,Bl.refl _,fun j x hj=>absurd hj (Nat.not_lt_zero _)⟩
 case round=>
  obtain ⟨i,hi,rfl,hbr,gA⟩:=hrel;have CA:=aLa gA;have Hbr:=aLa hbr;have k1:=(w11.bl (Hbd.out.trans hbr)).all8;have k2:=(w12.bl (Hbd.out.trans hbr)).all4;clear gA hbr;by_cases hlt:i<ns.length
  ·have hg:ns[i]? = some ns[i]:=aLv hlt;obtain ⟨x,hx⟩:=aLt (ns[i]);rw[←hx] at hg;obtain ⟨ad',e1,hc⟩:=kS (HR.out.bl Hbr.out) hg;obtain rfl:=aLZ e1;have HG:=aLa hg;clear hg hx e1;go_wp2_with fail;refine (Hfa.out x _ (HF.out.bl (Hbd.out.trans Hbr.out))).mono ?_;rintro e w2 ⟨ix,rfl,hix,hb2⟩;have Hb2:=aLa (Hbr.out.trans hb2);rcases zJ hix with ⟨h0,hk⟩|⟨j,l,rfl,hl,hk⟩
   ·have HX:=aLa (MZ HK.out (by rw[←Hns.out];exact List.mem_of_getElem? HG.out) hk);clear hix hk hb2;go_wp2_with fail;go_ret;exact ⟨by rw[HRE.out,HX.out];rfl,dV.out.trans (Hbd.out.trans Hb2.out)⟩
   ·have HX:=aLa (show gO lf x≠none by rw[hk];intro h;cases h);clear hix hk hb2 hl;go_wp2_with fail;exact ⟨⟨i+1,hlt,by go_num,Hb2.out,fun j' x' hj hx'=>by
     rcases Nat.lt_succ_iff_lt_or_eq.1 hj with h|rfl
     ·exact CA.out j' x' h hx'
     ·rw[HG.out] at hx';obtain rfl:=aLZ hx';exact HX.out⟩,by simp[RowKit.intOf];omega⟩
  ·obtain rfl:i=ns.length:=(by omega);have ZO:=aLa (show ∀x∈eO r,gO lf x≠none from fun x hx=>by
    rw[←Hns.out] at hx;obtain ⟨j,hj⟩:=List.getElem?_of_mem hx;exact CA.out j x (aLw.1 hj).1 hj)
   have hlp:0<lf.length:=by
    have h:=ZO.out r.field (by unfold eO;split<;>simp);cases lf with
    |nil=>exact absurd rfl h
    |cons _ _=>simp
   obtain ⟨adF,hFL,-⟩:=HF.out.flds.1.2 hlp;simp only at hFL;subst hFL;clear CA;go_wp2_with fail;go_loopw [44] (fun u wq=>∃i:Nat,i≤ns.length∧u=.int .i64 i∧Bl wd wq∧∀(j:Nat) x,j<i→ns[j]? = some x→iI lf r.kind x=false) (fun u _=>ns.length-(RowKit.intOf u).toNat);case atStart=>exact ⟨0,Nat.zero_le _,rfl,Hbr.out,fun j x hj=>absurd hj (Nat.not_lt_zero _)⟩
   case round=>
    clear Hbr k1 k2 hi hlt;rename World=>wr0;obtain ⟨i,hi,rfl,hbr,gA⟩:=hrel
    rename_i wq _ _
    have CA:=aLa gA;have Hbr:=aLa hbr;have k1:=(w11.bl (Hbd.out.trans hbr)).all8;have k2:=(w12.bl (Hbd.out.trans hbr)).all4;clear gA hbr;by_cases hlt:i<ns.length
    ·have hg:ns[i]? = some ns[i]:=aLv hlt;obtain ⟨x,hx⟩:=aLt (ns[i]);rw[←hx] at hg;obtain ⟨ad',e1,hc⟩:=kS (HR.out.bl Hbr.out) hg;obtain rfl:=aLZ e1;have HG:=aLa hg;have Hne:=aLa (ZO.out x (by rw[←Hns.out];exact List.mem_of_getElem? hg));clear hg hx e1;by_cases aEe:r.kind=1
     ·have q1:(r.kind != 1)=false:=(by simp[aEe]);have HX:=aLa (show iI lf r.kind x=false by unfold iI;rw[aLX aEe];rfl);clear aEe;go_upto_region 15 with fail;refine aLs [aLq 0,aLq 1,aLq 2,aLq 3,aLq 4,aLq 5,aLq 6,aLq 7,aLq 13,aLq 14,aLq 15,aLr 8,aLq 9,aLq 10,aLq 11,aLr 12,aLq 16,aLq 17] (by kernel_rfl) ?_
      iterate 3
       apply Flow.calm2 _ _ rfl rfl
       ·intro a b c d;obtain ⟨e,f⟩:=b.rule;go_simp;(try go_ints);exact d
       ·intro a b;simp only[sqA];exact b
      apply Flow.mv _ rfl
      ·intro a b;simp only[sqA,Act.eval,sqC];exact b
      iterate 7
       first
        | (apply Flow.pass rfl (by rfl))
        | (apply Flow.calmG _ rfl (by rfl)
           ·intro a b;obtain ⟨e,f⟩:=b.rule;go_simp;all_goals (try rfl))
       simp only[sqA];try go_ints
      apply Flow.move rfl;go_wp2_with fail;first|refine ⟨fun _=>Bl.refl _,?_⟩|refine ⟨Bl.refl _,?_⟩
      iterate 3
       first
        | (apply Flow.pass rfl (by rfl))
        | (apply Flow.calmG _ rfl (by rfl)
           ·intro a b;obtain ⟨e,f⟩:=b.rule;go_simp;all_goals (try rfl))
       simp only[sqA];try go_ints
      apply Flow.move rfl;go_wp2_with fail;first|refine ⟨fun _=>Bl.refl _,?_⟩|refine ⟨Bl.refl _,?_⟩
      first
       | (apply Flow.pass rfl (by rfl))
       | (apply Flow.calmG _ rfl (by rfl)
          ·intro a b;obtain ⟨e,f⟩:=b.rule;go_simp;all_goals (try rfl))
      simp only[sqA];try go_ints
      apply Flow.calm2 _ _ rfl rfl
      ·intro a b c d;obtain ⟨e,f⟩:=b.rule;go_simp;(try go_ints);exact d
      ·intro a b;simp only[sqA];exact b
      refine Flow.done ?_;go_wp2_with fail;exact ⟨⟨i+1,hlt,by go_num,Hbr.out.drew,fun j' x' hj hx'=>by
       rcases Nat.lt_succ_iff_lt_or_eq.1 hj with h|rfl
       ·exact CA.out j' x' h hx'
       ·rw[HG.out] at hx';obtain rfl:=aLZ hx';exact HX.out⟩,by simp[RowKit.intOf];omega⟩
     ·have q1:(r.kind != 1)=true:=(by simp[aEe]);have HK1:=aLa aEe;clear aEe;go_upto_region 15 with fail;refine aLs [aLq 0,aLq 1,aLq 2,aLq 3,aLq 4,aLq 5,aLq 6,aLq 7,aLq 13,aLq 14,aLq 15,aLr 8,aLq 9,aLq 10,aLq 11,aLr 12,aLq 16,aLq 17] (by kernel_rfl) ?_
      iterate 3
       apply Flow.calm2 _ _ rfl rfl
       ·intro a b c d;obtain ⟨e,f⟩:=b.rule;go_simp;(try go_ints);exact d
       ·intro a b;simp only[sqA];exact b
      apply Flow.mv _ rfl
      ·intro a b;simp only[sqA,Act.eval,sqC];exact b
      iterate 7
       first
        | (apply Flow.pass rfl (by rfl))
        | (apply Flow.calmG _ rfl (by rfl)
           ·intro a b;obtain ⟨e,f⟩:=b.rule;go_simp;all_goals (try rfl))
       simp only[sqA];try go_ints
      apply Flow.move rfl;go_wp2_with fail;refine (Hfa.out x _ (HF.out.bl (Hbd.out.trans Hbr.out.drew))).mono ?_;rintro e w2 ⟨ix,rfl,hix,HB1⟩;have hb2:Bl wd w2:=Hbr.out.trans (Bl.ofDrew HB1);have Hb2:=aLa hb2;have hkk:=zJ hix;clear hix;rcases hkk with ⟨h0,hk⟩|⟨j,l,rfl,hl,hk⟩
      ·exact absurd hk Hne.out
      have hjl:=(aLw.1 hl).1;obtain ⟨ad2,e2,j1,j2,j3,j4,j5,j6,j7,j8,j9⟩:=FldsAt.at_ ((HF.out.flds).bl (Hbd.out.trans hb2)) hl;obtain rfl:=aLZ e2;have k1:=(w11.bl (Hbd.out.trans hb2)).all8;have k2:=(w12.bl (Hbd.out.trans hb2)).all4;have Hk:=aLa hk;clear hb2 hk hl e2;go_wp2_with fail;refine ⟨fun _=>(by first|exact HB1|exact Bl.refl _),?_⟩
      iterate 3
       first
        | (apply Flow.pass rfl (by rfl))
        | (apply Flow.calmG _ rfl (by rfl)
           ·intro a b;obtain ⟨e,f⟩:=b.rule;go_simp;all_goals (try rfl))
       simp only[sqA];try go_ints
      apply Flow.move rfl;go_wp2_with fail;refine (mF _ _).mono ?_;rintro e w' ⟨rfl,rfl⟩;go_wp2_with fail;refine ⟨fun _=>(by first|exact HB2|exact Bl.refl _),?_⟩
      first
       | (apply Flow.pass rfl (by rfl))
       | (apply Flow.calmG _ rfl (by rfl)
          ·intro a b;obtain ⟨e,f⟩:=b.rule;go_simp;all_goals (try rfl))
      simp only[sqA];try go_ints
      apply Flow.calm2 _ _ rfl rfl
      ·intro a b c d;obtain ⟨e,f⟩:=b.rule;go_simp;(try go_ints);exact d
      ·intro a b;simp only[sqA];exact b
      refine Flow.done ?_;have hkb:iI lf r.kind x=(bL l.kind != (r.kind==6)):=by
       unfold iI;rw[Hk.out,aLW HK1.out];have e6:decide (r.kind=6)=(r.kind==6):=(by rw[Bool.eq_iff_iff];simp);rw[e6];rfl
      have Hkb:=aLa hkb;clear hkb;cases hm:bL l.kind with
      |true=>
       cases h6:(r.kind==6) with
       |true=>
        have HX:=aLa (show iI lf r.kind x=false by rw[Hkb.out,hm,h6];rfl);go_wp2_with fail;exact ⟨⟨i+1,hlt,by go_num,Hb2.out,fun j' x' hj hx'=>by
         rcases Nat.lt_succ_iff_lt_or_eq.1 hj with h|rfl
         ·exact CA.out j' x' h hx'
         ·rw[HG.out] at hx';obtain rfl:=aLZ hx';exact HX.out⟩,by simp[RowKit.intOf];omega⟩
       |false=>have HX:=aLa (DI HK.out ZO.out (by rw[←Hns.out];exact List.mem_of_getElem? HG.out) (by rw[Hkb.out,hm,h6];rfl));go_wp2_with fail;go_ret;exact ⟨by rw[HRE.out,HX.out];rfl,dV.out.trans (Hbd.out.trans Hb2.out)⟩
      |false=>
       cases h6:(r.kind==6) with
       |true=>have HX:=aLa (DI HK.out ZO.out (by rw[←Hns.out];exact List.mem_of_getElem? HG.out) (by rw[Hkb.out,hm,h6];rfl));go_wp2_with fail;go_ret;exact ⟨by rw[HRE.out,HX.out];rfl,dV.out.trans (Hbd.out.trans Hb2.out)⟩
       |false=>
        have HX:=aLa (show iI lf r.kind x=false by rw[Hkb.out,hm,h6];rfl);go_wp2_with fail;exact ⟨⟨i+1,hlt,by go_num,Hb2.out,fun j' x' hj hx'=>by
         rcases Nat.lt_succ_iff_lt_or_eq.1 hj with h|rfl
         ·exact CA.out j' x' h hx'
         ·rw[HG.out] at hx';obtain rfl:=aLZ hx';exact HX.out⟩,by simp[RowKit.intOf];omega⟩
    ·obtain rfl:i=ns.length:=(by omega);have aHd:=aLa (show ∀x∈eO r,iI lf r.kind x=false from fun x hx=>by
      rw[←Hns.out] at hx;obtain ⟨j,hj⟩:=List.getElem?_of_mem hx;exact CA.out j x (aLw.1 hj).1 hj)
     clear CA;have HTl:=aLa (HRE.out.trans (M0 HK.out ZO.out aHd.out));obtain ⟨TT,hTT⟩:=aLt (sD r);have HTT:=aLa hTT;rw[←hTT] at HTl;obtain ⟨o,ho⟩:=aLu r.other.isEmpty;obtain ⟨t,ht⟩:=aLu r.text.isEmpty;obtain ⟨tk,htk⟩:=aLu (SB r.kind);obtain ⟨k3,hk3⟩:=aLu ((r.kind==3));obtain ⟨wb,hwb⟩:=aLu (rK r.text);obtain ⟨k6,aJ9⟩:=aLu ((r.kind==6));obtain ⟨nb,hnb⟩:=aLu ((IZ r.text).isSome);have HT:=aLa (hTT.trans (FW ho aHc.out.symm ht htk hk3 hwb aJ9 hnb));have hut:=fun wx=>I1 r.kind wx;have haw:=fun wx hC=>JR r.text wx (by omega) hC;have hct:=fun wx hN=>WW ⟨r.text.toArray⟩ wx (by rw[Lib.size_mk];omega) hN;rw[htk] at hut;rw[hwb] at haw;unfold CountRes at hct;simp only[hnb] at hct;obtain ⟨Hut,Haw,Hct⟩:=aLb hut haw hct;clear hut haw hct htk hwb hnb hTT;go_wp2_with fail;refine (Hct.out _ (HN.out.bl (Hbd.out.trans Hbr.out))).mono ?_;rintro e w3 ⟨cv,rfl,-,hb3⟩;have Hb3:=aLa (Hbr.out.trans hb3);have k2:=(w12.bl (Hbd.out.trans Hb3.out)).all4;clear hb3 Hbr k1;go_upto_region 19 with fail;go_cut [112] from 73 to 112 (fun s wc=>s=.bool TT∧Bl wd wc);case first=>
      rcases WZ o two t tk k3 wb k6 nb with ⟨rfl,rfl⟩|⟨rfl|⟨rfl,rfl⟩,⟨rfl,rfl⟩|⟨rfl|⟨rfl,rfl⟩,⟨rfl,rfl⟩|⟨rfl,rfl,rfl⟩|⟨rfl,rfl,rfl⟩|⟨rfl,rfl⟩|⟨rfl,rfl,rfl⟩|⟨rfl,rfl,rfl⟩⟩⟩
      all_goals
       go_wp2_with (first|(go_at_call 46;refine (Huo.out _).mono ?_;rintro e w' ⟨rfl,rfl⟩)|(go_at_call 47;refine (Hut.out _).mono ?_;rintro e w' ⟨rfl,rfl⟩)|(go_at_call 164;refine (Haw.out _ (HC.out.bl (Hbd.out.trans Hb3.out))).mono ?_;rintro e w4 ⟨rfl,hb4⟩;have k2:=(w12.bl (Hbd.out.trans (Hb3.out.trans hb4))).all4));go_meet;case rel=>exact ⟨by rw[HT.out];simp,by first|exact Hb3.out|exact Hb3.out.trans hb4⟩
     case rest=>
      rename World=>wz;obtain ⟨rfl,hbz⟩:=hcut;have Hbz:=aLa hbz;clear hbz;cases TT with
      |true=>go_wp2_with fail;go_ret;exact ⟨by rw[HTl.out];rfl,dV.out.trans (Hbd.out.trans Hbz.out)⟩
      |false=>go_wp2_with fail;go_ret;exact ⟨by rw[HTl.out];rfl,dV.out.trans (Hbd.out.trans Hbz.out)⟩
end Go.Proofs.YtllefinciimffaaGreatDoor
