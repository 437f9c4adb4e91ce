import Derived.Test.YtllefinciimffaaGreatDoorMClaimTopForms3
import Derived.Lib.TrimByte
import Derived.Lib.Strings
import Derived.Laws.EntriesVeiled
import Derived.Lib.IndexMore
set_option maxHeartbeats 20000000
set_option maxRecDepth 100000
namespace Go.Proofs.YtllefinciimffaaGreatDoor
open Go.RowKit
def okC (b:UInt8):Prop:=33≤(b.toNat:Int)∧(b.toNat:Int)≤126
def tA (l:List UInt8):Bool:=decide (∀b∈l,33≤b.toNat∧b.toNat≤126)
theorem nX {l:List UInt8} {k:Nat} {b:UInt8} (h:l[k]? = some b) (hn:¬okC b):tA l=false:=
 aLW (fun h2=>hn (by have:=h2 b (List.mem_of_getElem? h);unfold okC;omega))
theorem CT {l:List UInt8} (h:∀(j:Nat) b,j<l.length→l[j]? = some b→okC b):tA l=true:=
 aLX fun b hb=>by
  obtain ⟨j,hj⟩:=List.getElem?_of_mem hb;have h2:=h j b (aLw.1 hj).1 hj;unfold okC at h2;omega
theorem ET (l:List UInt8) (w:World) (hs:l.length≤9223372036854775807) :
 Calls Tryz.prog 233 #[l] w fun e w'=>e=.returned (.bool (tA l))∧w=w':=by
 have hsz:(⟨l.toArray⟩:ByteArray).size=l.length:=Lib.size_mk l
 go_in
 go_wp2_with fail
 go_loop [6] (fun u=>∃k:Nat,k≤l.length∧u=.int .i64 k∧∀(j:Nat) b,j<k→l[j]? = some b→okC b) (fun u=>l.length-(RowKit.intOf u).toNat)
 case atStart=>exact ⟨0,Nat.zero_le _,rfl,fun j b hj=>absurd hj (Nat.not_lt_zero _)⟩
 case round=>
  obtain ⟨k,hk,rfl,hc⟩:=hrel;have HC:=aLa hc;clear hc;by_cases hlt:k<l.length
  ·have hih:k<(⟨l.toArray⟩:ByteArray).size:=(by rw[hsz];exact hlt);have hgi:=Lib.getElem_mk l k hih;obtain ⟨c,hc⟩:=aLt ((⟨l.toArray⟩:ByteArray)[k]'hih);rw[←hc] at hgi;have HG:=aLa hgi;have hc':=hc.symm;clear hc hgi;by_cases c1:(c.toNat:Int)<33
   ·have HN:=aLa (nX HG.out (show ¬okC c from fun h=>by unfold okC at h;omega));go_wp2_with fail;go_ret;exact ⟨cD HN.out.symm,rfl⟩
   ·by_cases c2:126<(c.toNat:Int)
    ·have HN:=aLa (nX HG.out (show ¬okC c from fun h=>by unfold okC at h;omega));go_wp2_with fail;go_ret;exact ⟨cD HN.out.symm,rfl⟩
    ·have HO:=aLa (show okC c from ⟨by omega,by omega⟩);go_wp2_with fail;exact ⟨⟨k+1,hlt,by go_num,fun j b hj hb=>by
      rcases Nat.lt_succ_iff_lt_or_eq.1 hj with h|rfl
      ·exact HC.out j b h hb
      ·rw[HG.out] at hb;obtain rfl:=aLZ hb;exact HO.out⟩,by simp[RowKit.intOf];omega⟩
  ·obtain rfl:k=l.length:=(by omega);have HE:=aLa (CT HC.out);go_wp2_with fail;go_ret;exact ⟨cD HE.out.symm,rfl⟩
theorem Q3 (l:List UInt8) (w:World) (hs:l.length≤9223372036854775807) :
 Calls Tryz.prog 177 #[l] w fun e w'=>e=.returned (.bool (o0 l))∧w=w':=by
 have hsz:(⟨l.toArray⟩:ByteArray).size=l.length:=Lib.size_mk l;by_cases c1:(l.length:Int)<1
 ·have HN:=aLa (show o0 l=false by unfold o0;rw[aLW (show ¬(1≤l.length∧l.length≤4) by omega),Bool.and_false])
  go_in
  go_wp2_with fail;go_ret;exact ⟨cD HN.out.symm,rfl⟩
 ·by_cases c2:4<(l.length:Int)
  ·have HN:=aLa (show o0 l=false by unfold o0;rw[aLW (show ¬(1≤l.length∧l.length≤4) by omega),Bool.and_false])
   go_in
   go_wp2_with fail;go_ret;exact ⟨cD HN.out.symm,rfl⟩
  ·have HN:=aLa (show o0 l=tA l by unfold o0 tA;rw[aLX (show 1≤l.length∧l.length≤4 by omega),Bool.and_true])
   go_in
   go_wp2_with fail;refine (ET l _ hs).mono ?_;rintro e w' ⟨rfl,rfl⟩;go_wp2_with fail;go_ret;exact ⟨cD HN.out.symm,rfl⟩
def Ltr.val (l:Ltr):Value:=.agg #[l.text,l.W,l.H,.slice l.A l.m l.c]
def Tests (P:Program) (k:FuncId) (cap:Array Value) (w:World) (ls:List Ltr) (p:Ltr→Bool):Prop:=
 (∀args w,(callFunc k args).run P w=.ok (.enter k args) w)∧∀wx l,Bl w wx→l∈ls→Calls P k (#[l.val]++cap) wx fun e w'=>e=.returned (.bool (p l))∧Bl wx w'
theorem Tests.bl {P:Program} {k:FuncId} {cap:Array Value} {w w':World} {ls:List Ltr} {p:Ltr→Bool} (h:Tests P k cap w ls p) (hb:Bl w w'):Tests P k cap w' ls p:=⟨h.1,fun wx l hx hl=>h.2 wx l (hb.trans hx) hl⟩
theorem Q4 (A:Option Addr) (n c:Nat) (xs:List Int) (v:Int) (w:World) (hA:Reads w 1 A n (xs.map (.int .i64))) (hn:n≤1099511627776) :
 Calls Tryz.prog 147 #[.slice A n c,v] w fun e w'=>∃k:Int,e=.returned k∧(0≤k↔v∈xs)∧w=w':=by
 have hl:xs.length=n:=(by have:=hA.1;simpa using this);have HA:=aLa hA;have HL:=aLa hl;clear hA hl
 go_in
 go_wp2_with fail;go_loopw [8] (fun u wr=>∃i:Nat,i≤n∧u=.int .i64 i∧w=wr∧∀j,j<i→xs[j]? ≠ some v) (fun u _=>n-(RowKit.intOf u).toNat);case atStart=>exact ⟨0,Nat.zero_le _,rfl,rfl,fun j hj=>absurd hj (Nat.not_lt_zero _)⟩
 case round=>
  obtain ⟨i,hi,rfl,rfl,hno⟩:=hrel;have Hno:=aLa hno;clear hno;by_cases hlt:i<n
  ·obtain ⟨ad,u,rfl,hu,hc⟩:=HA.out.at_ hlt;have hl2:i<xs.length:=(by rw[HL.out];exact hlt);have hu':u=.int .i64 xs[i]:=(by simpa [hl2] using hu.symm);have hg:xs[i]? = some xs[i]:=aLv hl2;subst hu';obtain ⟨b,hb⟩:=aLt (xs[i]);rw[←hb] at hc hg;have Hg:=aLa hg;clear hu hb hg hl2;by_cases hbv:v=b
   ·have hq:(v==b)=true:=(by simp[hbv]);have HX:=aLa (show 0≤(i:Int)↔v∈xs from ⟨fun _=>by rw[hbv];exact List.mem_of_getElem? Hg.out,fun _=>Int.natCast_nonneg i⟩);clear hbv;go_wp2_with fail;go_ret;exact ⟨_,rfl,HX.out,rfl⟩
   ·have hq:(v==b)=false:=(by simp[hbv]);have HY:Hid (∀j,j<i+1→xs[j]? ≠ some v):=fun j hj=>by
     rcases Nat.lt_succ_iff_lt_or_eq.1 hj with h|rfl
     ·exact Hno.out j h
     ·rw[Hg.out];intro e;exact hbv (aLZ e).symm
    clear hbv;go_wp2_with fail;exact ⟨⟨i+1,hlt,by go_num,by first|rfl|trivial,HY.out⟩,by simp[RowKit.intOf];omega⟩
  ·have HX:=aLa (show (0:Int)≤-1↔v∈xs from ⟨fun h=>absurd h (by decide),fun h=>by
    obtain ⟨j,hj⟩:=List.getElem?_of_mem h;have:=(aLw.1 hj).1;exact absurd hj (Hno.out j (by have:=HL.out;omega))⟩)
   go_wp2_with fail;go_ret;exact ⟨_,rfl,HX.out,rfl⟩
theorem EU (A:Option Addr) (n c:Nat) (xs:List Int) (v:Int) (w:World) (hA:Reads w 1 A n (xs.map (.int .i64))) (hn:n≤1099511627776) :
 Calls Tryz.prog 91 #[.slice A n c,v] w fun e w'=>e=.returned (.bool (decide (v∈xs)))∧w=w':=by
 go_in
 go_wp2_with fail;refine (Q4 A n c xs v w hA hn).mono ?_;rintro e w1 ⟨k,rfl,hk,rfl⟩;have Hk:=aLa hk;clear hk hA;go_wp2_with fail;go_ret;exact ⟨cD (decide_eq_decide.2 Hk.out),rfl⟩
def gL (ls:List Ltr) (k:Nat):List UInt8:=(ls[k]?.map Ltr.text).getD []
theorem tB {ls:List Ltr} {k:Nat} {l:Ltr} (h:ls[k]? = some l):gL ls k=l.text:=by unfold gL;rw[h];rfl
def fL (ls : List Ltr) (t : List UInt8) : Nat → Int
 |0 => -1
 |i+1=>if Lib.hasPrefix t (gL ls i)=true∧(fL ls t i<0∨(gL ls (fL ls t i).toNat).length<(gL ls i).length) then (i:Int) else fL ls t i
theorem uN (ls : List Ltr) (t : List UInt8) : ∀ i, fL ls t i = -1 ∨ ∃ k : Nat, k < i ∧ fL ls t i = (k : Int) ∧ Lib.hasPrefix t (gL ls k) = true
 |0=>.inl rfl
 |i+1=>by
  have ih:=uN ls t i;unfold fL;split
  ·rename_i h
   exact .inr ⟨i,by omega,rfl,h.1⟩
  ·rcases ih with h|⟨k,h1,h2,h3⟩
   ·exact .inl h
   ·exact .inr ⟨k,by omega,h2,h3⟩
def oO (ls:List Ltr) (t:List UInt8):Int:=fL ls t ls.length
theorem yH (ls:List Ltr) (t:List UInt8) (h:0≤oO ls t):∃k:Nat,k<ls.length∧oO ls t=(k:Int)∧Lib.hasPrefix t (gL ls k)=true:=by
 rcases uN ls t ls.length with e|h2
 ·unfold oO at h;omega
 ·exact h2
theorem EW {t p:List UInt8} (h:Lib.hasPrefix t p=true):p.length≤t.length:=by
 unfold Lib.hasPrefix at h;exact (List.isPrefixOf_iff_prefix.1 h).length_le
def oP (ls : List Ltr) : Nat → List UInt8 → Option (List (Option Nat))
 |_,[]=>some []
 |0,_ :: _=>none
 |n+1,c :: t=>
  if c=32 then (oP ls n t).map (none :: ·)
  else if oO ls (c :: t)<0 then none
  else (oP ls n ((c :: t).drop (gL ls (oO ls (c :: t)).toNat).length)).map (some (oO ls (c :: t)).toNat :: ·)
def fT (ls:List Ltr) (t:List UInt8):Option (List (Option Nat)):=oP ls t.length t
def Texts (ls:List Ltr):Prop:=∀k,k<ls.length→1≤(gL ls k).length∧(gL ls k).length≤4∧∀b∈gL ls k,b≠32
theorem EX {ls:List Ltr} (hT:Texts ls):∀(n m:Nat) (t:List UInt8),t.length≤n→t.length≤m→oP ls n t=oP ls m t:=by
 intro n;induction n with
 |zero=>intro m t hn _;have:t=[]:=List.eq_nil_of_length_eq_zero (by omega);subst this;cases m<;>rfl
 |succ n ih=>
  intro m t hn hm;cases t with
  |nil=>cases m<;>rfl
  |cons c t=>
   cases m with
   |zero=>simp at hm
   |succ m=>
    simp only[aLB] at hn hm;unfold oP;split
    ·rw[ih m t (by omega) (by omega)]
    ·split
     ·rfl
     ·rename_i h1 h2
      obtain ⟨k,hk,e,hp⟩:=yH ls (c :: t) (by omega);rw[e];have h3:=(hT k hk).1;simp only[aL8];rw[ih m _ (by rw[aLJ,aLB];omega) (by rw[aLJ,aLB];omega)]
theorem VF (ls:List Ltr):fT ls []=some []:=rfl
theorem uO (ls : List Ltr) (c : UInt8) (t : List UInt8) : fT ls (c :: t) = if c = 32 then (oP ls t.length t).map (none :: ·) else if oO ls (c :: t) < 0 then none
 else (oP ls t.length ((c :: t).drop (gL ls (oO ls (c :: t)).toNat).length)).map (some (oO ls (c :: t)).toNat :: ·):=rfl
theorem LR {ls:List Ltr} (t:List UInt8):fT ls (32 :: t)=(fT ls t).map (none :: ·):=by
 rw[uO,if_pos rfl];rfl
theorem Q5 {ls:List Ltr} {c:UInt8} {t:List UInt8} (hc:c≠32) (h:oO ls (c :: t)<0):fT ls (c :: t)=none:=by
 rw[uO,if_neg hc,if_pos h]
theorem IE {ls:List Ltr} (hT:Texts ls) {c:UInt8} {t:List UInt8} {k:Nat} (hc:c≠32) (h:oO ls (c :: t)=(k:Int)) (hk:k<ls.length) :
 fT ls (c :: t)=(fT ls ((c :: t).drop (gL ls k).length)).map (some k :: ·):=by
 rw[uO,if_neg hc,if_neg (by omega),h];simp only[aL8];have h3:=(hT k hk).1;unfold fT;rw[EX hT t.length ((c :: t).drop (gL ls k).length).length _ (by rw[aLJ,aLB];omega) (Nat.le_refl _)]
def eZ (ls:List Ltr) (k:Nat):Nat:=((ls[k]?.map fun l=>l.W.toNat).getD 0)
abbrev Spot:=Nat × Bool
def dU (gap:Nat) (s:Spot):Nat:=if s.2=true then s.1+gap else s.1
def LS (ls : List Ltr) (gap sp : Nat) (s : Spot) : Option Nat → Spot
 |none=>(s.1+sp,false)
 |some k=>(dU gap s+eZ ls k,true)
def dT (ls:List Ltr) (gap sp:Nat) (s:Spot) (l:List (Option Nat)):Spot:=l.foldl (LS ls gap sp) s
def cJ (ls : List Ltr) (gap sp : Nat) : Spot → List (Option Nat) → List (Nat × Nat)
 |_,[]=>[]
 |s,none :: l=>cJ ls gap sp (LS ls gap sp s none) l
 |s,some k :: l=>(k,dU gap s) :: cJ ls gap sp (LS ls gap sp s (some k)) l
theorem vT (ls:List Ltr) (gap sp:Nat) (s:Spot) (a b:List (Option Nat)):dT ls gap sp s (a++b)=dT ls gap sp (dT ls gap sp s a) b:=by unfold dT;rw[List.foldl_append]
theorem lZ (ls : List Ltr) (gap sp : Nat) : ∀ (a b : List (Option Nat)) (s : Spot), cJ ls gap sp s (a ++ b) = cJ ls gap sp s a ++ cJ ls gap sp (dT ls gap sp s a) b
 |[],_,_=>rfl
 |none :: a,b,s=>lZ ls gap sp a b _
 |some k :: a,b,s=>by
  show (k,dU gap s) :: cJ ls gap sp _ (a++b)=(k,dU gap s) :: (cJ ls gap sp _ a++_);rw[lZ ls gap sp a b];rfl
theorem VG {ls:List Ltr}:∀(n:Nat) (t:List UInt8) (l:List (Option Nat)),oP ls n t=some l→∀k,some k∈l→k<ls.length:=by
 intro n;induction n with
 |zero=>
  intro t l h k hk;cases t with
  |nil=>have h:=aLZ h;subst h;cases hk
  |cons c t=>cases h
 |succ n ih=>
  intro t l h k hk;cases t with
  |nil=>have h:=aLZ h;subst h;cases hk
  |cons c t=>
   unfold oP at h;split at h
   ·obtain ⟨l',h1,rfl⟩:=Option.map_eq_some_iff.1 h;rcases aLN.1 hk with hk|hk
    ·cases hk
    ·exact ih _ _ h1 k hk
   ·split at h
    ·cases h
    ·rename_i h0
     obtain ⟨l',h1,rfl⟩:=Option.map_eq_some_iff.1 h;rcases aLN.1 hk with hk|hk
     ·obtain ⟨k',hk',e,-⟩:=yH ls (c :: t) (by omega);have:=aLZ hk;rw[e] at this;simp at this;omega
     ·exact ih _ _ h1 k hk
theorem OL {ls:List Ltr} {t:List UInt8} {l:List (Option Nat)} (h:fT ls t=some l):∀k,some k∈l→k<ls.length:=VG _ _ _ h
theorem OM {ls : List Ltr} {gap sp : Nat} (hg : gap ≤ 16) (hs : sp ≤ 64) (hw : ∀ k, eZ ls k ≤ 64) : ∀ (l : List (Option Nat)) (s : Spot), (dT ls gap sp s l).1 ≤ s.1 + 80 * l.length
 |[],s=>Nat.le_refl _
 |x :: l,s=>by
  have ih:=OM hg hs hw l (LS ls gap sp s x);have h1:(LS ls gap sp s x).1≤s.1+80:=by
   cases x with
   |none=>show s.1+sp≤s.1+80;omega
   |some k=>show dU gap s+eZ ls k≤s.1+80;have:=hw k;unfold dU;split<;>omega
  show (dT ls gap sp (LS ls gap sp s x) l).1≤s.1+80*(l.length+1);omega
theorem aAi {ls:List Ltr} {k:Nat} (h:ls.length≤k):eZ ls k=0:=by unfold eZ;rw[aL5 h];rfl
def Q6 (ls:List Ltr) (k:Nat):List Bool:=(ls[k]?.map Ltr.bs).getD []
theorem EY {ls:List Ltr} {k:Nat} {l:Ltr} (h:ls[k]? = some l):Q6 ls k=l.bs:=by unfold Q6;rw[h];rfl
theorem LT {ls:List Ltr} {k:Nat} {l:Ltr} (h:ls[k]? = some l):eZ ls k=l.W.toNat:=by unfold eZ;rw[h];rfl
def BD (ls:List Ltr) (p:Nat × Nat) (x y:Nat):Bool:=decide (p.2≤x)&&(decide (x<p.2+eZ ls p.1)&&pix (Q6 ls p.1) (eZ ls p.1) (x-p.2) y)
def sO (ls:List Ltr) (pl:List (Nat × Nat)) (x y:Nat):Bool:=pl.any fun p=>BD ls p x y
theorem yI (ls:List Ltr) (a b:List (Nat × Nat)) (x y:Nat):sO ls (a++b) x y=(sO ls a x y||sO ls b x y):=by unfold sO;rw[List.any_append]
theorem ON (ls:List Ltr) (p:Nat × Nat) (x y:Nat):sO ls [p] x y=BD ls p x y:=by unfold sO;simp
theorem aAj {ls:List Ltr} {k at_ i y:Nat} (hi:i<eZ ls k):BD ls (k,at_) (at_+i) y=pix (Q6 ls k) (eZ ls k) i y:=by
 unfold BD;rw[aLX (show at_≤at_+i by omega),aLX (show at_+i<at_+eZ ls k by omega),show at_+i-at_=i by omega];simp
theorem aCN {ls:List Ltr} {gap sp:Nat} (s:Spot) (x:Option Nat):s.1≤(LS ls gap sp s x).1:=by
 cases x with
 |none=>show s.1≤s.1+sp;omega
 |some k=>show s.1≤dU gap s+eZ ls k;unfold dU;split<;>omega
theorem qH {ls : List Ltr} {gap sp : Nat} : ∀ (l : List (Option Nat)) (s : Spot), s.1 ≤ (dT ls gap sp s l).1
 |[],_=>Nat.le_refl _
 |x :: l,s=>aMb (aCN s x) (qH l _)
theorem pM {ls : List Ltr} {gap sp : Nat} : ∀ (l : List (Option Nat)) (s : Spot), ∀ p ∈ cJ ls gap sp s l, p.2 + eZ ls p.1 ≤ (dT ls gap sp s l).1
 |[],_,p,hp=>by cases hp
 |none :: l,s,p,hp=>pM l _ p hp
 |some k :: l,s,p,hp=>by
  rcases aLN.1 hp with rfl|hp
  ·show dU gap s+eZ ls k≤(dT ls gap sp (LS ls gap sp s (some k)) l).1;exact qH l (LS ls gap sp s (some k))
  ·exact pM l _ p hp
def aAk (wk hk x0 y0 x y:Nat):Bool:=decide (x0≤x∧x<x0+wk∧y0≤y∧y<y0+hk)
def o8 (f:Nat→Bool) (bs:List Bool) (wk hk x0 y0 W i k:Nat):Bool:=f k||(aAk wk hk x0 y0 (k % W) (k / W)&&(decide ((k / W-y0)*wk+(k % W-x0)<i)&&pix bs wk (k % W-x0) (k / W-y0)))
def aEr (f:Nat→Bool) (bs:List Bool) (wk hk x0 y0 W k:Nat):Bool:=f k||(aAk wk hk x0 y0 (k % W) (k / W)&&pix bs wk (k % W-x0) (k / W-y0))
theorem Q7 (f:Nat→Bool) (bs:List Bool) (wk hk x0 y0 W k:Nat):o8 f bs wk hk x0 y0 W 0 k=f k:=by unfold o8;simp
theorem VH (f:Nat→Bool) (bs:List Bool) (wk hk x0 y0 W k:Nat):o8 f bs wk hk x0 y0 W (wk*hk) k=aEr f bs wk hk x0 y0 W k:=by
 unfold o8 aEr;cases h:aAk wk hk x0 y0 (k % W) (k / W) with
 |false=>simp
 |true=>
  unfold aAk at h;have h':=aLY h;have hlt:(k / W-y0)*wk+(k % W-x0)<wk*hk:=by
   have h1:(k / W-y0+1)*wk≤hk*wk:=Nat.mul_le_mul_right wk (by omega);rw[Nat.add_mul,Nat.one_mul] at h1;rw[Nat.mul_comm wk hk];omega
  rw[aLX hlt];simp
theorem aAl {f:Nat→Bool} {bs:List Bool} {wk hk x0 y0 W i:Nat} (h:bs.getD i false=false) (k:Nat):o8 f bs wk hk x0 y0 W (i+1) k=o8 f bs wk hk x0 y0 W i k:=by
 unfold o8;by_cases e:(k / W-y0)*wk+(k % W-x0)=i
 ·have hp:pix bs wk (k % W-x0) (k / W-y0)=false:=(by unfold pix;rw[e];exact h);rw[hp];simp
 ·have hd:decide ((k / W-y0)*wk+(k % W-x0)<i+1)=decide ((k / W-y0)*wk+(k % W-x0)<i):=(by rw[decide_eq_decide];omega);rw[hd]
theorem VI {f:Nat→Bool} {bs:List Bool} {wk hk x0 y0 W i:Nat} (h:bs.getD i false=true) (hi:i<wk*hk) (hx:x0+wk≤W) (k:Nat) :
 o8 f bs wk hk x0 y0 W (i+1) k=if k=(y0+i / wk)*W+x0+i % wk then true else o8 f bs wk hk x0 y0 W i k:=by
 have hwk:0<wk:=by
  rcases Nat.eq_zero_or_pos wk with h0|h0
  ·rw[h0,Nat.zero_mul] at hi;omega
  ·exact h0
 have hm0:i % wk<wk:=Nat.mod_lt _ hwk;have hd0:i / wk<hk:=Nat.div_lt_of_lt_mul hi;have aET:=Nat.div_add_mod i wk;obtain ⟨xi,hxi⟩:=aLt (i % wk);obtain ⟨yi,hyi⟩:=aLt (i / wk);rw[←hxi] at hm0 aET ⊢;rw[←hyi] at hd0 aET ⊢;clear hxi hyi;have hxm:x0+xi<W:=Nat.lt_of_lt_of_le (Nat.add_lt_add_left hm0 x0) hx;have hW0:0<W:=Nat.lt_of_le_of_lt (Nat.zero_le _) hxm;by_cases e:k=(y0+yi)*W+x0+xi
 ·rw[if_pos e];have e1:k % W=x0+xi:=(by rw[e,Nat.add_assoc,Nat.mul_comm,Nat.mul_add_mod];exact Nat.mod_eq_of_lt hxm);have e2:k / W=y0+yi:=(by rw[e,Nat.add_assoc,Nat.mul_comm,Nat.mul_add_div hW0,Nat.div_eq_of_lt hxm];rfl);clear e;unfold o8 aAk pix;rw[e1,e2,Nat.add_sub_cancel_left,Nat.add_sub_cancel_left,show yi*wk+xi=i by rw[Nat.mul_comm];exact aET,h,aLX (show x0≤x0+xi∧x0+xi<x0+wk∧y0≤y0+yi∧y0+yi<y0+hk from ⟨by omega,by omega,by omega,by omega⟩),aLX (show i<i+1 from Nat.lt_succ_self i)];simp
 ·rw[if_neg e];unfold o8;have hkk:=Nat.div_add_mod k W;obtain ⟨x,hx'⟩:=aLt (k % W);obtain ⟨y,hy'⟩:=aLt (k / W);rw[←hx',←hy'] at hkk;rw[←hx',←hy'];clear hx' hy';cases hw:aAk wk hk x0 y0 x y with
  |false=>simp
  |true=>
   unfold aAk at hw;have hw':=aLY hw;by_cases e3:(y-y0)*wk+(x-x0)=i
   ·refine absurd ?_ e;have hwx:x-x0<wk:=(by omega);have e4:x-x0=xi:=by
     have h1:((y-y0)*wk+(x-x0)) % wk=x-x0:=(by rw[Nat.mul_comm,Nat.mul_add_mod];exact Nat.mod_eq_of_lt hwx);have h2:(wk*yi+xi) % wk=xi:=(by rw[Nat.mul_add_mod];exact Nat.mod_eq_of_lt hm0);rw[e3] at h1;rw[aET] at h2;exact h1.symm.trans h2
    have e5:y-y0=yi:=by
     have h1:((y-y0)*wk+(x-x0)) / wk=y-y0:=(by rw[Nat.mul_comm,Nat.mul_add_div hwk,Nat.div_eq_of_lt hwx];rfl);have h2:(wk*yi+xi) / wk=yi:=(by rw[Nat.mul_add_div hwk,Nat.div_eq_of_lt hm0];rfl);rw[e3] at h1;rw[aET] at h2;exact h1.symm.trans h2
    have e6:y=y0+yi:=(by omega);have e7:x=x0+xi:=(by omega);rw[←hkk,e6,e7,Nat.mul_comm,Nat.add_assoc]
   ·have hd:decide ((y-y0)*wk+(x-x0)<i+1)=decide ((y-y0)*wk+(x-x0)<i):=(by rw[decide_eq_decide];omega);rw[hd]
def PutRes (w0:World) (g:Nat) (cs:Array Value) (w:World) (e:Ending) (w':World):Prop:=e=.returned (.tuple #[])∧Blk w' g 4 cs∧Bl w0 w'∧w.heap.size≤w'.heap.size∧∀p T c,p≠g→Blk w p T c→Blk w' p T c
theorem aCO (W H wk hk x0 y0 g : Nat) (cap : Nat) (A : Option Addr) (ac : Nat) (bs : List Bool) (f : Nat → Bool) (w0 w : World) (hb0 : Bl w0 w) (hg0 : w0.heap.size ≤ g) (hg : Blk w g 4 (lD (W * H) f)) (hA : Reads w0 1 A (wk * hk) (bs.map .bool))
 (hW:W≤4000) (hH:H≤4000) (hWH:W*H≤1048576) (hx:x0+wk≤W) (hy:y0+hk≤H) (hwk:1≤wk) :
 Calls Tryz.prog 266 #[.agg #[W,H,.slice (some ⟨g,0,none⟩) (W*H) cap],.agg #[wk,hk,.slice A (wk*hk) ac],x0,y0] w (PutRes w0 g (lD (W*H) (aEr f bs wk hk x0 y0 W)) w):=by
 let w2:=((w).alloc (.cells #[W,H,.slice (some ⟨g,0,none⟩) (W*H) cap] 43)).alloc (.cells #[wk,hk,.slice A (wk*hk) ac] 43);obtain ⟨w2b,w21,w22⟩:=aLi (x:=w2) w _ _ _ _ rfl;have lw2:w2.heap.size=w.heap.size+2:=(by simp[w2]);have hgl:=hg.lt;have hg2:Blk w2 g 4 (lD (W*H) (o8 f bs wk hk x0 y0 W 0)):=by
  have e:lD (W*H) (o8 f bs wk hk x0 y0 W 0)=lD (W*H) f:=iL fun k _=>Q7 _ _ _ _ _ _ _ _;rw[e];exact (hg.alloc _).alloc _
 have aJD:Bl w0 w2:=hb0.trans w2b;have hn:wk*hk≤16000000:=aMa (show wk≤4000 by omega) (show hk≤4000 by omega);obtain ⟨HA,HG,HB0⟩:=aLb hA hg2 hb0;have uA:∀p T c,p≠g→Blk w p T c→Blk w2 p T c:=fun p T c _ h=>(h.alloc _).alloc _;have HK:=aLa uA;have k1:=w21.all3;have k2:=w22.all3;clear hA hg hg2 hb0 uA
 go_in
 go_wp2_with fail;go_loopw [13] (fun u wr=>∃i:Nat,i≤wk*hk∧u=.int .i64 i∧Bl w0 wr∧Blk wr g 4 (lD (W*H) (o8 f bs wk hk x0 y0 W i))∧Blk wr w.heap.size 43 #[W,H,.slice (some ⟨g,0,none⟩) (W*H) cap]∧Blk wr (w.heap.size+1) 43 #[wk,hk,.slice A (wk*hk) ac]∧Hid (w.heap.size≤wr.heap.size)∧Hid (∀p T c,p≠g→Blk w p T c→Blk wr p T c)) (fun u _=>wk*hk-(RowKit.intOf u).toNat);case atStart=>exact ⟨0,Nat.zero_le _,rfl,aJD,HG.out,w21,w22,aLa w2b.le,HK⟩
 case round=>
  clear k1 k2;obtain ⟨i,hi,rfl,hbr,hbg,hb1,hb2,hsz,hkp⟩:=hrel;have k1:=hb1.all3;have k2:=hb2.all3;by_cases hlt:i<wk*hk
  ·obtain ⟨ad,ua,rfl,hu,hca⟩:=(HA.out.bl hbr).at_ hlt;have hua:ua=.bool (bs.getD i false):=by
    simp only[aLG,Option.map_eq_some_iff] at hu;obtain ⟨b,hb1,hb2⟩:=hu;rw[←hb2,List.getD,hb1];rfl
   clear hu;subst hua;cases hva:bs.getD i false
   ·have hno:lD (W*H) (o8 f bs wk hk x0 y0 W (i+1))=lD (W*H) (o8 f bs wk hk x0 y0 W i):=iL fun k _=>aAl hva k;rw[←hno] at hbg;rw[hva] at hca;clear hno hva;go_wp2_with fail;exact ⟨⟨i+1,hlt,by go_num,hbr,hbg,hb1,hb2,hsz,hkp⟩,by simp[intOf];omega⟩
   ·rw[hva] at hca;have hys:=fun k=>VI (f:=f) (y0:=y0) hva hlt hx k;have mlt:i % wk<wk:=Nat.mod_lt _ (by omega);have dlt:i / wk<hk:=Nat.div_lt_of_lt_mul hlt;obtain ⟨xi,hxi⟩:=aLt (i % wk);obtain ⟨yi,hyi⟩:=aLt (i / wk);have e1:(i:Int) % (wk:Int)=(xi:Int):=(by rw[hxi];simp);have e2:(i:Int) / (wk:Int)=(yi:Int):=(by rw[hyi];simp);rw[←hxi] at mlt;rw[←hyi] at dlt;simp only[←hxi,←hyi] at hys;obtain ⟨q,hq⟩:=aLt ((y0+yi)*W:Nat);simp only[←hq] at hys;have hqW:((y0:Int)+(yi:Int))*(W:Int)=(q:Int):=(by rw[hq];simp);have xC:q+W≤W*H:=(by rw[hq,←Nat.succ_mul,Nat.mul_comm W H];exact Nat.mul_le_mul_right W (by omega));have hto:((q:Int)+(x0:Int)+(xi:Int)).toNat=q+x0+xi:=(by omega);have hi1:(q:Int)+(x0:Int)+(xi:Int)<(W:Int)*(H:Int):=by
     have h1:((W*H:Nat):Int)=(W:Int)*(H:Int):=(by simp);rw[←h1];omega
    have K2:wr.cell? ⟨g,q+x0+xi,none⟩=some (.bool (o8 f bs wk hk x0 y0 W i (q+x0+xi))):=hbg.tabAtB (by omega);have hfz:=hbg.frozen;have hgl2:=hbg.lt;have hwk0:¬(wk=0):=(by omega);obtain ⟨HYs,HBg,HBr,HB1,HB2⟩:=aLd hys hbg hbr hb1 hb2;clear hys hbg hq hva hxi hyi;go_upto_region 5 with fail;refine aA [(true,0),(true,1),(true,2),(true,3),(true,4),(true,5),(true,6),(true,7),(true,8),(true,9),(true,10),(true,11),(true,12),(true,13),(true,14),(true,15),(true,16),(true,17),(true,18),(false,19)] (fun i=>i==19) (by kernel_rfl) (by kernel_rfl) (by kernel_rfl) (by kernel_rfl) ?_
    iterate 2
     apply Flow.calm2 _ _ rfl rfl
     ·intro a b c d;obtain ⟨e,f⟩:=b.rule;go_simp;(try go_ints);exact d
     ·intro a b;simp only[sqA];exact b
    iterate 2
     apply Flow.mv _ rfl
     ·intro a b;simp only[sqA,Act.eval,sqC];exact b
    iterate 7
     apply Flow.calm2 _ _ rfl rfl
     ·intro a b c d;obtain ⟨e,f⟩:=b.rule;go_simp;(try go_ints);exact d
     ·intro a b;simp only[sqA];exact b
    apply Flow.mv _ rfl
    ·intro a b;simp only[sqA,Act.eval,sqC];exact b
    apply Flow.calm2 _ _ rfl rfl
    ·intro a b c d;obtain ⟨e,f⟩:=b.rule;go_simp;(try go_ints);exact d
    ·intro a b;simp only[sqA];exact b
    apply Flow.mv _ rfl
    ·intro a b;simp only[sqA,Act.eval,sqC];exact b
    iterate 5
     apply Flow.calm2 _ _ rfl rfl
     ·intro a b c d;obtain ⟨e,f⟩:=b.rule;go_simp;(try go_ints);exact d
     ·intro a b;simp only[sqA];exact b
    refine Flow.tail _ rfl ?_;go_wp2_with fail;have aJE:w0.heap.size≤(⟨g,q+x0+xi,none⟩:Addr).block:=hg0;exact ⟨⟨i+1,hlt,by go_num,(HBr.out.drew).setCell aJE _,HBg.out.drew.tabSetB _ _ (fun j _=>HYs.out j),(HB1.out.drew).far (by show w.heap.size≠g;omega) _,(HB2.out.drew).far (by show w.heap.size+1≠g;omega) _,aLa (by simpa using hsz.out),aLa (fun p T c hp h=>((hkp.out p T c hp h).drew).far hp _)⟩,by simp[intOf];omega⟩
  ·obtain rfl:i=wk*hk:=(by omega);have BX:lD (W*H) (o8 f bs wk hk x0 y0 W (wk*hk))=lD (W*H) (aEr f bs wk hk x0 y0 W):=iL fun k _=>VH _ _ _ _ _ _ _ _;rw[BX] at hbg;have HBg:=aLa hbg;clear hbg BX;go_wp2_with fail
   go_end0
   exact ⟨rfl,HBg.out,hbr,hsz.out,hkp.out⟩
theorem nF {bs : List Bool} : ∀ {m : Nat}, (EI bs m).length = 0 ↔ ∀ i, i < m → bs.getD i false = false
 |0=>by simp[EI]
 |m+1=>by
  simp only[EI,aLy];have ih:=nF (bs:=bs) (m:=m);constructor
  ·intro h i hi;rcases Nat.lt_or_ge i m with c|c
   ·exact ih.1 (by omega) i c
   ·obtain rfl:i=m:=(by omega);cases hb:bs.getD i false
    ·rfl
    ·rw[hb] at h;simp at h
  ·intro h;rw[ih.2 (fun i hi=>h i (by omega)),h m (by omega)];rfl
def aGB (bs:List Bool) (N:Nat):Bool:=decide (0<(EI bs N).length)
theorem aCP {bs:List Bool} {W H:Nat} {is:Bool} {X Y BW BH:Int} (h:BoundsIs bs W H is X Y BW BH):is=aGB bs (W*H):=by
 unfold aGB;rcases h with ⟨rfl,hno,_⟩|⟨rfl,l,r,t,b,hl,_⟩
 ·symm;rw[decide_eq_false_iff_not];intro aBD;have:(EI bs (W*H)).length=0:=nF.2 fun i hi=>by
   obtain ⟨h1,h2,h3⟩:=eK hi;have:=hno _ h1;cases hb:bs.getD i false
   ·rfl
   ·have:=(gZ bs W H (i % W)).2 ⟨i / W,h2,by rw[nA hi];exact hb⟩;omega
  omega
 ·symm;rw[decide_eq_true_iff];rcases Nat.eq_zero_or_pos (EI bs (W*H)).length with e|e
  ·have hz:=nF.1 e;obtain ⟨y,hy,hp⟩:=(gZ bs W H l).1 hl.1.2.1;have:=hz (l+y*W) (by rw[Nat.add_comm];exact eD hl.1.1 hy);unfold pix at hp;rw[Nat.add_comm] at this;rw[this] at hp;cases hp
  ·exact e
def lR (t:List UInt8):Bool:=Lib.hasPrefix t [32]||(Lib.hasSuffix t [32]||Lib.contains t [32,32])
theorem OO {t:List UInt8} (h:lR t=false) {b:UInt8} {r:List UInt8} (e:t=b :: r):b≠32:=fun hb=>by
 unfold lR at h;simp only[Bool.or_eq_false_iff] at h;have h1:=h.1;rw[e,hb] at h1;unfold Lib.hasPrefix at h1;simp at h1
theorem VJ {t:List UInt8} (h:lR t=false) {p:List UInt8} (e:t=p++[32]):False:=by
 unfold lR at h;simp only[Bool.or_eq_false_iff] at h;have h1:=h.2.1;unfold Lib.hasSuffix at h1;have h2:[32] <:+ t:=⟨p,e.symm⟩;rw[List.isSuffixOf_iff_suffix.2 h2] at h1;cases h1
theorem OP {t:List UInt8} (h:lR t=false) {p r:List UInt8} (e:t=p++32 :: 32 :: r):False:=by
 unfold lR at h;simp only[Bool.or_eq_false_iff] at h;have h1:=h.2.2;unfold Lib.contains at h1;have h2:=of_decide_eq_false h1;rcases Lib.index_spec t [32,32] with ⟨-,h3⟩|⟨i,h3,-⟩
 ·have h4:=h3 p.length (by rw[e];simp);have h5:Lib.occAt t [32,32] p.length=true:=by
   rw[Lib.occAt_iff_take _ _ _ (by rw[e];simp)];rw[e];simp
  rw[h5] at h4;cases h4
 ·omega
def fU (t:List UInt8):Int:=aG [aF (decide (t=[])) 9,aF (decide (200<t.length)) 4,aF (lR t) 2]
def iC (ls:List Ltr) (t:List UInt8):Int:=aG [fU t,aF (!(fT ls t).isSome) 10]
theorem yJ {t:List UInt8} (h:t=[]):fU t=9:=by subst h;rfl
theorem vU {t:List UInt8} (h:t≠[]) (h2:200<t.length):fU t=4:=by
 unfold fU;rw[aLW h,aLX h2];rfl
theorem vV {t:List UInt8} (h:t≠[]) (h2:¬200<t.length) (h3:lR t=true):fU t=2:=by
 unfold fU;rw[aLW h,aLW h2,h3];rfl
theorem Q8 {t:List UInt8} (h:t≠[]) (h2:¬200<t.length) (h3:lR t=false):fU t=0:=by
 unfold fU;rw[aLW h,aLW h2,h3];rfl
theorem l8 {ls:List Ltr} {t:List UInt8} (h:fU t≠0):iC ls t=fU t:=by
 show (if fU t=0 then _ else fU t)=_;rw[if_neg h]
theorem vW {ls:List Ltr} {t:List UInt8} (h:fU t=0) (h2:fT ls t=none):iC ls t=10:=by
 unfold iC;rw[h,h2];rfl
theorem IF {ls:List Ltr} {t:List UInt8} {l:List (Option Nat)} (h:fU t=0) (h2:fT ls t=some l):iC ls t=0:=by
 unfold iC;rw[h,h2];rfl
theorem IG {ls:List Ltr} {t:List UInt8} (h:iC ls t=0):fU t=0∧∃l,fT ls t=some l:=by
 by_cases h1:fU t=0
 ·refine ⟨h1,?_⟩;cases h2:fT ls t with
  |none=>rw[vW h1 h2] at h;cases h
  |some l=>exact ⟨l,rfl⟩
 ·rw[l8 h1] at h;exact absurd h h1
def cN (pl:List (Nat × Nat)):List Value:=pl.flatMap fun p=>[.int .i64 p.1,.int .i64 p.2]
theorem EZ (a b:List (Nat × Nat)):cN (a++b)=cN a++cN b:=by unfold cN;rw[aMh]
theorem IH {pl:List (Nat × Nat)} {i:Nat} {p:Nat × Nat} (h:pl[i]? = some p) (j:Nat) (hj:j<2):(cN pl)[i*2+j]? = ([.int .i64 p.1,.int .i64 p.2]:List Value)[j]?:=by
 induction pl generalizing i with
 |nil=>simp at h
 |cons x l ih=>
  unfold cN;rw[aMi];rcases i with _|i
  ·simp only[aLT,Option.some.injEq] at h;subst h;rw[aLE (by show 0*2+j<2;omega)];simp
  ·rw[aLD (by show 2≤(i+1)*2+j;omega)];have e:(i+1)*2+j-2=i*2+j:=(by omega);show (cN l)[(i+1)*2+j-2]? = _;rw[e];exact ih (by simpa using h)
theorem Q9 {ls:List Ltr} {gap sp:Nat} {s:Spot} (l:List (Option Nat)):cJ ls gap sp s (l++[none])=cJ ls gap sp s l:=by rw[lZ];simp[cJ]
theorem RA {ls:List Ltr} {gap sp:Nat} {s:Spot} (l:List (Option Nat)) (k:Nat):cJ ls gap sp s (l++[some k])=cJ ls gap sp s l++[(k,dU gap (dT ls gap sp s l))]:=by rw[lZ];rfl
theorem RB {ls:List Ltr} {gap sp:Nat} {s:Spot} (l:List (Option Nat)):dT ls gap sp s (l++[none])=((dT ls gap sp s l).1+sp,false):=by rw[vT];rfl
theorem RC {ls:List Ltr} {gap sp:Nat} {s:Spot} (l:List (Option Nat)) (k:Nat):dT ls gap sp s (l++[some k])=(dU gap (dT ls gap sp s l)+eZ ls k,true):=by rw[vT];rfl
end Go.Proofs.YtllefinciimffaaGreatDoor
