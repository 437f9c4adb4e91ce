import Derived.Test.YtllefinciimffaaGreatDoorMClaimTopForms25
import Derived.Shelf.Small.Strs
import Derived.Shelf.Strings.Count
set_option maxHeartbeats 20000000
set_option maxRecDepth 100000
namespace Go.Proofs
open Go.Shelf
def Tryz.laysIxB_ren:Go.Shelf.Ren:=⟨fun|137=>212|217=>173|266=>231|n=>n,fun|9=>9|5=>5|3=>3|n=>n,fun|n=>n⟩
theorem Tryz.laysIxB : Go.Proofs.Lays.n137 Tryz.prog Tryz.laysIxB_ren := {
 mixed:=by kernel_rfl
 f137:=Tryz.func212.trans (congrArg some (by kernel_rfl))
 f217:=Tryz.func173.trans (congrArg some (by kernel_rfl))
 f266:=Tryz.func231.trans (congrArg some (by kernel_rfl))
 t3:=Tryz.underlying3
 a3:=Tryz.isAgg3
 z3:=Tryz.sizeOf3
 v3:=Tryz.zeroValue3
 t5:=Tryz.underlying5
 a5:=Tryz.isAgg5
 z5:=Tryz.sizeOf5
 v5:=Tryz.zeroValue5
 t9:=Tryz.underlying9
 a9:=Tryz.isAgg9
 z9:=Tryz.sizeOf9
 v9:=Tryz.zeroValue9 }
def Tryz.laysCnt_ren:Go.Shelf.Ren:=⟨fun|138=>14|195=>71|218=>72|143=>73|219=>133|217=>173|225=>174|224=>175|267=>176|266=>231|314=>232|n=>n,fun|9=>9|3=>3|4=>4|5=>5|0=>0|46=>233|146=>278|51=>277|n=>n,fun|1=>0|n=>n⟩
theorem Tryz.laysCnt : Go.Proofs.Lays.n138 Tryz.prog Tryz.laysCnt_ren := {
 mixed:=by kernel_rfl
 f138:=Tryz.func14.trans (congrArg some (by kernel_rfl))
 f143:=Tryz.func73.trans (congrArg some (by kernel_rfl))
 f195:=Tryz.func71.trans (congrArg some (by kernel_rfl))
 f217:=Tryz.func173.trans (congrArg some (by kernel_rfl))
 f218:=Tryz.func72.trans (congrArg some (by kernel_rfl))
 f219:=Tryz.func133.trans (congrArg some (by kernel_rfl))
 f224:=Tryz.func175.trans (congrArg some (by kernel_rfl))
 f225:=Tryz.func174.trans (congrArg some (by kernel_rfl))
 f266:=Tryz.func231.trans (congrArg some (by kernel_rfl))
 f267:=Tryz.func176.trans (congrArg some (by kernel_rfl))
 f314:=Tryz.func232.trans (congrArg some (by kernel_rfl))
 t0:=Tryz.underlying0
 a0:=Tryz.isAgg0
 z0:=Tryz.sizeOf0
 v0:=Tryz.zeroValue0
 t3:=Tryz.underlying3
 a3:=Tryz.isAgg3
 z3:=Tryz.sizeOf3
 v3:=Tryz.zeroValue3
 t4:=Tryz.underlying4
 a4:=Tryz.isAgg4
 z4:=Tryz.sizeOf4
 v4:=Tryz.zeroValue4
 t5:=Tryz.underlying5
 a5:=Tryz.isAgg5
 z5:=Tryz.sizeOf5
 v5:=Tryz.zeroValue5
 t9:=Tryz.underlying9
 a9:=Tryz.isAgg9
 z9:=Tryz.sizeOf9
 v9:=Tryz.zeroValue9
 t46:=Tryz.underlying233
 a46:=Tryz.isAgg233
 z46:=Tryz.sizeOf233
 v46:=Tryz.zeroValue233
 t51:=Tryz.underlying277
 a51:=Tryz.isAgg277
 z51:=Tryz.sizeOf277
 v51:=Tryz.zeroValue277
 t146:=Tryz.underlying278
 a146:=Tryz.isAgg278
 z146:=Tryz.sizeOf278
 v146:=Tryz.zeroValue278
 g1:=by kernel_rfl }
end Go.Proofs
namespace Go.Proofs.YtllefinciimffaaGreatDoor
open Go.RowKit Go.Shelf
theorem aA7 (c:UInt8):((c.toNat:Int)).toNat.toUInt8=c:=by
 rw[aL8];exact UInt8.ofNat_toNat
theorem XD (l:List UInt8) (c:UInt8) (w:World):Calls Tryz.prog 212 #[l,.int .u8 (c.toNat:Int)] w fun e w'=>e=.returned (.int .i64 (Lib.indexByte l c))∧w=w':=by
 have h:=Any.strings_IndexByte Tryz.laysIxB ⟨l.toArray⟩ (c.toNat:Int) w;refine Calls.mono (R:=fun e w'=>e=.returned (.int .i64 (Lib.indexByte l ((c.toNat:Int)).toNat.toUInt8))∧w'=w) h ?_;rintro e w' ⟨rfl,rfl⟩;rw[aA7];exact ⟨rfl,rfl⟩
theorem aA8 (l:List UInt8) (c:UInt8) (w:World):Calls Tryz.prog 14 #[l,.string ⟨#[c]⟩] w fun e w'=>e=.returned (.int .i64 (Lib.countByte l c))∧w=w':=by
 have h:=Any.strings_Count_one Tryz.laysCnt ⟨l.toArray⟩ c w;refine Calls.mono (R:=fun e w'=>e=.returned (.int .i64 (Lib.countByte l c))∧w'=w) h ?_;rintro e w' ⟨rfl,rfl⟩;exact ⟨rfl,rfl⟩
theorem DJ (w:World) (hT:SpOk w):Calls Tryz.prog 211 #[] w (TxtRes rH w):=by
 have H:=aLa (S2 aB1 rH (by decide) (by decide +kernel) (by decide +kernel) w hT);unfold aB1 at H
 go_in
 go_wp2_with fail;refine H.out.mono ?_;rintro e w1 ⟨g,rfl,hr,hb⟩;go_wp2_with fail;go_ret;exact ⟨g,rfl,hr,hb⟩
def jH:List UInt8:=[48,49,50,51,52,53,54,55,56,57,65,66,67,68,69,70,71,72,73,74,75,76,77,78,79,80,81,82,83,84,85,86,87,88,89,90,45,46,32,36,47,43,37]
theorem aCg (l:List UInt8) (c:UInt8):-1≤Lib.indexByte l c:=Lib.indexByte_ge l c
theorem aDl (l:List UInt8) (c:UInt8):0≤Lib.indexByte l c↔c∈l:=by
 constructor
 ·intro h;obtain ⟨o,ho⟩:∃o:Nat,Lib.indexByte l c=o:=⟨(Lib.indexByte l c).toNat,by omega⟩;exact List.mem_of_getElem? (Lib.indexByte_some ho).1
 ·intro h;have h1:=aCg l c;by_cases hn:Lib.indexByte l c = -1
  ·obtain ⟨k,hk,rfl⟩:=aL4 h;exact absurd (aLv hk) (Lib.indexByte_none hn k)
  ·omega
theorem aED {l:List UInt8} {c:UInt8} (h:0≤Lib.indexByte l c):Lib.indexByte l c<l.length∧l[(Lib.indexByte l c).toNat]? = some c:=by
 obtain ⟨o,ho⟩:∃o:Nat,Lib.indexByte l c=o:=⟨(Lib.indexByte l c).toNat,by omega⟩;have h1:=(Lib.indexByte_some ho).1;have h2:=(aLw.1 h1).1;rw[ho];exact ⟨by omega,by simpa using h1⟩
def zQ (c:UInt8):Bool:=jH.contains c
def aT (l:List UInt8):Bool:=l.all zQ
def ZX (c:UInt8):Nat:=(Lib.indexByte jH c).toNat
def S6 (l : List UInt8) : Nat → Nat
 |0=>0
 |i+1=>S6 l i+ZX (l.getD i 0)
def GU (l:List UInt8):List UInt8:=[dG.getD (S6 l l.length % 43) 0]
def fE (l:List UInt8):Int:=if l=[] then 9 else if 40<l.length then 4 else if aT l=true then 0 else 2
def kN (l:List UInt8):List UInt8:=if fE l=0 then GU l else []
theorem PF {c:UInt8}:zQ c=true↔0≤Lib.indexByte jH c:=by
 rw[aDl];unfold zQ;simp
theorem zR {c:UInt8} (h:zQ c=true):Lib.indexByte jH c=(ZX c:Int)∧ZX c<43∧jH[ZX c]? = some c:=by
 have h1:=PF.1 h;obtain ⟨h2,h3⟩:=aED h1;unfold ZX;refine ⟨by omega,?_,h3⟩;have:(jH.length:Int)=43:=rfl;omega
theorem XE {l : List UInt8} (h : aT l = true) : ∀ i, i ≤ l.length → S6 l i ≤ 43 * i
 |0,_=>Nat.le_refl _
 |i+1,hi=>by
  have ih:=XE h i (by omega);have hg:l[i]? = some l[i]:=aLv (by omega);have hk:zQ l[i]=true:=aLO.1 h _ (List.mem_of_getElem? hg);have h2:=(zR hk).2.1;show S6 l i+ZX (l.getD i 0)≤_;rw[aLx,hg];show S6 l i+ZX l[i]≤_;omega
theorem XF {l:List UInt8} {i:Nat} {c:UInt8} (h:aT (l.take i)=true) (hg:l[i]? = some c):aT (l.take (i+1))=zQ c:=by
 rw[aMc,hg];unfold aT at h ⊢;rw[List.all_append,h];simp
theorem JY {l:List UInt8} {i:Nat} {c:UInt8} (hg:l[i]? = some c):S6 l (i+1)=S6 l i+ZX c:=by
 show S6 l i+ZX (l.getD i 0)=_;rw[aLx,hg];rfl
theorem DK {l : List UInt8} : ∀ i, i ≤ l.length → aT (l.take i) = true → S6 l i ≤ 43 * i
 |0,_,_=>Nat.le_refl _
 |i+1,hi,h=>by
  have hg:l[i]? = some l[i]:=aLv (by omega);have h1:aT (l.take i)=true:=by
   unfold aT at h ⊢;rw[aLO] at h ⊢;exact fun x hx=>h x (by rw[aMc];exact List.mem_append_left _ hx)
  have ih:=DK i (by omega) h1;rw[XF h1 hg] at h;have h2:=(zR h).2.1;rw[JY hg];omega
theorem aEE (l:List UInt8) (r n:Nat) (h:r<n) (hn:n≤l.length):(⟨l.toArray⟩:ByteArray).extract r (r+1)=⟨[l.getD r 0].toArray⟩:=by
 rw[kC,show r+1-r=1 by omega]
 congr 2
 rw[List.take_one,List.head?_drop,aLx,aLv (by omega)];rfl
theorem aGD {r:Nat} (h:r<43):jH.getD r 0=dG.getD r 0:=by
 have:∀r<43,jH.getD r 0=dG.getD r 0:=(by decide +kernel);exact this r h
theorem wN (l:List UInt8) (w:World) (hl:l.length≤9223372036854775807) :
 Calls Tryz.prog 210 #[l] w fun e w'=>e=.returned (.tuple #[.string ⟨(kN l).toArray⟩,.int .i64 (fE l)])∧Bl w w':=by
 have hsz:(⟨l.toArray⟩:ByteArray).size=l.length:=Lib.size_mk l
 go_in
 by_cases h0:l=[]
 ·have hE:fE l=9:=(by unfold fE;rw[if_pos h0]);have HV:=aLa (show kN l=[] by unfold kN;rw[hE];rfl);have HE:=aLa hE;have UF:l.isEmpty=true:=(by rw[h0];rfl);clear h0 hE;go_wp2_with fail;exact aL0 (v:=.tuple #[.string ⟨#[]⟩,.int .i64 9]) (by simp[results,Tryz.results210,go_sem]) rfl ⟨by rw[HV.out,HE.out],Bl.refl _⟩
 ·have UF:l.isEmpty=false:=(by cases l with|nil=>exact absurd rfl h0|cons a t=>rfl);by_cases h40:40<l.length
  ·have hE:fE l=4:=(by unfold fE;rw[if_neg h0,if_pos h40]);have HV:=aLa (show kN l=[] by unfold kN;rw[hE];rfl);have HE:=aLa hE;have aKr:(40:Int)<(l.length:Int):=(by omega);clear h0 hE h40;go_wp2_with fail;exact aL0 (v:=.tuple #[.string ⟨#[]⟩,.int .i64 4]) (by simp[results,Tryz.results210,go_sem]) rfl ⟨by rw[HV.out,HE.out],Bl.refl _⟩
  ·have hE:fE l=if aT l=true then 0 else 2:=(by unfold fE;rw[if_neg h0,if_neg h40]);have aKr:(l.length:Int)≤40:=(by omega);have HEE:=aLa hE;have H40:=aLa h40;clear h0 hE h40;go_wp2_with fail;go_loopw [4,16] (fun s4 s16 wr=>∃i:Nat,i≤l.length∧s16=.int .i64 (i:Int)∧s4=.int .i64 (S6 l i:Int)∧aT (l.take i)=true∧w=wr) (fun _ v _=>l.length-(RowKit.intOf v).toNat);case atStart=>exact ⟨0,Nat.zero_le _,rfl,rfl,rfl,rfl⟩
   case round=>
    rename World=>wr;obtain ⟨i,hi,rfl,rfl,hok,hw⟩:=hrel;subst hw;by_cases hlt:i<l.length
    ·have hg:l[i]? = some l[i]:=aLv hlt;obtain ⟨c,hc⟩:=aLt (l[i]);rw[←hc] at hg;obtain ⟨m1,m2⟩:=dS hg;have aGk:(i:Int)<(l.length:Int):=(by omega);have aFm:=XF hok hg;have hss:=JY hg;have hsm:=DK i hi hok;have hix:=XD jH c w;unfold jH at hix;cases hil:zQ c with
     |true=>obtain ⟨hn1,hn2,-⟩:=zR hil;unfold jH at hn1;rw[hn1] at hix;obtain ⟨n,hn⟩:=aLt (ZX c);obtain ⟨s,hs⟩:=aLt (S6 l i);rw[←hn] at hix hn2 hss;rw[←hs] at hss hsm ⊢;obtain ⟨Hix,HSs,HOk⟩:=aLb hix hss (show aT (l.take (i+1))=true by rw[aFm,hil]);clear hix hss hn1 hn hs aFm hil hg hc hok;go_wp2_with fail;refine Hix.out.mono ?_;rintro e w' ⟨rfl,hw⟩;subst hw;go_wp2_with fail;exact ⟨⟨i+1,by omega,by go_num,by rw[HSs.out];simp,HOk.out,by trivial⟩,by simp[RowKit.intOf]<;>omega⟩
     |false=>
      have hn1:Lib.indexByte jH c = -1:=by
       have h1:=aCg jH c;have h2:¬0≤Lib.indexByte jH c:=fun h=>(by rw[PF.2 h] at hil;cases hil);omega
      unfold jH at hn1;rw[hn1] at hix;have Hix:=aLa hix;have wW:aT l=false:=by
       cases hx:aT l with
       |false=>rfl
       |true=>have:=aLO.1 hx c (List.mem_of_getElem? hg);rw[this] at hil;cases hil
      have hE:fE l=2:=HEE.out.trans (by rw[wW];rfl);have HV:=aLa (show kN l=[] by unfold kN;rw[hE];rfl);have HE:=aLa hE;clear hix hss hn1 aFm hil hg hc hok wW hE;go_wp2_with fail;refine Hix.out.mono ?_;rintro e w' ⟨rfl,hw⟩;subst hw;go_wp2_with fail;exact aL0 (v:=.tuple #[.string ⟨#[]⟩,.int .i64 2]) (by simp[results,Tryz.results210,go_sem]) rfl ⟨by rw[HV.out,HE.out],Bl.refl _⟩
    ·obtain rfl:i=l.length:=(by omega);rw[aLC] at hok;have hsm:=XE hok l.length (Nat.le_refl _);have hE:fE l=0:=HEE.out.trans (by rw[hok];rfl);have HV:=aLa (show kN l=GU l by unfold kN;rw[hE];rfl);have HE:=aLa hE;obtain ⟨s,hs⟩:=aLt (S6 l l.length);obtain ⟨r,hr⟩:=aLt (s % 43);have hrm:(s:Int) % 43=(r:Int):=(by omega);have aIO:r<43:=(by omega);have hex:=aEE jH r 43 aIO (by decide);rw[aGD aIO] at hex;obtain ⟨X,hX⟩:∃X,X=[dG.getD r 0]:=⟨_,rfl⟩;rw[←hX] at hex;unfold jH at hex;have HX:=aLa (show GU l=X by unfold GU;rw[←hs,←hr,hX]);rw[←hs] at hsm ⊢;clear hE hok hs hr hX;go_wp2_with fail;exact aL0 (v:=.tuple #[.string ⟨X.toArray⟩,.int .i64 0]) (by simp[results,Tryz.results210,go_sem]) rfl ⟨by rw[HV.out,HE.out,HX.out],Bl.refl _⟩
end Go.Proofs.YtllefinciimffaaGreatDoor
namespace Go.Proofs.YtllefinciimffaaGreatDoor
open Go.RowKit Go.Shelf Go.Sort
def nO (c:UInt8):Nat:=(Lib.indexByte dG c).toNat
def gX (l:List UInt8):List UInt8:=42 :: (l++GU l++[42])
def ksL (l:List UInt8):List Nat:=(gX l).map nO
def mO (l:List UInt8):List UInt8:=fS (ksL l)
theorem XG : ∀ ks : List Nat, fS ks = jD (ks.map jQ)
 |[]=>rfl
 |[k]=>rfl
 |k :: k' :: ks=>by
  show jQ k++48 :: fS (k' :: ks)=jQ k++48 :: jD ((k' :: ks).map jQ);rw[XG (k' :: ks)]
theorem rO : ∀ (a b : List UInt8) (i : Nat), fK i (a ++ b) = fK i a ++ fK (i + a.length) b
 |[],b,i=>rfl
 |c :: a,b,i=>by
  show List.replicate (lG c) (bZ i)++fK (i+1) (a++b)=(List.replicate (lG c) (bZ i)++fK (i+1) a)++fK (i+(a.length+1)) b;rw[rO a b (i+1),aLL,show i+1+a.length=i+(a.length+1) by omega]
theorem JZ {p:List UInt8} {j:Nat} {c:UInt8} (h:p[j]? = some c):fK 0 (p.take (j+1))=fK 0 (p.take j)++List.replicate (lG c) (bZ j):=by
 have hlt:=(aLw.1 h).1;rw[aMc,h,rO,aLA,Nat.min_eq_left (by omega),Nat.zero_add];show _++(List.replicate (lG c) (bZ j)++[])=_;rw[aMj]
theorem zS : ∀ (p : List UInt8) (i : Nat), (fK i p).length ≤ 3 * p.length
 |[],_=>Nat.le_refl _
 |c :: p,i=>by
  have ih:=zS p (i+1);show (List.replicate (lG c) (bZ i)++fK (i+1) p).length≤_;rw[aLy,aLF,aLB];have:lG c≤3:=(by unfold lG;split<;>decide);omega
theorem J0 (k:Nat) (h:k<44):rH[k]? = some (cI k):=by
 unfold cI;rw[aLx,aLv (show k<rH.length from h)];rfl
theorem S7:∀k<44,∀i<9,(cI k).getD i 0=119∨(cI k).getD i 0=110:=by decide +kernel
theorem aA9 {k i:Nat} (hk:k<44) (hi:i<9):∃c,(cI k)[i]? = some c∧(c=119∨c=110):=by
 have h9:=(dR k hk).2.2.2;have hg:(cI k)[i]? = some (cI k)[i]:=aLv (by omega);refine ⟨_,hg,?_⟩;have:=S7 k hk i hi;rw[aLx,hg] at this;exact this
theorem J1:∀c∈dG,nO c<44∧Lib.indexByte dG c=(nO c:Int):=by decide +kernel
theorem tR {l:List UInt8} (h:aT l=true):∀c∈gX l,c∈dG:=by
 have h43:∀c∈jH,c∈dG:=(by decide +kernel);intro c hc;rcases aLN.1 hc with rfl|hc
 ·decide
 ·rcases aLM.1 hc with hc|hc
  ·rcases aLM.1 hc with hc|hc
   ·have:=aLO.1 h c hc;exact h43 c (by unfold zQ at this;simpa using this)
   ·unfold GU at hc;rw[aLQ.1 hc];have:∀r<43,dG.getD r 0∈dG:=(by decide +kernel);exact this _ (Nat.mod_lt _ (by decide))
  ·rw[aLQ.1 hc];decide
theorem pX (l:List UInt8):(gX l).length=l.length+3:=by
 unfold gX GU;simp
theorem XH {k i:Nat} {c:UInt8} (h:(cI k)[i]? = some c):fK 0 ((cI k).take (i+1))=fK 0 ((cI k).take i)++List.replicate (lG c) (bZ i):=JZ h
theorem PG : ∀ ks : List Nat, (∀ k ∈ ks, k < 44) → (fS ks).length ≤ 16 * ks.length
 |[],_=>Nat.le_refl _
 |[k],h=>by
  show (jQ k).length≤16;rw[(dR k (h k (List.mem_cons_self ..))).1];decide
 |k :: k' :: ks,h=>by
  have ih:=PG (k' :: ks) (fun x hx=>h x (List.mem_cons_of_mem _ hx));show (jQ k++48 :: fS (k' :: ks)).length≤_;rw[aLy,aLB,(dR k (h k (List.mem_cons_self ..))).1];simp only[aLB] at ih ⊢;omega
theorem DL {l:List UInt8} (h:aT l=true):∀k∈ksL l,k<44:=fun k hk=>by
 obtain ⟨c,hc,rfl⟩:=aMf.1 hk;exact (J1 c (tR h c hc)).1
theorem DM {l:List UInt8} (h:aT l=true):(mO l).length≤16*(l.length+3):=by
 have:=PG (ksL l) (DL h);unfold ksL at this;rw[aLz,pX] at this;exact this
theorem aJu:(⟨#[49,48]⟩:ByteArray).extract 0 1=⟨#[49]⟩:=rfl
theorem aJv:(⟨#[49,48]⟩:ByteArray).extract 1 2=⟨#[48]⟩:=rfl
theorem S8 (w:World) (e:TypeId) (l:List UInt8):∀(i:Nat) (c:UInt8),l[i]? = some c→(Lib.bytesWorld w e ⟨l.toArray⟩).cell? ⟨w.heap.size,i,none⟩=some (.int .u8 (c.toNat:Int)):=fun i c h=>by
 have hlt:=(aLw.1 h).1;have hh:=(yV w e l i (by simpa using hlt)).1;rw[Nat.zero_add] at hh;rw[hh];unfold aAH;have:l.toArray[i]! = c:=by
  rw[getElem!_pos l.toArray i (by simpa using hlt)];have:=(aLw.1 h).2;simpa using this
 rw[this]
def mV (l:List UInt8):List UInt8:=if fE l=0 then mO l else []
theorem S9 (l:List UInt8) (w:World) (hl:l.length≤9223372036854775807) (hT:SpOk w) :
 Calls Tryz.prog 155 #[l] w fun e w'=>e=.returned (.tuple #[.string ⟨(mV l).toArray⟩,.int .i64 (fE l)])∧Bl w w':=by
 have HT:=aLa hT;have hc:=fun wx=>wN l wx hl;obtain ⟨ev,hev⟩:=aLt (fE l);rw[←hev] at hc ⊢;by_cases h0:ev=0
 ·subst h0;have hv:kN l=GU l:=(by unfold kN;rw[←hev];rfl);have HV:=aLa (show mV l=mO l by unfold mV;rw[←hev];rfl);rw[hv] at hc;have hok:aT l=true∧l.length≤40:=by
   unfold fE at hev;by_cases a:l=[]
   ·rw[if_pos a] at hev;cases hev
   ·rw[if_neg a] at hev;by_cases b:40<l.length
    ·rw[if_pos b] at hev;cases hev
    ·rw[if_neg b] at hev;refine ⟨?_,by omega⟩;cases hx:aT l with
     |true=>rfl
     |false=>rw[hx] at hev;cases hev
  obtain ⟨hok,h40⟩:=hok;obtain ⟨X,hX⟩:=aLt (GU l);have hX1:X.length=1:=(by rw[hX];rfl);obtain ⟨A,hA⟩:=aLt (42 :: l);obtain ⟨B,hB⟩:=aLt (A++X);obtain ⟨W,hW⟩:=aLt (gX l);have hWl:W.length=l.length+3:=(by rw[hW,pX]);have hAl:A.length=l.length+1:=(by rw[hA];rfl);have hBl:B.length=l.length+2:=(by rw[hB,aLy,hAl,hX1]);have hcA:(⟨#[42]⟩:ByteArray)++⟨l.toArray⟩=⟨A.toArray⟩:=(by rw[hA];exact cE [42] l);have hcB:(⟨A.toArray⟩:ByteArray)++⟨X.toArray⟩=⟨B.toArray⟩:=(by rw[hB];exact cE A X);have hcW:(⟨B.toArray⟩:ByteArray)++⟨#[42]⟩=⟨W.toArray⟩:=by
   rw[show (⟨#[42]⟩:ByteArray)=⟨[42].toArray⟩ from rfl,cE,hW,hB,hA,hX];unfold gX;simp
  obtain ⟨HWm,HC,HCl⟩:=aLb (show ∀c∈W,c∈dG from hW ▸ tR hok) (show mO l=jD ((W.map nO).map jQ) by rw[hW];exact XG _) (DM hok);rw[←hX] at hc;have Hc:=aLa hc;have hsl:(⟨l.toArray⟩:ByteArray).size=l.length:=Lib.size_mk l;have hsX:(⟨X.toArray⟩:ByteArray).size=X.length:=Lib.size_mk X;have hsA:(⟨A.toArray⟩:ByteArray).size=A.length:=Lib.size_mk A;have hsB:(⟨B.toArray⟩:ByteArray).size=B.length:=Lib.size_mk B;have hsW:(⟨W.toArray⟩:ByteArray).size=W.length:=Lib.size_mk W;have o1:¬(9223372036854775807<1+l.length):=(by omega);have o2:¬(9223372036854775807<A.length+X.length):=(by omega);have o3:¬(9223372036854775807<B.length+1):=(by omega);clear hX hA hB hW hc hok hv hev
  go_in
  go_wp2_with fail;refine (Hc.out _).mono ?_;rintro e w1 ⟨rfl,hb1⟩;go_wp2_with fail;refine (DJ _ (HT.out.bl hb1)).mono ?_;rintro e w2 ⟨gp,rfl,hr2,hb2⟩;have HB2:=aLa (hb1.trans hb2);have HR2:=aLa hr2;clear hb1 hb2 hr2 Hc;go_wp2_with fail;rw[Lib.run_convert_string_bytes w2 9 92 5 ⟨W.toArray⟩ Tryz.underlying9 Tryz.underlying92 Tryz.underlying5,Lib.size_mk];have hH:=S8 w2 5 W;have hb3:=OX w2 5 ⟨W.toArray⟩;obtain ⟨gb,hgb⟩:=aLt w2.heap.size;obtain ⟨cp,hcp⟩:=aLt (grownCap w2 W.length 0 5);rw[←hgb] at hH ⊢;rw[←hcp];generalize Lib.bytesWorld w2 5 ⟨W.toArray⟩=w3 at hH hb3 ⊢;obtain ⟨HH,HB3,HR3⟩:=aLb hH (HB2.out.trans hb3) (HR2.out.bl hb3);clear hH hb3 hgb hcp HB2 HR2;go_wp2_with fail;go_loopw [7,30] (fun s7 s30 wr=>∃(i:Nat) (v:Value),i≤W.length∧s30=.int .i64 (i:Int)∧v=s7∧Bl w3 wr∧wr.ownsRow w3.heap.size 9 1 v i (bE (((W.take i).map nO).map jQ))) (fun _ v _=>W.length-(RowKit.intOf v).toNat);case atStart=>exact ⟨0,_,Nat.zero_le _,rfl,rfl,Bl.refl _,World.ownsRow_nil _ _ _ _⟩
  case round=>
   rename World=>wr;obtain ⟨i,v,hi,rfl,rfl,hbr,cA⟩:=hrel;have HBr:=aLa hbr;have HOw:=aLa cA;clear hbr cA;by_cases hlt:i<W.length
   ·have hg:W[i]? = some W[i]:=aLv hlt;obtain ⟨c,hc⟩:=aLt (W[i]);rw[←hc] at hg;have hm:=HWm.out c (List.mem_of_getElem? hg);obtain ⟨aDX,aIP⟩:=J1 c hm;have hix:=fun wx=>XD dG c wx;simp only[aIP] at hix;have hts:((W.take (i+1)).map nO).map jQ=((W.take i).map nO).map jQ++[jQ (nO c)]:=by
     rw[aMc,hg,aLS,aLS];rfl
    have K2:=HBr.out.at (HH.out i c hg);obtain ⟨k,hk⟩:=aLt (nO c);rw[←hk] at aDX hix hts;unfold dG at hix;have aGk:(i:Int)<(W.length:Int):=(by omega);have Hix:=aLa hix;have HTs:=aLa hts;obtain ⟨adp,eap,cp0⟩:=kS (HR3.out.bl HBr.out) (J0 k aDX);obtain rfl:=aLZ eap;rw[iT] at cp0;have hkI:(k:Int)<(rH.length:Int):=(by show (k:Int)<44;omega);clear hix aIP hts hk hm hg hc;go_wp2_with fail;refine (Hix.out _).mono ?_;rintro e w' ⟨rfl,hw⟩;subst hw;go_wp2_with fail;go_loopw [11,36] (fun s11 s36 wx=>∃j:Nat,j≤9∧s36=.int .i64 (j:Int)∧s11=.string ⟨(fK 0 ((cI k).take j)).toArray⟩∧Bl wr wx) (fun _ v _=>9-(RowKit.intOf v).toNat);case atStart=>exact ⟨0,Nat.zero_le _,rfl,rfl,Bl.refl _⟩
    case round=>
     rename World=>wx;obtain ⟨j,hj,rfl,rfl,hbx⟩:=hrel;have hml:=zS ((cI k).take j) 0;rw[aLA] at hml;by_cases hjt:j<9
     ·obtain ⟨p,hp,hp2⟩:=aA9 aDX hjt;obtain ⟨n1,n2⟩:=dS hp;have hms:=XH hp;obtain ⟨M,hM⟩:=aLt (fK 0 ((cI k).take j));rw[←hM] at hms hml ⊢;have hMl:M.length≤27:=(by omega);have hsM:(⟨M.toArray⟩:ByteArray).size=M.length:=Lib.size_mk M;have hcx:=hbx.at cp0;obtain ⟨q,hq⟩:=aLt (cI k);rw[←hq] at hcx;have n1':j<(⟨q.toArray⟩:ByteArray).size:=(by rw[hq];exact n1);have n2':(⟨q.toArray⟩:ByteArray)[j]'n1'=p:=(by subst hq;exact n2);have HMs:=aLa hms;have HBx:=aLa hbx;have ht0:=aJu;have ht1:=aJv;clear hms hM hml hp hbx n1 n2 hq;by_cases aIQ:j % 2=0
      ·rcases hp2 with rfl|rfl
       ·have HB:=aLa (show bZ j=49 by unfold bZ;rw[if_pos aIQ]);have hmr:(j:Int) % 2=0:=(by omega);have aDY:=fun wx=>fR 49 (.inr rfl) 3 (by decide) (by decide) wx;obtain ⟨rp,hrp⟩:=aLt (List.replicate 3 (49:UInt8));have hrl:rp.length=3:=(by rw[hrp];rfl);simp only[←hrp] at aDY;have aHx:=aLa aDY;have HRp:=aLa hrp;have hsR:(⟨rp.toArray⟩:ByteArray).size=rp.length:=Lib.size_mk rp;have hoR:¬(9223372036854775807<M.length+rp.length):=(by omega);have sP:=cE M rp;clear aDY hrp;go_wp2_with fail;refine (aHx.out _).mono ?_;rintro e w5 ⟨rfl,hb5⟩;have HB5:=aLa (HBx.out.trans hb5);clear hb5;go_wp2_with fail;exact ⟨⟨j+1,by omega,by go_num,by rw[HMs.out,HB.out,show lG 119=3 from rfl,←HRp.out,←sP],HB5.out⟩,by simp[RowKit.intOf]<;>omega⟩
       ·have HB:=aLa (show bZ j=49 by unfold bZ;rw[if_pos aIQ]);have hmr:(j:Int) % 2=0:=(by omega);have hoR:¬(9223372036854775807<M.length+1):=(by omega);have sP:(⟨M.toArray⟩:ByteArray)++⟨#[49]⟩=⟨(M++[49]).toArray⟩:=cE M [49];go_wp2_with fail;exact ⟨⟨j+1,by omega,by go_num,by rw[HMs.out,HB.out,show List.replicate (lG 110) (49:UInt8)=[49] from rfl,←sP],HBx.out⟩,by simp[RowKit.intOf]<;>omega⟩
      ·rcases hp2 with rfl|rfl
       ·have HB:=aLa (show bZ j=48 by unfold bZ;rw[if_neg (by omega)]);have hmr:(j:Int) % 2=1:=(by omega);have aDY:=fun wx=>fR 48 (.inl rfl) 3 (by decide) (by decide) wx;obtain ⟨rp,hrp⟩:=aLt (List.replicate 3 (48:UInt8));have hrl:rp.length=3:=(by rw[hrp];rfl);simp only[←hrp] at aDY;have aHx:=aLa aDY;have HRp:=aLa hrp;have hsR:(⟨rp.toArray⟩:ByteArray).size=rp.length:=Lib.size_mk rp;have hoR:¬(9223372036854775807<M.length+rp.length):=(by omega);have sP:=cE M rp;clear aDY hrp;go_wp2_with fail;refine (aHx.out _).mono ?_;rintro e w5 ⟨rfl,hb5⟩;have HB5:=aLa (HBx.out.trans hb5);clear hb5;go_wp2_with fail;exact ⟨⟨j+1,by omega,by go_num,by rw[HMs.out,HB.out,show lG 119=3 from rfl,←HRp.out,←sP],HB5.out⟩,by simp[RowKit.intOf]<;>omega⟩
       ·have HB:=aLa (show bZ j=48 by unfold bZ;rw[if_neg (by omega)]);have hmr:(j:Int) % 2=1:=(by omega);have hoR:¬(9223372036854775807<M.length+1):=(by omega);have sP:(⟨M.toArray⟩:ByteArray)++⟨#[48]⟩=⟨(M++[48]).toArray⟩:=cE M [48];go_wp2_with fail;exact ⟨⟨j+1,by omega,by go_num,by rw[HMs.out,HB.out,show List.replicate (lG 110) (48:UInt8)=[48] from rfl,←sP],HBx.out⟩,by simp[RowKit.intOf]<;>omega⟩
     ·obtain rfl:j=9:=(by omega);have hm9:fK 0 ((cI k).take 9)=jQ k:=by
       rw[aL6 (by rw[(dR k aDX).2.2.2];omega)];rfl
      rw[hm9];obtain ⟨M,hM⟩:=aLt (jQ k);have aKs:=aLa (show ((W.take (i+1)).map nO).map jQ=((W.take i).map nO).map jQ++[M] by rw[HTs.out,hM]);rw[←hM];have HBx:=aLa hbx;have hi43:i≤43:=(by omega);clear hm9 hM hml hbx;go_wp2_with (at_builtin;refine dJ (w1:=w3) rfl (.tmp 58) (.tmp 60) 105 rfl 9 (.string ByteArray.empty) 16 Tryz.underlying105 EL rfl w3.heap.size _ i _ rfl (.string ⟨M.toArray⟩) rfl rfl (HBr.out.trans HBx.out) (Nat.le_refl _) (by have:=HBr.out.le;have:=HBx.out.le;omega) (fX HOw.out HBx.out) (by omega) (by unfold maxLen;omega) ?_;intro v' w8 cF hb8 hg8);have H9:=aLa (show w8.ownsRow w3.heap.size 9 1 v' (i+1) (bE (((W.take (i+1)).map nO).map jQ)) by
       rw[aKs.out];unfold bE at cF ⊢;rw[aLS];exact cF)
      have HB8:=aLa hb8;clear cF hb8 hg8;go_wp2_with fail;exact ⟨⟨i+1,v',by omega,by go_num,rfl,HB8.out,H9.out⟩,by simp[RowKit.intOf]<;>omega⟩
   ·obtain rfl:i=W.length:=(by omega);rw[aLC] at HOw;obtain ⟨ts,hts⟩:=aLt ((W.map nO).map jQ);have htl:ts.length=W.length:=(by rw[hts,aLz,aLz]);rw[←hts] at HOw;have HCd:=aLa (show mO l=jD ts by rw[HC.out,hts]);have hjl:=HCl.out;rw[HCd.out] at hjl;obtain ⟨g7,c7,hv,-,aDN⟩:=lX HOw.out (by omega);obtain ⟨A7,c7',hv',hrd⟩:=cU HOw.out;rw[hv] at hv';injection hv' with e1 e2 e3;subst e1;subst e3;have hjn:=WN (some ⟨g7,0,none⟩) c7 ts wr (by rw[htl];exact hrd) (by omega) (by omega) (by omega);rw[htl] at hjn;have Hjn:=aLa hjn;subst hv;have hnl:¬((W.length:Int)<(l.length:Int)+3):=(by omega);clear hjn hrd hts htl hjl aDN hWl;go_wp2_with fail;refine Hjn.out.mono ?_;rintro e w9 ⟨rfl,hb9⟩;go_wp2_with fail;exact aL0 (v:=.tuple #[.string ⟨(jD ts).toArray⟩,.int .i64 0]) (by simp[results,Tryz.results155,go_sem]) rfl ⟨by rw[HV.out,HCd.out],(HB3.out.trans HBr.out).trans hb9⟩
 ·have HV:=aLa (show mV l=[] by unfold mV;rw[if_neg (by rw[←hev];exact h0)]);have hv:kN l=[]:=(by unfold kN;rw[if_neg (by rw[←hev];exact h0)]);rw[hv] at hc;have Hc:=aLa hc;have hq:(ev != 0)=true:=(by rw[bne_iff_ne];exact h0);clear hc hv hev
  go_in
  go_wp2_with fail;refine (Hc.out _).mono ?_;rintro e w1 ⟨rfl,hb1⟩;go_wp2_with fail;exact aL0 (v:=.tuple #[.string ⟨#[]⟩,.int .i64 ev]) (by simp[results,Tryz.results155,go_sem]) rfl ⟨by rw[HV.out],hb1⟩
end Go.Proofs.YtllefinciimffaaGreatDoor
namespace Go.Proofs.YtllefinciimffaaGreatDoor
open Go.RowKit Go.Shelf
def rn (s : List UInt8) : Nat → List Nat × Nat
 |0=>([],0)
 |i+1=>if i=0 then ([],1) else if s[i]? = s[i-1]? then ((rn s i).1,(rn s i).2+1) else ((rn s i).1++[(rn s i).2],1)
def rD (s:List UInt8):List Nat:=(rn s s.length).1++[(rn s s.length).2]
def tS (s:List UInt8) (i:Nat):List Nat:=if i=0 then [] else (rn s i).1++[(rn s i).2]
def lU (s:List UInt8):Bool:=!s.isEmpty&&(aM s [48,49]&&(s.getD 0 0==49&&s.getD (s.length-1) 0==49))
theorem XI (s : List UInt8) : ∀ i, (rn s i).1.length ≤ i ∧ (rn s i).2 ≤ i
 |0=>⟨Nat.le_refl _,Nat.le_refl _⟩
 |i+1=>by
  obtain ⟨h1,h2⟩:=XI s i;unfold rn;split
  ·exact ⟨Nat.zero_le _,by omega⟩
  ·split
   ·exact ⟨by show (rn s i).1.length≤i+1;omega,by show (rn s i).2+1≤i+1;omega⟩
   ·refine ⟨?_,by show 1≤i+1;omega⟩;show ((rn s i).1++[(rn s i).2]).length≤i+1;rw[aLy,aLR];omega
theorem aEF (s:List UInt8):rn s 1=([],1):=rfl
theorem XJ {s:List UInt8} {i:Nat} (h0:1≤i) (h:s[i]? = s[i-1]?):rn s (i+1)=((rn s i).1,(rn s i).2+1):=by
 show (if i=0 then _ else if s[i]? = s[i-1]? then _ else _)=_;rw[if_neg (by omega),if_pos h]
theorem aCh {s:List UInt8} {i:Nat} (h0:1≤i) (h:s[i]? ≠ s[i-1]?):rn s (i+1)=((rn s i).1++[(rn s i).2],1):=by
 show (if i=0 then _ else if s[i]? = s[i-1]? then _ else _)=_;rw[if_neg (by omega),if_neg h]
theorem aDm {a b:UInt8} (ha:a=48∨a=49) (hb:b=48∨b=49) (n:Nat) (h:b=bZ n) (hne:a≠b):a=bZ (n+1):=by
 have h2:=OG n;have h3:bZ (n+1)=48∨bZ (n+1)=49:=(by unfold bZ;split;exact .inr rfl;exact .inl rfl);rw[h] at hne hb;rcases ha with rfl|rfl<;>rcases hb with hb|hb<;>rcases h3 with h3|h3<;>rw[hb] at hne h2<;>rw[h3] at h2 ⊢ <;> first|rfl|exact absurd rfl hne|exact absurd rfl h2
theorem sE (n c:Nat) (l:List Nat) (h:l.length=n):aI 0 (l++[c])=aI 0 l++List.replicate c (bZ n):=by
 rw[bF,h,Nat.zero_add];show _++(List.replicate c (bZ n)++[])=_;rw[aMj]
theorem XK {s : List UInt8} (hm : aM s [48, 49] = true) (h49 : s[0]? = some 49) : ∀ i, 1 ≤ i → i ≤ s.length → aI 0 ((rn s i).1 ++ [(rn s i).2]) = s.take i ∧ (∀ n ∈ (rn s i).1, 1 ≤ n) ∧ 1 ≤ (rn s i).2 ∧ s[i - 1]? = some (bZ (rn s i).1.length)
 |0,h,_=>absurd h (by decide)
 |i+1,_,hi=>by
  by_cases h0:i=0
  ·subst h0;rw[aEF];refine ⟨?_,fun n h=>(by cases h),Nat.le_refl _,h49⟩;cases s with
   |nil=>cases h49
   |cons a t=>obtain rfl:=aLZ h49;rfl
  ·obtain ⟨e1,e2,e3,e4⟩:=XK hm h49 i (by omega) (by omega);have hg:s[i]? = some s[i]:=aLv (by omega);have bits:∀(j:Nat) (b:UInt8),s[j]? = some b→b=48∨b=49:=fun j b h=>by
    have:=aLO.1 hm b (List.mem_of_getElem? h);simpa using this
   by_cases hs:s[i]? = s[i-1]?
   ·rw[XJ (by omega) hs];refine ⟨?_,e2,by show 1≤(rn s i).2+1;omega,by rw[Nat.add_sub_cancel,hs];exact e4⟩;show aI 0 ((rn s i).1++[(rn s i).2+1])=_;rw[sE _ _ _ rfl,List.replicate_succ',←aLL,←sE _ _ _ rfl,e1,aMc,hs,e4];rfl
   ·rw[aCh (by omega) hs];have hb:=bits i _ hg;have hb2:=bits (i-1) _ e4;have hx:s[i]=bZ ((rn s i).1.length+1):=aDm hb hb2 _ rfl (fun e=>hs (by rw[hg,e4,e]));refine ⟨?_,fun n hn => ?_,Nat.le_refl _,?_⟩
    ·show aI 0 (((rn s i).1++[(rn s i).2])++[1])=_;rw[sE ((rn s i).1.length+1) _ _ (by rw[aLy];rfl),e1,aMc,hg,hx];rfl
    ·rcases aLM.1 hn with hn|hn
     ·exact e2 n hn
     ·rw[aLQ.1 hn];exact e3
    ·rw[Nat.add_sub_cancel,hg,hx];show _=some (bZ ((rn s i).1++[(rn s i).2]).length);rw[aLy];rfl
theorem XL {s:List UInt8} (h:lU s=true):s≠[]∧aM s [48,49]=true∧s[0]? = some 49∧s[s.length-1]? = some 49:=by
 unfold lU at h;simp only[aLV,Bool.not_eq_true',beq_iff_eq] at h;obtain ⟨h1,h2,h3,h4⟩:=h;have hne:s≠[]:=fun e=>(by rw[e] at h1;cases h1);have hl:0<s.length:=List.length_pos_iff.2 hne;refine ⟨hne,h2,?_,?_⟩
 ·rw[aLx,aLv hl] at h3;rw[aLv hl];exact congrArg some h3
 ·rw[aLx,aLv (by omega)] at h4;rw[aLv (by omega)];exact congrArg some h4
theorem cAa {s:List UInt8} (h:lU s=true):aI 0 (rD s)=s∧∀n∈rD s,1≤n:=by
 obtain ⟨h1,h2,h3,-⟩:=XL h;have hl:0<s.length:=List.length_pos_iff.2 h1;obtain ⟨e1,e2,e3,-⟩:=XK h2 h3 s.length hl (Nat.le_refl _);refine ⟨by unfold rD;rw[e1,aLC],fun n hn => ?_⟩;unfold rD at hn;rcases aLM.1 hn with hn|hn
 ·exact e2 n hn
 ·rw[aLQ.1 hn];exact e3
theorem aBa {s:List UInt8} (hm:aM s [48,49]=true) (h:lU s=false):UK s=none:=by
 cases hd:UK s with
 |none=>rfl
 |some ks=>
  exfalso;have hj:=yD hd;have hlt:=U9 hd;obtain ⟨h1,h2⟩:=(iV _ _).1 hd;have hne:=LM hd;have hkl:0<ks.length:=List.length_pos_iff.2 hne;obtain ⟨k0,hk0⟩:∃k,ks[0]? = some k:=⟨_,aLv hkl⟩;obtain ⟨kn,hkn⟩:∃k,ks[ks.length-1]? = some k:=⟨_,aLv (by omega)⟩;obtain ⟨-,l0,g0⟩:=(vS _ _ _).1 (h2 _ _ hk0);obtain ⟨-,ln,gn⟩:=(vS _ _ _).1 (h2 _ _ hkn);have f0:s.getD 0 0=49:=by
   have:=(dR k0 l0).2.1;rw[←g0,aLx,aLH (by decide),aLI] at this;rw[aLx];exact this
  have fn:s.getD (s.length-1) 0=49:=by
   have:=(dR kn ln).2.2.1;rw[←gn,aLx,aLH (by decide),aLI] at this;rw[aLx,show s.length-1=16*(ks.length-1)+14 by omega];exact this
  have UF:s.isEmpty=false:=by
   cases s with
   |nil=>simp at h1;omega
   |cons a t=>rfl
  unfold lU at h;rw[UF,hm,f0,fn] at h;cases h
def LenRes (s:List UInt8) (w:World) (e:Ending) (w':World):Prop:=∃R m d,e=.returned (.tuple #[.slice R m d,.bool (lU s)])∧(lU s=false→R=none∧m=0)∧(lU s=true→m=(rD s).length∧Reads w' 1 R m (aZ (rD s))∧m≤d)∧Bl w w'
theorem F1 {s:List UInt8} {w w':World} (h:lU s=false) (hb:Bl w w'):LenRes s w (.returned (.tuple #[.slice none 0 0,.bool false])) w':=
 ⟨none,0,0,by rw[h],fun _=>⟨rfl,rfl⟩,fun h'=>(by rw[h] at h';cases h'),hb⟩
theorem M4 (s:List UInt8) (w:World) (hl:s.length≤1048576) :
 Calls Tryz.prog 343 #[s] w (LenRes s w):=by
 have Ht:=aLa (tI s [48,49] w (by omega) (by decide) (by
  intro j b h;have:∀b∈([48,49]:List UInt8),b.toNat<128:=(by decide);exact this b (List.mem_of_getElem? h)))
 have hsz:(⟨s.toArray⟩:ByteArray).size=s.length:=Lib.size_mk s;have HD:=aLa (show lU s=(!s.isEmpty&&(aM s [48,49]&&(s.getD 0 0==49&&s.getD (s.length-1) 0==49))) from rfl)
 go_in
 by_cases h0:s=[]
 ·have UF:s.isEmpty=true:=(by rw[h0];rfl);have HB:=aLa (show lU s=false by rw[HD.out,UF];rfl);clear h0;go_wp2_with fail;exact aL0 (v:=.tuple #[.slice none 0 0,.bool false]) (by simp[results,Tryz.results343,go_sem]) rfl (F1 HB.out (Bl.refl _))
 ·have UF:s.isEmpty=false:=(by cases s with|nil=>exact absurd rfl h0|cons a t=>rfl);have hl1:0<s.length:=List.length_pos_iff.2 h0;clear h0;cases hmd:aM s [48,49] with
  |false=>have htr:(Lib.trimS s [48,49]).isEmpty=false:=(by rw[kG,hmd]);have HB:=aLa (show lU s=false by rw[HD.out,UF,hmd];rfl);clear hmd;go_wp2_with fail;refine Ht.out.mono ?_;rintro e w1 ⟨rfl,hb1⟩;go_wp2_with fail;exact aL0 (v:=.tuple #[.slice none 0 0,.bool false]) (by simp[results,Tryz.results343,go_sem]) rfl (F1 HB.out hb1)
  |true=>
   have htr:(Lib.trimS s [48,49]).isEmpty=true:=(by rw[kG,hmd]);have HMd:=aLa hmd;obtain ⟨a,ha⟩:∃a,s[0]? = some a:=⟨_,aLv hl1⟩;obtain ⟨z,hz⟩:∃z,s[s.length-1]? = some z:=⟨_,aLv (by omega)⟩;obtain ⟨a1,a2⟩:=dS ha;obtain ⟨z1,z2⟩:=dS hz;have hga:s.getD 0 0=a:=(by rw[aLx,ha];rfl);have hgz:s.getD (s.length-1) 0=z:=(by rw[aLx,hz];rfl);have HD2:=aLa (show lU s=(a==49&&z==49) by rw[HD.out,UF,hmd,hga,hgz];rfl);obtain ⟨L,hL⟩:=aLt (s.length-1);have hLI:(s.length:Int)-1=(L:Int):=(by omega);have hLs:(L:Int)<(s.length:Int):=(by omega);have z1':L<(⟨s.toArray⟩:ByteArray).size:=(by rw[hL];exact z1);have z2':(⟨s.toArray⟩:ByteArray)[L]'z1'=z:=(by subst hL;exact z2);have HLn:=aLa hL;clear hmd hga hgz hz ha z1 z2 hL HD;cases h49:(a==49) with
   |false=>
    have hne:¬((a.toNat:Int)=49):=fun e=>by
     have:a=49:=UInt8.toNat_inj.1 (by have:(49:UInt8).toNat=49:=rfl;omega);rw[this] at h49;cases h49
    have aKt:((a.toNat:Int)==49)=false:=(by rw[aLU];exact hne);have HB:=aLa (show lU s=false by rw[HD2.out,h49];rfl);clear h49;go_wp2_with fail;refine Ht.out.mono ?_;rintro e w1 ⟨rfl,hb1⟩;go_wp2_with fail;exact aL0 (v:=.tuple #[.slice none 0 0,.bool false]) (by simp[results,Tryz.results343,go_sem]) rfl (F1 HB.out hb1)
   |true=>
    have aIR:a=49:=(by simpa using h49);cases h50:(z==49) with
    |false=>
     have hne:¬((z.toNat:Int)=49):=fun e=>by
      have:z=49:=UInt8.toNat_inj.1 (by have:(49:UInt8).toNat=49:=rfl;omega);rw[this] at h50;cases h50
     have aKt:((z.toNat:Int)==49)=false:=(by rw[aLU];exact hne);have HB:=aLa (show lU s=false by rw[HD2.out,h49,h50];rfl);clear h49 h50;subst aIR;go_wp2_with fail;refine Ht.out.mono ?_;rintro e w1 ⟨rfl,hb1⟩;go_wp2_with fail;exact aL0 (v:=.tuple #[.slice none 0 0,.bool false]) (by simp[results,Tryz.results343,go_sem]) rfl (F1 HB.out hb1)
    |true=>
     have aKu:z=49:=(by simpa using h50);have HB:=aLa (show lU s=true by rw[HD2.out,h49,h50];rfl);clear h49 h50;subst aIR aKu;go_wp2_with fail;refine Ht.out.mono ?_;rintro e w1 ⟨rfl,hb1⟩;have HB1:=aLa hb1;clear hb1 Ht;go_wp2_with fail;go_loopw [4,28] (fun s4 s28 wr=>∃(i:Nat) (v:Value),i≤s.length∧s28=.int .i64 (i:Int)∧v=s4∧Bl w1 wr∧Hid (wr.ownsRow w1.heap.size 3 1 v (tS s i).length (aZ (tS s i)))) (fun _ v _=>s.length-(RowKit.intOf v).toNat);case atStart=>exact ⟨0,_,Nat.zero_le _,rfl,rfl,Bl.refl _,aLa (World.ownsRow_nil _ _ _ _)⟩
     case round=>
      rename World=>wr;obtain ⟨i,v,hi,rfl,rfl,hbr,cA⟩:=hrel;have HBr:=aLa hbr;clear hbr;obtain ⟨aE9,aFY⟩:=XI s i;by_cases hlt:i<s.length
      ·have hg:s[i]? = some s[i]:=aLv hlt;obtain ⟨c,hc⟩:=aLt (s[i]);rw[←hc] at hg;obtain ⟨m1,m2⟩:=dS hg;have aGk:(i:Int)<(s.length:Int):=(by omega);by_cases hi0:i=0
       ·subst hi0;have h0n:¬((0:Int)<((0:Nat):Int)):=(by decide);have HP1:=aLa (show tS s 1=[1] from rfl);have aFn:wr.ownsRow w1.heap.size 3 1 v 0 []:=cA.out;have HOw:=aLa aFn;clear cA aFn hg hc;go_upto_region 7 with fail;refine aLs [aLq 0,aLq 1,aLq 2,aLq 3,aLq 4,aLq 5,aLq 6,aLq 7,aLq 8,aLq 9,aLq 10,aLq 11] (by kernel_rfl) ?_;apply Flow.mv _ rfl
        ·intro a b;simp only[sqA,Act.eval,sqC];exact b
        apply Flow.calm2 _ _ rfl rfl
        ·intro a b c d;obtain ⟨e,f⟩:=b.rule;go_simp;(try go_ints);exact d
        ·intro a b;simp only[sqA];exact b
        apply Flow.mv _ rfl
        ·intro a b;simp only[sqA,Act.eval,sqC];exact b
        iterate 8
         first
          | (apply Flow.pass rfl (by rfl))
          | (apply Flow.calmG _ rfl (by rfl)
             ·intro a b;obtain ⟨e,f⟩:=b.rule;go_simp;all_goals (try rfl))
         simp only[sqA];try go_ints
        apply Flow.calm2 _ _ rfl rfl
        ·intro a b c d;obtain ⟨e,f⟩:=b.rule;go_simp;(try go_ints);exact d
        ·intro a b;simp only[sqA];exact b
        refine Flow.done ?_;have ZZ:=HBr.out.drew;have HO2:=fX HOw.out (Bl.refl wr).drew;have t2:(0+1)*8≤140737488355328:=(by decide);have t3:0+1≤maxLen:=(by unfold maxLen;decide);have t1:w1.heap.size≤wr.drew.heap.size:=ZZ.le;go_upto_region 9 with fail;generalize hwq:wr.drew=wq at ZZ HO2 t1 ⊢;clear hwq;go_wp2_with (at_builtin;refine dJ (w1:=w1) rfl (.tmp 51) (.tmp 52) 47 rfl 3 (.int .i64 0) 8 Tryz.underlying47 sR rfl w1.heap.size _ 0 [] rfl (.int .i64 1) rfl ?a1 ?a2 ?a3 ?a4 ?a5 ?a6 ?a7 ?a8;exact rfl;exact ZZ;exact Nat.le_refl _;exact t1;exact HO2;exact t2;exact t3;intro v' w8 cF hb8 hg8);have H9:=aLa (show w8.ownsRow w1.heap.size 3 1 v' (tS s 1).length (aZ (tS s 1)) by rw[HP1.out];exact cF);have HB8:=aLa hb8;clear cF hb8 hg8;go_wp2_with fail;exact ⟨⟨1,v',by omega,by go_num,rfl,HB8.out,H9⟩,by simp[RowKit.intOf]<;>omega⟩
       ·have hi1:(0:Int)<(i:Int):=(by omega);have hi1N:0<i:=(by omega);obtain ⟨j,hj⟩:=aLt (i-1);have hjI:(i:Int)-1=(j:Int):=(by omega);have hjN:j<s.length:=(by omega);have hgj:s[j]? = some s[j]:=aLv (by omega);obtain ⟨b,hbb⟩:=aLt (s[j]'(by omega));rw[←hbb] at hgj;obtain ⟨n1,n2⟩:=dS hgj;have hP:tS s i=(rn s i).1++[(rn s i).2]:=if_neg hi0;have hP2:tS s (i+1)=(rn s (i+1)).1++[(rn s (i+1)).2]:=if_neg (by omega);rw[hP] at cA;obtain ⟨l,hll⟩:=aLt ((rn s i).1);obtain ⟨q,hqq⟩:=aLt ((rn s i).2);have hrs:=XJ (s:=s) (i:=i) (by omega);have hrn:=aCh (s:=s) (i:=i) (by omega);rw[←hll,←hqq] at hrs hrn cA;rw[←hll] at aE9;rw[←hqq] at aFY;rw[hg,show i-1=j from hj.symm,hgj] at hrs hrn;have cL:(l++[q]).length=l.length+1:=(by rw[aLy];rfl);rw[cL] at cA;obtain ⟨n,hn⟩:=aLt l.length;have hnc:aZ (l++[q])=aZ l++[.int .i64 (q:Int)]:=(by unfold aZ;rw[aLS];rfl);rw[hnc,←hn] at cA;rw[←hn] at aE9;obtain ⟨g,cap,hv,hgB,-⟩:=lX cA.out (by omega);subst hv;have hkn:((n:Int)+1)-1=(n:Int):=(by omega);obtain ⟨HOw,HNl,HP2,HG⟩:=aLc cA.out hn hP2 hgB;clear hP hP2 hll hqq cA cL hn hnc hg hgj hc hbb hj hgB;by_cases hcb:c=b
        ·have hst:=hrs (by rw[hcb]);have HS:=aLa (show tS s (i+1)=l++[q+1] by rw[HP2.out,hst]);subst hcb;have hcl:wr.cell? ⟨g,n,none⟩=some (.int .i64 q):=uP HOw.out (by rw[aLD (by rw[dH,HNl.out];omega),dH,HNl.out,Nat.sub_self];rfl);have hfz:=(uI HOw.out).2;have ZI:=aLa (show (wr.setCell ⟨g,n,none⟩ (.int .i64 ((q:Int)+1))).ownsRow w1.heap.size 3 1 (.slice (some ⟨g,0,none⟩) (n+1) cap) (tS s (i+1)).length (aZ (tS s (i+1))) by
          have h:=gC HOw.out n (.int .i64 ((q+1:Nat):Int));rw[HNl.out,OR,←HNl.out] at h;rw[HS.out,aLy,aLR,←HNl.out];unfold aZ at h ⊢;rw[aLS];exact h)
         clear hst hrs hrn;go_upto_region 7 with fail;refine aLs [aLq 0,aLq 1,aLq 2,aLq 3,aLq 4,aLq 5,aLq 6,aLq 7,aLq 8,aLq 9,aLq 10,aLq 11] (by kernel_rfl) ?_;apply Flow.mv _ rfl
         ·intro a b;simp only[sqA,Act.eval,sqC];exact b
         apply Flow.calm2 _ _ rfl rfl
         ·intro a b c d;obtain ⟨e,f⟩:=b.rule;go_simp;(try go_ints);exact d
         ·intro a b;simp only[sqA];exact b
         apply Flow.mv _ rfl
         ·intro a b;simp only[sqA,Act.eval,sqC];exact b
         iterate 8
          first
           | (apply Flow.pass rfl (by rfl))
           | (apply Flow.calmG _ rfl (by rfl)
              ·intro a b;obtain ⟨e,f⟩:=b.rule;go_simp;all_goals (try rfl))
          simp only[sqA];try go_ints
         apply Flow.calm2 _ _ rfl rfl
         ·intro a b c d;obtain ⟨e,f⟩:=b.rule;go_simp;(try go_ints);exact d
         ·intro a b;simp only[sqA];exact b
         refine Flow.done ?_;go_wp2_with fail;exact ⟨⟨i+1,_,by omega,by go_num,rfl,HBr.out.drew.setCell HG.out _,ZI⟩,by simp[RowKit.intOf]<;>omega⟩
        ·have hst:=hrn (fun e=>hcb (aLZ e));have HS:=aLa (show tS s (i+1)=(l++[q])++[1] by rw[HP2.out,hst]);have aJS:((c.toNat:Int)==(b.toNat:Int))=false:=(by rw[aLU];exact fun e=>hcb (UInt8.toNat_inj.1 (by omega)));have aFX:¬((c.toNat:Int)=(b.toNat:Int)):=fun e=>hcb (UInt8.toNat_inj.1 (by omega));have t1:w1.heap.size≤wr.heap.size:=HBr.out.le;have t2:(n+1+1)*8≤140737488355328:=(by omega);have t3:n+1+1≤maxLen:=(by unfold maxLen;omega);clear hst hrs hrn hcb;go_upto_region 7 with fail;refine aLs [aLq 0,aLq 1,aLq 2,aLq 3,aLq 4,aLq 5,aLq 6,aLq 7,aLq 8,aLq 9,aLq 10,aLq 11] (by kernel_rfl) ?_;apply Flow.mv _ rfl
         ·intro a b;simp only[sqA,Act.eval,sqC];exact b
         apply Flow.calm2 _ _ rfl rfl
         ·intro a b c d;obtain ⟨e,f⟩:=b.rule;go_simp;(try go_ints);exact d
         ·intro a b;simp only[sqA];exact b
         apply Flow.mv _ rfl
         ·intro a b;simp only[sqA,Act.eval,sqC];exact b
         iterate 8
          first
           | (apply Flow.pass rfl (by rfl))
           | (apply Flow.calmG _ rfl (by rfl)
              ·intro a b;obtain ⟨e,f⟩:=b.rule;go_simp;all_goals (try rfl))
          simp only[sqA];try go_ints
         apply Flow.calm2 _ _ rfl rfl
         ·intro a b c d;obtain ⟨e,f⟩:=b.rule;go_simp;(try go_ints);exact d
         ·intro a b;simp only[sqA];exact b
         refine Flow.done ?_;have ZZ:=HBr.out.drew;have t1':w1.heap.size≤wr.drew.heap.size:=ZZ.le;have HO2:=fX HOw.out (Bl.refl wr).drew;go_upto_region 9 with fail;generalize hwq:wr.drew=wq at ZZ HO2 t1' ⊢;clear hwq;go_wp2_with (at_builtin;refine dJ (w1:=w1) rfl (.tmp 51) (.tmp 52) 47 rfl 3 (.int .i64 0) 8 Tryz.underlying47 sR rfl w1.heap.size _ (n+1) (aZ l++[.int .i64 q]) rfl (.int .i64 1) rfl ?e1 ?e2 ?e3 ?e4 ?e5 ?e6 ?e7 ?e8;exact rfl;exact ZZ;exact Nat.le_refl _;exact t1';exact HO2;exact t2;exact t3;intro v' w8 cF hb8 hg8);have H9:=aLa (show w8.ownsRow w1.heap.size 3 1 v' (tS s (i+1)).length (aZ (tS s (i+1))) by
          rw[HS.out,aLy,aLy,aLR,aLR,←HNl.out];unfold aZ at cF ⊢;rw[aLS,aLS];exact cF)
         have HB8:=aLa hb8;clear cF hb8 hg8 HO2;go_wp2_with fail;exact ⟨⟨i+1,v',by omega,by go_num,rfl,HB8.out,H9⟩,by simp[RowKit.intOf]<;>omega⟩
      ·obtain rfl:i=s.length:=(by omega);have hP:tS s s.length=rD s:=if_neg (by omega);rw[hP] at cA;obtain ⟨A2,c2,e2,hr2⟩:=cU cA.out;have aDN:=aC3 (show wr.ownsRow w1.heap.size 3 1 (.slice A2 (rD s).length c2) (rD s).length (aZ (rD s)) from e2 ▸ cA.out);subst e2;have HRr:=aLa hr2;have aGZ:=aLa aDN;clear hr2 cA aDN hP;go_wp2_with fail;refine aL0 (v:=.tuple #[.slice A2 (rD s).length c2,.bool true]) (by simp[results,Tryz.results343,go_sem]) rfl ⟨A2,_,c2,by rw[HB.out],fun h=>(by rw[HB.out] at h;cases h),fun _=>⟨rfl,HRr.out,aGZ.out⟩,HB1.out.trans HBr.out⟩
end Go.Proofs.YtllefinciimffaaGreatDoor
namespace Go.Proofs.YtllefinciimffaaGreatDoor
open Go.RowKit
def txt (ks:List Nat):List UInt8:=ks.map fun k=>dG.getD k 0
def BN (s:List UInt8):Option (List UInt8):=if lU s=true then (GS (rD s)).map txt else none
def xO (t:List UInt8):List UInt8:=(t.drop 1).take (t.length-2)
def kZ (t:List UInt8):List UInt8:=(t.drop 1).take (t.length-3)
def F2 (t:List UInt8):List UInt8:=(t.drop (t.length-2)).take 1
def DN (t:List UInt8):Bool:=decide (4≤t.length)&&(decide (t.length≤43)&&(t.getD 0 0==42&&(t.getD (t.length-1) 0==42&&!(xO t).contains 42)))
def nP (s:List UInt8):List UInt8 × Int:=match BN s with
 |none=>([],2)
 |some t=>if DN t=true then (if kN (kZ t)=F2 t then (kZ t,0) else ([],14)) else ([],2)
theorem zT {s:List UInt8} (h:aM s [48,49]=true):BN s=(UK s).map txt:=by
 unfold BN;cases hl:lU s with
 |true=>rw[if_pos rfl,aAg (cAa hl).2 (cAa hl).1]
 |false=>rw[if_neg (by decide),aBa h hl];rfl
theorem TA {s:List UInt8} (h:aM s [48,49]=false):lU s=false:=by
 unfold lU;rw[h];simp
theorem aBb {s:List UInt8} (h:aM s [48,49]=false):BN s=none:=by
 unfold BN;rw[TA h,if_neg (by decide)]
theorem cAb {s:List UInt8} (h:BN s=none):nP s=([],2):=by unfold nP;rw[h]
theorem oI {s t:List UInt8} (h:BN s=some t) (hs:DN t=false):nP s=([],2):=by unfold nP;rw[h];simp only[hs];rfl
theorem M5 {s t:List UInt8} (h:BN s=some t) (hs:DN t=true):nP s=if kN (kZ t)=F2 t then (kZ t,0) else ([],14):=by unfold nP;rw[h];simp only[hs];rfl
theorem M6 (ks:List Nat):(txt ks).length=ks.length:=by unfold txt;rw[aLz]
theorem XM (ks:List Nat) (k:Nat):txt (ks++[k])=txt ks++[dG.getD k 0]:=by unfold txt;rw[aLS];rfl
theorem aGE {t:List UInt8} (h:4≤t.length):t=t.getD 0 0 :: (xO t++[t.getD (t.length-1) 0]):=by
 have h0:t[0]? = some (t.getD 0 0):=(by rw[aLx,aLv (by omega)];rfl);have hz:t[t.length-1]? = some (t.getD (t.length-1) 0):=(by rw[aLx,aLv (by omega)];rfl);apply List.ext_getElem?;intro i;cases i with
 |zero=>exact h0
 |succ i=>
  rw[List.getElem?_cons_succ];have hm:(xO t).length=t.length-2:=(by unfold xO;rw[aLA,aLJ];omega);by_cases h1:i<t.length-2
  ·rw[aLE (by omega)];unfold xO;rw[aLH h1,aLI,Nat.add_comm]
  ·rw[aLD (by omega),hm];by_cases h2:i=t.length-2
   ·rw[h2,Nat.sub_self,show t.length-2+1=t.length-1 by omega,hz];rfl
   ·rw[aL5 (by omega),aL5 (by simp;omega)]
theorem M7 {t:List UInt8} (h:4≤t.length) (h0:t.getD 0 0=42) (hz:t.getD (t.length-1) 0=42):(Lib.countByte t 42=2)↔(xO t).contains 42=false:=by
 unfold Lib.countByte;have e:=aGE h;rw[h0,hz] at e;have hc:t.count 42=(xO t).count 42+2:=by
  conv=>lhs;rw[e]
  rw[List.count_cons_self,List.count_append];rfl
 rw[hc];constructor
 ·intro h;have:(xO t).count 42=0:=(by omega);have:=List.count_eq_zero.1 this;simpa using this
 ·intro h;have:42∉xO t:=(by simpa using h);rw[List.count_eq_zero.2 this]
theorem aDn {ks:List Nat} (h:∀k∈ks,k<44):∀c∈txt ks,c∈dG:=by
 intro c hc;obtain ⟨k,hk,rfl⟩:=aMf.1 hc;have:∀k<44,dG.getD k 0∈dG:=(by decide +kernel);exact this k (h k hk)
theorem aEG:∀c∈dG,c=42∨zQ c=true:=by
 have:∀c∈dG,(c==42||zQ c)=true:=(by decide +kernel);intro c hc;simpa using this c hc
theorem aEH {t:List UInt8} (hm:∀c∈t,c∈dG) (h:(xO t).contains 42=false):aT (xO t)=true:=by
 unfold aT;rw[aLO];intro c hc;have hct:c∈t:=(by unfold xO at hc;exact List.mem_of_mem_drop (List.mem_of_mem_take hc));rcases aEG c (hm c hct) with rfl|h'
 ·have:42∉xO t:=(by simpa using h);exact absurd hc this
 ·exact h'
theorem aBc {t:List UInt8} (h:4≤t.length):kZ t=(xO t).take (t.length-3)∧xO t=kZ t++F2 t:=by
 constructor
 ·unfold kZ xO;rw[List.take_take,Nat.min_eq_left (by omega)]
 ·unfold xO kZ F2;obtain ⟨n,hn⟩:∃n,t.length=n+3:=⟨t.length-3,by omega⟩;rw[hn,show n+3-2=n+1 by omega,show n+3-3=n by omega,aMc,aLI,show 1+n=n+1 by omega]
  congr 1
  rw[List.take_one,List.head?_drop]
theorem aDo {t:List UInt8} (hm:∀c∈t,c∈dG) (hs:DN t=true):aT (kZ t)=true∧1≤(kZ t).length∧(kZ t).length≤40∧fE (kZ t)=0:=by
 unfold DN at hs;simp only[aLV,decide_eq_true_eq,beq_iff_eq,Bool.not_eq_true'] at hs;obtain ⟨h4,h43,h0,hz,hc⟩:=hs;have h1:=aEH hm hc;have hb:aT (kZ t)=true:=by
  rw[(aBc h4).1];unfold aT at h1 ⊢;rw[aLO] at h1 ⊢;exact fun x hx=>h1 x (List.mem_of_mem_take hx)
 have hl:(kZ t).length=t.length-3:=(by unfold kZ;rw[aLA,aLJ];omega);refine ⟨hb,by omega,by omega,?_⟩;unfold fE;rw[if_neg (fun e=>by rw[e] at hl;simp at hl;omega),if_neg (by omega),if_pos hb]
def aBd : Nat → List (List UInt8 × Nat)
 |0=>[]
 |k+1=>(cI k,k) :: aBd k
theorem zU (p : List UInt8) : ∀ n, n ≤ 44 → ∀ j, (aBd n).lookup p = some j ↔ j < n ∧ cI j = p
 |0,_,j=>by simp[aBd]
 |n+1,hn,j=>by
  have ih:=zU p n (by omega) j;unfold aBd;rw[List.lookup];by_cases h:p=cI n
  ·subst h;simp only[beq_self_eq_true];constructor
   ·intro e;obtain rfl:=aLZ e;exact ⟨by omega,rfl⟩
   ·rintro ⟨h1,h2⟩;rw[CO j (by omega) n (by omega) h2]
  ·have hb:(p==cI n)=false:=(by simpa using h);simp only[hb];rw[ih];constructor
   ·rintro ⟨h1,h2⟩;exact ⟨by omega,h2⟩
   ·rintro ⟨h1,h2⟩;refine ⟨?_,h2⟩;rcases Nat.lt_or_ge j n with h3|h3
    ·exact h3
    ·exact absurd (by rw[show j=n by omega] at h2;exact h2.symm) h
theorem XN (p:List UInt8):(aBd 44).lookup p=(List.range 44).find? fun k=>cI k==p:=by
 cases hf:(List.range 44).find? fun k=>cI k==p with
 |some k=>obtain ⟨h1,h2⟩:=nC hf;exact (zU p 44 (Nat.le_refl _) k).2 ⟨h1,by simpa using h2⟩
 |none=>
  cases hl:(aBd 44).lookup p with
  |none=>rfl
  |some j=>obtain ⟨h1,h2⟩:=(zU p 44 (Nat.le_refl _) j).1 hl;have:=List.find?_eq_none.1 hf j (List.mem_range.2 h1);exact absurd (by simpa using h2) this
theorem mW {rs:List Nat} {j:Nat} (hj:10*j<rs.length) (hg:gP rs j=none):GS rs=none:=by
 unfold GS;by_cases h:rs.length % 10=9
 ·rw[if_pos h,pK];exact BC (by omega) hg
 ·rw[if_neg h]
theorem zV {rs:List Nat} {j:Nat} {ks:List Nat} {k:Nat} (h:vR rs j=some ks) (hg:gP rs j=some k):vR rs (j+1)=some (ks++[k]):=by
 rw[pK] at h ⊢;exact rW h hg
theorem XO {rs:List Nat} {j:Nat} {ks:List Nat} (h:vR rs j=some ks):ks.length=j∧∀k∈ks,k<44:=by
 rw[pK,uK] at h;refine ⟨h.1,fun k hk => ?_⟩;obtain ⟨i,hi,rfl⟩:=aL4 hk;exact ((CP _ _ _).1 (h.2 i _ (aLv hi))).2.1
end Go.Proofs.YtllefinciimffaaGreatDoor
