import Derived.Test.YtllefinciimffaaGreatDoorMClaimFields28
import Derived.Shelf.Strings.Count
set_option maxHeartbeats 20000000
set_option maxRecDepth 100000
namespace Go.Proofs
open Go.Shelf
def Tryz.laysIxB_ren:Go.Shelf.Ren:=⟨fun|137=>212|217=>173|266=>231|n=>n,fun|9=>9|5=>5|3=>3|n=>n,fun|n=>n⟩
theorem Tryz.laysIxB : Go.Proofs.Lays.n137 Tryz.prog Tryz.laysIxB_ren := {
 mixed:=by kernel_rfl
 f137:=Tryz.func212.trans (congrArg some (by kernel_rfl))
 f217:=Tryz.func173.trans (congrArg some (by kernel_rfl))
 f266:=Tryz.func231.trans (congrArg some (by kernel_rfl))
 t3:=Tryz.underlying3
 a3:=Tryz.isAgg3
 z3:=Tryz.sizeOf3
 v3:=Tryz.zeroValue3
 t5:=Tryz.underlying5
 a5:=Tryz.isAgg5
 z5:=Tryz.sizeOf5
 v5:=Tryz.zeroValue5
 t9:=Tryz.underlying9
 a9:=Tryz.isAgg9
 z9:=Tryz.sizeOf9
 v9:=Tryz.zeroValue9 }
def Tryz.laysCnt_ren:Go.Shelf.Ren:=⟨fun|138=>14|195=>71|218=>72|143=>73|219=>133|217=>173|225=>174|224=>175|267=>176|266=>231|314=>232|n=>n,fun|9=>9|3=>3|4=>4|5=>5|0=>0|46=>233|146=>278|51=>277|n=>n,fun|1=>0|n=>n⟩
theorem Tryz.laysCnt : Go.Proofs.Lays.n138 Tryz.prog Tryz.laysCnt_ren := {
 mixed:=by kernel_rfl
 f138:=Tryz.func14.trans (congrArg some (by kernel_rfl))
 f143:=Tryz.func73.trans (congrArg some (by kernel_rfl))
 f195:=Tryz.func71.trans (congrArg some (by kernel_rfl))
 f217:=Tryz.func173.trans (congrArg some (by kernel_rfl))
 f218:=Tryz.func72.trans (congrArg some (by kernel_rfl))
 f219:=Tryz.func133.trans (congrArg some (by kernel_rfl))
 f224:=Tryz.func175.trans (congrArg some (by kernel_rfl))
 f225:=Tryz.func174.trans (congrArg some (by kernel_rfl))
 f266:=Tryz.func231.trans (congrArg some (by kernel_rfl))
 f267:=Tryz.func176.trans (congrArg some (by kernel_rfl))
 f314:=Tryz.func232.trans (congrArg some (by kernel_rfl))
 t0:=Tryz.underlying0
 a0:=Tryz.isAgg0
 z0:=Tryz.sizeOf0
 v0:=Tryz.zeroValue0
 t3:=Tryz.underlying3
 a3:=Tryz.isAgg3
 z3:=Tryz.sizeOf3
 v3:=Tryz.zeroValue3
 t4:=Tryz.underlying4
 a4:=Tryz.isAgg4
 z4:=Tryz.sizeOf4
 v4:=Tryz.zeroValue4
 t5:=Tryz.underlying5
 a5:=Tryz.isAgg5
 z5:=Tryz.sizeOf5
 v5:=Tryz.zeroValue5
 t9:=Tryz.underlying9
 a9:=Tryz.isAgg9
 z9:=Tryz.sizeOf9
 v9:=Tryz.zeroValue9
 t46:=Tryz.underlying233
 a46:=Tryz.isAgg233
 z46:=Tryz.sizeOf233
 v46:=Tryz.zeroValue233
 t51:=Tryz.underlying277
 a51:=Tryz.isAgg277
 z51:=Tryz.sizeOf277
 v51:=Tryz.zeroValue277
 t146:=Tryz.underlying278
 a146:=Tryz.isAgg278
 z146:=Tryz.sizeOf278
 v146:=Tryz.zeroValue278
 g1:=by kernel_rfl }
def Tryz.laysCon_ren:Go.Shelf.Ren:=⟨fun|144=>172|143=>73|219=>133|217=>173|225=>174|224=>175|267=>176|266=>231|314=>232|n=>n,fun|9=>9|4=>4|3=>3|5=>5|46=>233|146=>278|51=>277|n=>n,fun|1=>0|n=>n⟩
theorem Tryz.laysCon : Go.Proofs.Lays.n144 Tryz.prog Tryz.laysCon_ren := {
 mixed:=by kernel_rfl
 f143:=Tryz.func73.trans (congrArg some (by kernel_rfl))
 f144:=Tryz.func172.trans (congrArg some (by kernel_rfl))
 f217:=Tryz.func173.trans (congrArg some (by kernel_rfl))
 f219:=Tryz.func133.trans (congrArg some (by kernel_rfl))
 f224:=Tryz.func175.trans (congrArg some (by kernel_rfl))
 f225:=Tryz.func174.trans (congrArg some (by kernel_rfl))
 f266:=Tryz.func231.trans (congrArg some (by kernel_rfl))
 f267:=Tryz.func176.trans (congrArg some (by kernel_rfl))
 f314:=Tryz.func232.trans (congrArg some (by kernel_rfl))
 t3:=Tryz.underlying3
 a3:=Tryz.isAgg3
 z3:=Tryz.sizeOf3
 v3:=Tryz.zeroValue3
 t4:=Tryz.underlying4
 a4:=Tryz.isAgg4
 z4:=Tryz.sizeOf4
 v4:=Tryz.zeroValue4
 t5:=Tryz.underlying5
 a5:=Tryz.isAgg5
 z5:=Tryz.sizeOf5
 v5:=Tryz.zeroValue5
 t9:=Tryz.underlying9
 a9:=Tryz.isAgg9
 z9:=Tryz.sizeOf9
 v9:=Tryz.zeroValue9
 t46:=Tryz.underlying233
 a46:=Tryz.isAgg233
 z46:=Tryz.sizeOf233
 v46:=Tryz.zeroValue233
 t51:=Tryz.underlying277
 a51:=Tryz.isAgg277
 z51:=Tryz.sizeOf277
 v51:=Tryz.zeroValue277
 t146:=Tryz.underlying278
 a146:=Tryz.isAgg278
 z146:=Tryz.sizeOf278
 v146:=Tryz.zeroValue278
 g1:=by kernel_rfl }
end Go.Proofs
namespace Go.Proofs.YtllefinciimffaaGreatDoor
open Go.RowKit Go.Shelf
theorem XJ (c:UInt8):((c.toNat:Int)).toNat.toUInt8=c:=by
 rw[aIF];exact UInt8.ofNat_toNat
theorem UH (l:List UInt8) (c:UInt8) (w:World):Calls Tryz.prog 212 #[l,.int .u8 (c.toNat:Int)] w fun e w'=>e=.returned (.int .i64 (Lib.indexByte l c))∧w=w':=by
 have h:=Any.strings_IndexByte Tryz.laysIxB ⟨l.toArray⟩ (c.toNat:Int) w;refine Calls.mono (R:=fun e w'=>e=.returned (.int .i64 (Lib.indexByte l ((c.toNat:Int)).toNat.toUInt8))∧w'=w) h ?_;rintro e w' ⟨rfl,rfl⟩;rw[XJ];exact ⟨rfl,rfl⟩
theorem XK (l:List UInt8) (c:UInt8) (w:World):Calls Tryz.prog 14 #[l,.string ⟨#[c]⟩] w fun e w'=>e=.returned (.int .i64 (Lib.countByte l c))∧w=w':=by
 have h:=Any.strings_Count_one Tryz.laysCnt ⟨l.toArray⟩ c w;refine Calls.mono (R:=fun e w'=>e=.returned (.int .i64 (Lib.countByte l c))∧w'=w) h ?_;rintro e w' ⟨rfl,rfl⟩;exact ⟨rfl,rfl⟩
theorem XL (l:List UInt8) (c:UInt8) (w:World):Calls Tryz.prog 172 #[l,.string ⟨#[c]⟩] w fun e w'=>e=.returned (.bool (decide (0≤Lib.indexByte l c)))∧w=w':=by
 have h:=Any.strings_Contains_one Tryz.laysCon ⟨l.toArray⟩ c w;refine Calls.mono (R:=fun e w'=>e=.returned (.bool (decide (0≤Lib.indexByte l c)))∧w'=w) h ?_;rintro e w' ⟨rfl,rfl⟩;exact ⟨rfl,rfl⟩
theorem QM (w:World) (hT:SpOk w):Calls Tryz.prog 211 #[] w (TxtRes nZ w):=by
 have H:=aHH (pG MA nZ (by decide) (by decide +kernel) (by decide +kernel) w hT);unfold MA at H
 go_in
 go_wp2_with fail;refine H.out.mono ?_;rintro e w1 ⟨g,rfl,hr,hb⟩;go_wp2_with fail;go_ret;exact ⟨g,rfl,hr,hb⟩
theorem QN (w:World) (hT:SpOk w):Calls Tryz.prog 299 #[] w (TxtRes nZ w):=by
 have H:=aHH (pG MA nZ (by decide) (by decide +kernel) (by decide +kernel) w hT);unfold MA at H
 go_in
 go_wp2_with fail;refine H.out.mono ?_;rintro e w1 ⟨g,rfl,hr,hb⟩;go_wp2_with fail;go_ret;exact ⟨g,rfl,hr,hb⟩
def iR:List UInt8:=[48,49,50,51,52,53,54,55,56,57,65,66,67,68,69,70,71,72,73,74,75,76,77,78,79,80,81,82,83,84,85,86,87,88,89,90,45,46,32,36,47,43,37]
theorem ZC (l:List UInt8) (c:UInt8):-1≤Lib.indexByte l c:=Lib.indexByte_ge l c
theorem UI (l:List UInt8) (c:UInt8):0≤Lib.indexByte l c↔c∈l:=by
 constructor
 ·intro h;obtain ⟨o,ho⟩:∃o:Nat,Lib.indexByte l c=o:=⟨(Lib.indexByte l c).toNat,by omega⟩;exact List.mem_of_getElem? (Lib.indexByte_some ho).1
 ·intro h;have h1:=ZC l c;by_cases hn:Lib.indexByte l c = -1
  ·obtain ⟨k,hk,rfl⟩:=aIB h;exact absurd (aH2 hk) (Lib.indexByte_none hn k)
  ·omega
theorem aBE {l:List UInt8} {c:UInt8} (h:0≤Lib.indexByte l c):Lib.indexByte l c<l.length∧l[(Lib.indexByte l c).toNat]? = some c:=by
 obtain ⟨o,ho⟩:∃o:Nat,Lib.indexByte l c=o:=⟨(Lib.indexByte l c).toNat,by omega⟩;have h1:=(Lib.indexByte_some ho).1;have h2:=(aH3.1 h1).1;rw[ho];exact ⟨by omega,by simpa using h1⟩
def vD (c:UInt8):Bool:=iR.contains c
def cM (l:List UInt8):Bool:=l.all vD
def RK (c:UInt8):Nat:=(Lib.indexByte iR c).toNat
def KZ (l : List UInt8) : Nat → Nat
 |0=>0
 |i+1=>KZ l i+RK (l.getD i 0)
def UJ (l:List UInt8):List UInt8:=[eU.getD (KZ l l.length % 43) 0]
def oB (l:List UInt8):Int:=if l=[] then 9 else if 40<l.length then 4 else if cM l=true then 0 else 2
def l8 (l:List UInt8):List UInt8:=if oB l=0 then UJ l else []
theorem NG {c:UInt8}:vD c=true↔0≤Lib.indexByte iR c:=by
 rw[UI];unfold vD;simp
theorem o3 {c:UInt8} (h:vD c=true):Lib.indexByte iR c=(RK c:Int)∧RK c<43∧iR[RK c]? = some c:=by
 have h1:=NG.1 h;obtain ⟨h2,h3⟩:=aBE h1;unfold RK;refine ⟨by omega,?_,h3⟩;have:(iR.length:Int)=43:=rfl;omega
theorem XM:∀c∈iR,Lib.indexByte eU c=Lib.indexByte iR c:=by decide +kernel
theorem aGi {c:UInt8} (h:vD c=true):Lib.indexByte eU c=(RK c:Int):=by
 rw[XM c (by unfold vD at h;simpa using h),(o3 h).1]
theorem EA {l : List UInt8} (h : cM l = true) : ∀ i, i ≤ l.length → KZ l i ≤ 43 * i
 |0,_=>Nat.le_refl _
 |i+1,hi=>by
  have ih:=EA h i (by omega);have hg:l[i]? = some l[i]:=aH2 (by omega);have hk:vD l[i]=true:=aIl.1 h _ (List.mem_of_getElem? hg);have h2:=(o3 hk).2.1;show KZ l i+RK (l.getD i 0)≤_;rw[aH4,hg];show KZ l i+RK l[i]≤_;omega
theorem UK {l:List UInt8} {i:Nat} {c:UInt8} (h:cM (l.take i)=true) (hg:l[i]? = some c):cM (l.take (i+1))=vD c:=by
 rw[aIJ,hg];unfold cM at h ⊢;rw[List.all_append,h];simp
theorem yL {l:List UInt8} {i:Nat} {c:UInt8} (hg:l[i]? = some c):KZ l (i+1)=KZ l i+RK c:=by
 show KZ l i+RK (l.getD i 0)=_;rw[aH4,hg];rfl
theorem BX {l : List UInt8} : ∀ i, i ≤ l.length → cM (l.take i) = true → KZ l i ≤ 43 * i
 |0,_,_=>Nat.le_refl _
 |i+1,hi,h=>by
  have hg:l[i]? = some l[i]:=aH2 (by omega);have h1:cM (l.take i)=true:=by
   unfold cM at h ⊢;rw[aIl] at h ⊢;exact fun x hx=>h x (by rw[aIJ];exact List.mem_append_left _ hx)
  have ih:=BX i (by omega) h1;rw[UK h1 hg] at h;have h2:=(o3 h).2.1;rw[yL hg];omega
theorem XN (l:List UInt8) (r n:Nat) (h:r<n) (hn:n≤l.length):(⟨l.toArray⟩:ByteArray).extract r (r+1)=⟨[l.getD r 0].toArray⟩:=by
 rw[eO,show r+1-r=1 by omega]
 congr 2
 rw[List.take_one,List.head?_drop,aH4,aH2 (by omega)];rfl
theorem aDp {r:Nat} (h:r<43):iR.getD r 0=eU.getD r 0:=by
 have:∀r<43,iR.getD r 0=eU.getD r 0:=(by decide +kernel);exact this r h
theorem II (l:List UInt8) (w:World) (hl:l.length≤9223372036854775807) :
 Calls Tryz.prog 210 #[l] w fun e w'=>e=.returned (.tuple #[.string ⟨(l8 l).toArray⟩,.int .i64 (oB l)])∧Bl w w':=by
 have hsz:(⟨l.toArray⟩:ByteArray).size=l.length:=Lib.size_mk l
 go_in
 by_cases h0:l=[]
 ·have hE:oB l=9:=(by unfold oB;rw[if_pos h0]);have HV:=aHH (show l8 l=[] by unfold l8;rw[hE];rfl);have HE:=aHH hE;have ZW:l.isEmpty=true:=(by rw[h0];rfl);clear h0 hE;go_wp2_with fail;exact aIx (v:=.tuple #[.string ⟨#[]⟩,.int .i64 9]) (by simp[results,Tryz.results210,go_sem]) rfl ⟨by rw[HV.out,HE.out],Bl.refl _⟩
 ·have ZW:l.isEmpty=false:=(by cases l with|nil=>exact absurd rfl h0|cons a t=>rfl);by_cases h40:40<l.length
  ·have hE:oB l=4:=(by unfold oB;rw[if_neg h0,if_pos h40]);have HV:=aHH (show l8 l=[] by unfold l8;rw[hE];rfl);have HE:=aHH hE;have aG8:(40:Int)<(l.length:Int):=(by omega);clear h0 hE h40;go_wp2_with fail;exact aIx (v:=.tuple #[.string ⟨#[]⟩,.int .i64 4]) (by simp[results,Tryz.results210,go_sem]) rfl ⟨by rw[HV.out,HE.out],Bl.refl _⟩
  ·have hE:oB l=if cM l=true then 0 else 2:=(by unfold oB;rw[if_neg h0,if_neg h40]);have aG8:(l.length:Int)≤40:=(by omega);have HEE:=aHH hE;have H40:=aHH h40;clear h0 hE h40;go_wp2_with fail;go_loopw [4,16] (fun s4 s16 wr=>∃i:Nat,i≤l.length∧s16=.int .i64 (i:Int)∧s4=.int .i64 (KZ l i:Int)∧cM (l.take i)=true∧w=wr) (fun _ v _=>l.length-(RowKit.intOf v).toNat);case atStart=>exact ⟨0,Nat.zero_le _,rfl,rfl,rfl,rfl⟩
   case round=>
    rename World=>wr;obtain ⟨i,hi,rfl,rfl,hok,hw⟩:=hrel;subst hw;by_cases hlt:i<l.length
    ·have hg:l[i]? = some l[i]:=aH2 hlt;obtain ⟨c,hc⟩:=aH0 (l[i]);rw[←hc] at hg;obtain ⟨m1,m2⟩:=e9 hg;have aC8:(i:Int)<(l.length:Int):=(by omega);have aEy:=UK hok hg;have hss:=yL hg;have hsm:=BX i hi hok;have hix:=UH iR c w;unfold iR at hix;cases hil:vD c with
     |true=>obtain ⟨hn1,hn2,-⟩:=o3 hil;unfold iR at hn1;rw[hn1] at hix;obtain ⟨n,hn⟩:=aH0 (RK c);obtain ⟨s,hs⟩:=aH0 (KZ l i);rw[←hn] at hix hn2 hss;rw[←hs] at hss hsm ⊢;obtain ⟨Hix,HSs,HOk⟩:=aHI hix hss (show cM (l.take (i+1))=true by rw[aEy,hil]);clear hix hss hn1 hn hs aEy hil hg hc hok;go_wp2_with fail;refine Hix.out.mono ?_;rintro e w' ⟨rfl,hw⟩;subst hw;go_wp2_with fail;exact ⟨⟨i+1,by omega,by go_num,by rw[HSs.out];simp,HOk.out,by trivial⟩,by simp[RowKit.intOf]<;>omega⟩
     |false=>
      have hn1:Lib.indexByte iR c = -1:=by
       have h1:=ZC iR c;have h2:¬0≤Lib.indexByte iR c:=fun h=>(by rw[NG.2 h] at hil;cases hil);omega
      unfold iR at hn1;rw[hn1] at hix;have Hix:=aHH hix;have mK:cM l=false:=by
       cases hx:cM l with
       |false=>rfl
       |true=>have:=aIl.1 hx c (List.mem_of_getElem? hg);rw[this] at hil;cases hil
      have hE:oB l=2:=HEE.out.trans (by rw[mK];rfl);have HV:=aHH (show l8 l=[] by unfold l8;rw[hE];rfl);have HE:=aHH hE;clear hix hss hn1 aEy hil hg hc hok mK hE;go_wp2_with fail;refine Hix.out.mono ?_;rintro e w' ⟨rfl,hw⟩;subst hw;go_wp2_with fail;exact aIx (v:=.tuple #[.string ⟨#[]⟩,.int .i64 2]) (by simp[results,Tryz.results210,go_sem]) rfl ⟨by rw[HV.out,HE.out],Bl.refl _⟩
    ·obtain rfl:i=l.length:=(by omega);rw[aH9] at hok;have hsm:=EA hok l.length (Nat.le_refl _);have hE:oB l=0:=HEE.out.trans (by rw[hok];rfl);have HV:=aHH (show l8 l=UJ l by unfold l8;rw[hE];rfl);have HE:=aHH hE;obtain ⟨s,hs⟩:=aH0 (KZ l l.length);obtain ⟨r,hr⟩:=aH0 (s % 43);have hrm:(s:Int) % 43=(r:Int):=(by omega);have aEz:r<43:=(by omega);have hex:=XN iR r 43 aEz (by decide);rw[aDp aEz] at hex;obtain ⟨X,hX⟩:∃X,X=[eU.getD r 0]:=⟨_,rfl⟩;rw[←hX] at hex;unfold iR at hex;have HX:=aHH (show UJ l=X by unfold UJ;rw[←hs,←hr,hX]);rw[←hs] at hsm ⊢;clear hE hok hs hr hX;go_wp2_with fail;exact aIx (v:=.tuple #[.string ⟨X.toArray⟩,.int .i64 0]) (by simp[results,Tryz.results210,go_sem]) rfl ⟨by rw[HV.out,HE.out,HX.out],Bl.refl _⟩
theorem m6 (l:List UInt8) (w:World) (h40:l.length≤1000) (hok:cM l=true) :
 Calls Tryz.prog 259 #[l] w fun e w'=>e=.returned (.string ⟨(UJ l).toArray⟩)∧w=w':=by
 have hsz:(⟨l.toArray⟩:ByteArray).size=l.length:=Lib.size_mk l;have HO:=aHH hok;clear hok
 go_in
 go_wp2_with fail;go_loopw [3,7] (fun s4 s16 wr=>∃i:Nat,i≤l.length∧s16=.int .i64 (i:Int)∧s4=.int .i64 (KZ l i:Int)∧w=wr) (fun _ v _=>l.length-(RowKit.intOf v).toNat);case atStart=>exact ⟨0,Nat.zero_le _,rfl,rfl,rfl⟩
 case round=>
  rename World=>wr;obtain ⟨i,hi,rfl,rfl,hw⟩:=hrel;subst hw;by_cases hlt:i<l.length
  ·have hg:l[i]? = some l[i]:=aH2 hlt;obtain ⟨c,hc⟩:=aH0 (l[i]);rw[←hc] at hg;obtain ⟨m1,m2⟩:=e9 hg;have aC8:(i:Int)<(l.length:Int):=(by omega);have hss:=yL hg;have hsm:=EA HO.out i hi;have hil:vD c=true:=aIl.1 HO.out c (List.mem_of_getElem? hg);have hix:=UH eU c w;rw[aGi hil] at hix;unfold eU at hix;have hn2:=(o3 hil).2.1;obtain ⟨n,hn⟩:=aH0 (RK c);obtain ⟨s,hs⟩:=aH0 (KZ l i);rw[←hn] at hix hn2 hss;rw[←hs] at hss hsm ⊢;have Hix:=aHH hix;have HSs:=aHH hss;clear hix hss hn hs hil hg hc;go_wp2_with fail;refine Hix.out.mono ?_;rintro e w' ⟨rfl,hw⟩;subst hw;go_wp2_with fail;exact ⟨⟨i+1,by omega,by go_num,by rw[HSs.out];simp,by trivial⟩,by simp[RowKit.intOf]<;>omega⟩
  ·obtain rfl:i=l.length:=(by omega);have hsm:=EA HO.out l.length (Nat.le_refl _);obtain ⟨s,hs⟩:=aH0 (KZ l l.length);obtain ⟨r,hr⟩:=aH0 (s % 43);have hrm:(s:Int) % 43=(r:Int):=(by omega);have aEz:r<43:=(by omega);have hex:=XN eU r 44 (by omega) (by decide);obtain ⟨X,hX⟩:∃X,X=[eU.getD r 0]:=⟨_,rfl⟩;rw[←hX] at hex;unfold eU at hex;have HX:=aHH (show UJ l=X by unfold UJ;rw[←hs,←hr,hX]);rw[←hs] at hsm ⊢;clear hs hr hX;go_wp2_with fail;go_ret;exact ⟨by rw[HX.out];rfl,by trivial⟩
end Go.Proofs.YtllefinciimffaaGreatDoor
namespace Go.Proofs.YtllefinciimffaaGreatDoor
open Go.RowKit Go.Shelf Go.Sort
theorem qB : ∀ (a b : List UInt8) (i : Nat), fX i (a ++ b) = fX i a ++ fX (i + a.length) b
 |[],b,i=>rfl
 |c :: a,b,i=>by
  show List.replicate (lK c) (d9 i)++fX (i+1) (a++b)=(List.replicate (lK c) (d9 i)++fX (i+1) a)++fX (i+(a.length+1)) b;rw[qB a b (i+1),aIi,show i+1+a.length=i+(a.length+1) by omega]
theorem IJ {p:List UInt8} {j:Nat} {c:UInt8} (h:p[j]? = some c):fX 0 (p.take (j+1))=fX 0 (p.take j)++List.replicate (lK c) (d9 j):=by
 have hlt:=(aH3.1 h).1;rw[aIJ,h,qB,aH7,Nat.min_eq_left (by omega),Nat.zero_add];show _++(List.replicate (lK c) (d9 j)++[])=_;rw[aIN]
theorem yM : ∀ (p : List UInt8) (i : Nat), (fX i p).length ≤ 3 * p.length
 |[],_=>Nat.le_refl _
 |c :: p,i=>by
  have ih:=yM p (i+1);show (List.replicate (lK c) (d9 i)++fX (i+1) p).length≤_;rw[aH5,aIc,aH8];have:lK c≤3:=(by unfold lK;split<;>decide);omega
theorem IK (k:Nat) (h:k<44):nZ[k]? = some (eD k):=by
 unfold eD;rw[aH4,aH2 (show k<nZ.length from h)];rfl
theorem QO:∀k<44,∀i<9,(eD k).getD i 0=119∨(eD k).getD i 0=110:=by decide +kernel
theorem XO {k i:Nat} (hk:k<44) (hi:i<9):∃c,(eD k)[i]? = some c∧(c=119∨c=110):=by
 have h9:=(eZ k hk).2.2.2;have hg:(eD k)[i]? = some (eD k)[i]:=aH2 (by omega);refine ⟨_,hg,?_⟩;have:=QO k hk i hi;rw[aH4,hg] at this;exact this
theorem aGj:(⟨#[49,48]⟩:ByteArray).extract 0 1=⟨#[49]⟩:=rfl
theorem aGk:(⟨#[49,48]⟩:ByteArray).extract 1 2=⟨#[48]⟩:=rfl
end Go.Proofs.YtllefinciimffaaGreatDoor
namespace Go.Proofs.YtllefinciimffaaGreatDoor
open Go.RowKit Go.Shelf
def rn (s : List UInt8) : Nat → List Nat × Nat
 |0=>([],0)
 |i+1=>if i=0 then ([],1) else if s[i]? = s[i-1]? then ((rn s i).1,(rn s i).2+1) else ((rn s i).1++[(rn s i).2],1)
def qR (s:List UInt8):List Nat:=(rn s s.length).1++[(rn s s.length).2]
def sF (s:List UInt8) (i:Nat):List Nat:=if i=0 then [] else (rn s i).1++[(rn s i).2]
def kZ (s:List UInt8):Bool:=!s.isEmpty&&(cZ s [48,49]&&(s.getD 0 0==49&&s.getD (s.length-1) 0==49))
theorem UL (s : List UInt8) : ∀ i, (rn s i).1.length ≤ i ∧ (rn s i).2 ≤ i
 |0=>⟨Nat.le_refl _,Nat.le_refl _⟩
 |i+1=>by
  obtain ⟨h1,h2⟩:=UL s i;unfold rn;split
  ·exact ⟨Nat.zero_le _,by omega⟩
  ·split
   ·exact ⟨by show (rn s i).1.length≤i+1;omega,by show (rn s i).2+1≤i+1;omega⟩
   ·refine ⟨?_,by show 1≤i+1;omega⟩;show ((rn s i).1++[(rn s i).2]).length≤i+1;rw[aH5,aIo];omega
theorem aBF (s:List UInt8):rn s 1=([],1):=rfl
theorem UM {s:List UInt8} {i:Nat} (h0:1≤i) (h:s[i]? = s[i-1]?):rn s (i+1)=((rn s i).1,(rn s i).2+1):=by
 show (if i=0 then _ else if s[i]? = s[i-1]? then _ else _)=_;rw[if_neg (by omega),if_pos h]
theorem ZD {s:List UInt8} {i:Nat} (h0:1≤i) (h:s[i]? ≠ s[i-1]?):rn s (i+1)=((rn s i).1++[(rn s i).2],1):=by
 show (if i=0 then _ else if s[i]? = s[i-1]? then _ else _)=_;rw[if_neg (by omega),if_neg h]
theorem aAt {a b:UInt8} (ha:a=48∨a=49) (hb:b=48∨b=49) (n:Nat) (h:b=d9 n) (hne:a≠b):a=d9 (n+1):=by
 have h2:=MC n;have h3:d9 (n+1)=48∨d9 (n+1)=49:=(by unfold d9;split;exact .inr rfl;exact .inl rfl);rw[h] at hne hb;rcases ha with rfl|rfl<;>rcases hb with hb|hb<;>rcases h3 with h3|h3<;>rw[hb] at hne h2<;>rw[h3] at h2 ⊢ <;> first|rfl|exact absurd rfl hne|exact absurd rfl h2
theorem qS (n c:Nat) (l:List Nat) (h:l.length=n):bM 0 (l++[c])=bM 0 l++List.replicate c (d9 n):=by
 rw[iM,h,Nat.zero_add];show _++(List.replicate c (d9 n)++[])=_;rw[aIN]
theorem UN {s : List UInt8} (hm : cZ s [48, 49] = true) (h49 : s[0]? = some 49) : ∀ i, 1 ≤ i → i ≤ s.length → bM 0 ((rn s i).1 ++ [(rn s i).2]) = s.take i ∧ (∀ n ∈ (rn s i).1, 1 ≤ n) ∧ 1 ≤ (rn s i).2 ∧ s[i - 1]? = some (d9 (rn s i).1.length)
 |0,h,_=>absurd h (by decide)
 |i+1,_,hi=>by
  by_cases h0:i=0
  ·subst h0;rw[aBF];refine ⟨?_,fun n h=>(by cases h),Nat.le_refl _,h49⟩;cases s with
   |nil=>cases h49
   |cons a t=>obtain rfl:=aIw h49;rfl
  ·obtain ⟨e1,e2,e3,e4⟩:=UN hm h49 i (by omega) (by omega);have hg:s[i]? = some s[i]:=aH2 (by omega);have bits:∀(j:Nat) (b:UInt8),s[j]? = some b→b=48∨b=49:=fun j b h=>by
    have:=aIl.1 hm b (List.mem_of_getElem? h);simpa using this
   by_cases hs:s[i]? = s[i-1]?
   ·rw[UM (by omega) hs];refine ⟨?_,e2,by show 1≤(rn s i).2+1;omega,by rw[Nat.add_sub_cancel,hs];exact e4⟩;show bM 0 ((rn s i).1++[(rn s i).2+1])=_;rw[qS _ _ _ rfl,List.replicate_succ',←aIi,←qS _ _ _ rfl,e1,aIJ,hs,e4];rfl
   ·rw[ZD (by omega) hs];have hb:=bits i _ hg;have hb2:=bits (i-1) _ e4;have hx:s[i]=d9 ((rn s i).1.length+1):=aAt hb hb2 _ rfl (fun e=>hs (by rw[hg,e4,e]));refine ⟨?_,fun n hn => ?_,Nat.le_refl _,?_⟩
    ·show bM 0 (((rn s i).1++[(rn s i).2])++[1])=_;rw[qS ((rn s i).1.length+1) _ _ (by rw[aH5];rfl),e1,aIJ,hg,hx];rfl
    ·rcases aIj.1 hn with hn|hn
     ·exact e2 n hn
     ·rw[aIn.1 hn];exact e3
    ·rw[Nat.add_sub_cancel,hg,hx];show _=some (d9 ((rn s i).1++[(rn s i).2]).length);rw[aH5];rfl
theorem UO {s:List UInt8} (h:kZ s=true):s≠[]∧cZ s [48,49]=true∧s[0]? = some 49∧s[s.length-1]? = some 49:=by
 unfold kZ at h;simp only[aIs,Bool.not_eq_true',beq_iff_eq] at h;obtain ⟨h1,h2,h3,h4⟩:=h;have hne:s≠[]:=fun e=>(by rw[e] at h1;cases h1);have hl:0<s.length:=List.length_pos_iff.2 hne;refine ⟨hne,h2,?_,?_⟩
 ·rw[aH4,aH2 hl] at h3;rw[aH2 hl];exact congrArg some h3
 ·rw[aH4,aH2 (by omega)] at h4;rw[aH2 (by omega)];exact congrArg some h4
theorem tQ {s:List UInt8} (h:kZ s=true):bM 0 (qR s)=s∧∀n∈qR s,1≤n:=by
 obtain ⟨h1,h2,h3,-⟩:=UO h;have hl:0<s.length:=List.length_pos_iff.2 h1;obtain ⟨e1,e2,e3,-⟩:=UN h2 h3 s.length hl (Nat.le_refl _);refine ⟨by unfold qR;rw[e1,aH9],fun n hn => ?_⟩;unfold qR at hn;rcases aIj.1 hn with hn|hn
 ·exact e2 n hn
 ·rw[aIn.1 hn];exact e3
theorem XP {s:List UInt8} (hm:cZ s [48,49]=true) (h:kZ s=false):FK s=none:=by
 cases hd:FK s with
 |none=>rfl
 |some ks=>
  exfalso;have hj:=xA hd;have hlt:=SJ hd;obtain ⟨h1,h2⟩:=(jZ _ _).1 hd;have hne:=JR hd;have hkl:0<ks.length:=List.length_pos_iff.2 hne;obtain ⟨k0,hk0⟩:∃k,ks[0]? = some k:=⟨_,aH2 hkl⟩;obtain ⟨kn,hkn⟩:∃k,ks[ks.length-1]? = some k:=⟨_,aH2 (by omega)⟩;obtain ⟨-,l0,g0⟩:=(oM _ _ _).1 (h2 _ _ hk0);obtain ⟨-,ln,gn⟩:=(oM _ _ _).1 (h2 _ _ hkn);have f0:s.getD 0 0=49:=by
   have:=(eZ k0 l0).2.1;rw[←g0,aH4,aIe (by decide),aIf] at this;rw[aH4];exact this
  have fn:s.getD (s.length-1) 0=49:=by
   have:=(eZ kn ln).2.2.1;rw[←gn,aH4,aIe (by decide),aIf] at this;rw[aH4,show s.length-1=16*(ks.length-1)+14 by omega];exact this
  have ZW:s.isEmpty=false:=by
   cases s with
   |nil=>simp at h1;omega
   |cons a t=>rfl
  unfold kZ at h;rw[ZW,hm,f0,fn] at h;cases h
def LenRes (s:List UInt8) (w:World) (e:Ending) (w':World):Prop:=∃R m d,e=.returned (.tuple #[.slice R m d,.bool (kZ s)])∧(kZ s=false→R=none∧m=0)∧(kZ s=true→m=(qR s).length∧Reads w' 1 R m (aT (qR s))∧m≤d)∧Bl w w'
theorem EB {s:List UInt8} {w w':World} (h:kZ s=false) (hb:Bl w w'):LenRes s w (.returned (.tuple #[.slice none 0 0,.bool false])) w':=
 ⟨none,0,0,by rw[h],fun _=>⟨rfl,rfl⟩,fun h'=>(by rw[h] at h';cases h'),hb⟩
theorem K0 (s:List UInt8) (w:World) (hl:s.length≤1048576) :
 Calls Tryz.prog 343 #[s] w (LenRes s w):=by
 have Ht:=aHH (vT s [48,49] w (by omega) (by decide) (by
  intro j b h;have:∀b∈([48,49]:List UInt8),b.toNat<128:=(by decide);exact this b (List.mem_of_getElem? h)))
 have hsz:(⟨s.toArray⟩:ByteArray).size=s.length:=Lib.size_mk s;have HD:=aHH (show kZ s=(!s.isEmpty&&(cZ s [48,49]&&(s.getD 0 0==49&&s.getD (s.length-1) 0==49))) from rfl)
 go_in
 by_cases h0:s=[]
 ·have ZW:s.isEmpty=true:=(by rw[h0];rfl);have HB:=aHH (show kZ s=false by rw[HD.out,ZW];rfl);clear h0;go_wp2_with fail;exact aIx (v:=.tuple #[.slice none 0 0,.bool false]) (by simp[results,Tryz.results343,go_sem]) rfl (EB HB.out (Bl.refl _))
 ·have ZW:s.isEmpty=false:=(by cases s with|nil=>exact absurd rfl h0|cons a t=>rfl);have hl1:0<s.length:=List.length_pos_iff.2 h0;clear h0;cases hmd:cZ s [48,49] with
  |false=>have htr:(Lib.trimS s [48,49]).isEmpty=false:=(by rw[kU,hmd]);have HB:=aHH (show kZ s=false by rw[HD.out,ZW,hmd];rfl);clear hmd;go_wp2_with fail;refine Ht.out.mono ?_;rintro e w1 ⟨rfl,hb1⟩;go_wp2_with fail;exact aIx (v:=.tuple #[.slice none 0 0,.bool false]) (by simp[results,Tryz.results343,go_sem]) rfl (EB HB.out hb1)
  |true=>
   have htr:(Lib.trimS s [48,49]).isEmpty=true:=(by rw[kU,hmd]);have HMd:=aHH hmd;obtain ⟨a,ha⟩:∃a,s[0]? = some a:=⟨_,aH2 hl1⟩;obtain ⟨z,hz⟩:∃z,s[s.length-1]? = some z:=⟨_,aH2 (by omega)⟩;obtain ⟨a1,a2⟩:=e9 ha;obtain ⟨z1,z2⟩:=e9 hz;have hga:s.getD 0 0=a:=(by rw[aH4,ha];rfl);have hgz:s.getD (s.length-1) 0=z:=(by rw[aH4,hz];rfl);have HD2:=aHH (show kZ s=(a==49&&z==49) by rw[HD.out,ZW,hmd,hga,hgz];rfl);obtain ⟨L,hL⟩:=aH0 (s.length-1);have hLI:(s.length:Int)-1=(L:Int):=(by omega);have hLs:(L:Int)<(s.length:Int):=(by omega);have z1':L<(⟨s.toArray⟩:ByteArray).size:=(by rw[hL];exact z1);have z2':(⟨s.toArray⟩:ByteArray)[L]'z1'=z:=(by subst hL;exact z2);have HLn:=aHH hL;clear hmd hga hgz hz ha z1 z2 hL HD;cases h49:(a==49) with
   |false=>
    have hne:¬((a.toNat:Int)=49):=fun e=>by
     have:a=49:=UInt8.toNat_inj.1 (by have:(49:UInt8).toNat=49:=rfl;omega);rw[this] at h49;cases h49
    have aG9:((a.toNat:Int)==49)=false:=(by rw[aIr];exact hne);have HB:=aHH (show kZ s=false by rw[HD2.out,h49];rfl);clear h49;go_wp2_with fail;refine Ht.out.mono ?_;rintro e w1 ⟨rfl,hb1⟩;go_wp2_with fail;exact aIx (v:=.tuple #[.slice none 0 0,.bool false]) (by simp[results,Tryz.results343,go_sem]) rfl (EB HB.out hb1)
   |true=>
    have aFR:a=49:=(by simpa using h49);cases h50:(z==49) with
    |false=>
     have hne:¬((z.toNat:Int)=49):=fun e=>by
      have:z=49:=UInt8.toNat_inj.1 (by have:(49:UInt8).toNat=49:=rfl;omega);rw[this] at h50;cases h50
     have aG9:((z.toNat:Int)==49)=false:=(by rw[aIr];exact hne);have HB:=aHH (show kZ s=false by rw[HD2.out,h49,h50];rfl);clear h49 h50;subst aFR;go_wp2_with fail;refine Ht.out.mono ?_;rintro e w1 ⟨rfl,hb1⟩;go_wp2_with fail;exact aIx (v:=.tuple #[.slice none 0 0,.bool false]) (by simp[results,Tryz.results343,go_sem]) rfl (EB HB.out hb1)
    |true=>
     have aHa:z=49:=(by simpa using h50);have HB:=aHH (show kZ s=true by rw[HD2.out,h49,h50];rfl);clear h49 h50;subst aFR aHa;go_wp2_with fail;refine Ht.out.mono ?_;rintro e w1 ⟨rfl,hb1⟩;have HB1:=aHH hb1;clear hb1 Ht;go_wp2_with fail;go_loopw [4,28] (fun s4 s28 wr=>∃(i:Nat) (v:Value),i≤s.length∧s28=.int .i64 (i:Int)∧v=s4∧Bl w1 wr∧Hid (wr.ownsRow w1.heap.size 3 1 v (sF s i).length (aT (sF s i)))) (fun _ v _=>s.length-(RowKit.intOf v).toNat);case atStart=>exact ⟨0,_,Nat.zero_le _,rfl,rfl,Bl.refl _,aHH (World.ownsRow_nil _ _ _ _)⟩
     case round=>
      rename World=>wr;obtain ⟨i,v,hi,rfl,rfl,hbr,aV⟩:=hrel;have HBr:=aHH hbr;clear hbr;obtain ⟨aBh,aDB⟩:=UL s i;by_cases hlt:i<s.length
      ·have hg:s[i]? = some s[i]:=aH2 hlt;obtain ⟨c,hc⟩:=aH0 (s[i]);rw[←hc] at hg;obtain ⟨m1,m2⟩:=e9 hg;have aC8:(i:Int)<(s.length:Int):=(by omega);by_cases hi0:i=0
       ·subst hi0;have h0n:¬((0:Int)<((0:Nat):Int)):=(by decide);have HP1:=aHH (show sF s 1=[1] from rfl);have aCr:wr.ownsRow w1.heap.size 3 1 v 0 []:=aV.out;have HOw:=aHH aCr;clear aV aCr hg hc;go_upto_region 7 with fail;refine aHZ [aHX 0,aHX 1,aHX 2,aHX 3,aHX 4,aHX 5,aHX 6,aHX 7,aHX 8,aHX 9,aHX 10,aHX 11] (by kernel_rfl) ?_;apply Flow.mv _ rfl
        ·intro a b;simp only[sqA,Act.eval,sqC];exact b
        apply Flow.calm2 _ _ rfl rfl
        ·intro a b c d;obtain ⟨e,f⟩:=b.rule;go_simp;(try go_ints);exact d
        ·intro a b;simp only[sqA];exact b
        apply Flow.mv _ rfl
        ·intro a b;simp only[sqA,Act.eval,sqC];exact b
        iterate 8
         first
          | (apply Flow.pass rfl (by rfl))
          | (apply Flow.calmG _ rfl (by rfl)
             ·intro a b;obtain ⟨e,f⟩:=b.rule;go_simp;all_goals (try rfl))
         simp only[sqA];try go_ints
        apply Flow.calm2 _ _ rfl rfl
        ·intro a b c d;obtain ⟨e,f⟩:=b.rule;go_simp;(try go_ints);exact d
        ·intro a b;simp only[sqA];exact b
        refine Flow.done ?_;have V5:=HBr.out.drew;have HO2:=cX HOw.out (Bl.refl wr).drew;have t2:(0+1)*8≤140737488355328:=(by decide);have t3:0+1≤maxLen:=(by unfold maxLen;decide);have t1:w1.heap.size≤wr.drew.heap.size:=V5.le;go_upto_region 9 with fail;generalize hwq:wr.drew=wq at V5 HO2 t1 ⊢;clear hwq;go_wp2_with (at_builtin;refine bI (w1:=w1) rfl (.tmp 51) (.tmp 52) 47 rfl 3 (.int .i64 0) 8 Tryz.underlying47 iI rfl w1.heap.size _ 0 [] rfl (.int .i64 1) rfl ?a1 ?a2 ?a3 ?a4 ?a5 ?a6 ?a7 ?a8;exact rfl;exact V5;exact Nat.le_refl _;exact t1;exact HO2;exact t2;exact t3;intro v' w8 bF hb8 hg8);have H9:=aHH (show w8.ownsRow w1.heap.size 3 1 v' (sF s 1).length (aT (sF s 1)) by rw[HP1.out];exact bF);have HB8:=aHH hb8;clear bF hb8 hg8;go_wp2_with fail;exact ⟨⟨1,v',by omega,by go_num,rfl,HB8.out,H9⟩,by simp[RowKit.intOf]<;>omega⟩
       ·have hi1:(0:Int)<(i:Int):=(by omega);have hi1N:0<i:=(by omega);obtain ⟨j,hj⟩:=aH0 (i-1);have hjI:(i:Int)-1=(j:Int):=(by omega);have hjN:j<s.length:=(by omega);have hgj:s[j]? = some s[j]:=aH2 (by omega);obtain ⟨b,hbb⟩:=aH0 (s[j]'(by omega));rw[←hbb] at hgj;obtain ⟨n1,n2⟩:=e9 hgj;have hP:sF s i=(rn s i).1++[(rn s i).2]:=if_neg hi0;have hP2:sF s (i+1)=(rn s (i+1)).1++[(rn s (i+1)).2]:=if_neg (by omega);rw[hP] at aV;obtain ⟨l,hll⟩:=aH0 ((rn s i).1);obtain ⟨q,hqq⟩:=aH0 ((rn s i).2);have hrs:=UM (s:=s) (i:=i) (by omega);have hrn:=ZD (s:=s) (i:=i) (by omega);rw[←hll,←hqq] at hrs hrn aV;rw[←hll] at aBh;rw[←hqq] at aDB;rw[hg,show i-1=j from hj.symm,hgj] at hrs hrn;have cT:(l++[q]).length=l.length+1:=(by rw[aH5];rfl);rw[cT] at aV;obtain ⟨n,hn⟩:=aH0 l.length;have hnc:aT (l++[q])=aT l++[.int .i64 (q:Int)]:=(by unfold aT;rw[aIp];rfl);rw[hnc,←hn] at aV;rw[←hn] at aBh;obtain ⟨g,cap,hv,hgB,-⟩:=gF aV.out (by omega);subst hv;have hkn:((n:Int)+1)-1=(n:Int):=(by omega);obtain ⟨HOw,HNl,HP2,HG⟩:=aHJ aV.out hn hP2 hgB;clear hP hP2 hll hqq aV cT hn hnc hg hgj hc hbb hj hgB;by_cases hcb:c=b
        ·have hst:=hrs (by rw[hcb]);have HS:=aHH (show sF s (i+1)=l++[q+1] by rw[HP2.out,hst]);subst hcb;have hcl:wr.cell? ⟨g,n,none⟩=some (.int .i64 q):=mS HOw.out (by rw[aIa (by rw[cY,HNl.out];omega),cY,HNl.out,Nat.sub_self];rfl);have hfz:=(kR HOw.out).2;have AF:=aHH (show (wr.setCell ⟨g,n,none⟩ (.int .i64 ((q:Int)+1))).ownsRow w1.heap.size 3 1 (.slice (some ⟨g,0,none⟩) (n+1) cap) (sF s (i+1)).length (aT (sF s (i+1))) by
          have h:=dO HOw.out n (.int .i64 ((q+1:Nat):Int));rw[HNl.out,DG,←HNl.out] at h;rw[HS.out,aH5,aIo,←HNl.out];unfold aT at h ⊢;rw[aIp];exact h)
         clear hst hrs hrn;go_upto_region 7 with fail;refine aHZ [aHX 0,aHX 1,aHX 2,aHX 3,aHX 4,aHX 5,aHX 6,aHX 7,aHX 8,aHX 9,aHX 10,aHX 11] (by kernel_rfl) ?_;apply Flow.mv _ rfl
         ·intro a b;simp only[sqA,Act.eval,sqC];exact b
         apply Flow.calm2 _ _ rfl rfl
         ·intro a b c d;obtain ⟨e,f⟩:=b.rule;go_simp;(try go_ints);exact d
         ·intro a b;simp only[sqA];exact b
         apply Flow.mv _ rfl
         ·intro a b;simp only[sqA,Act.eval,sqC];exact b
         iterate 8
          first
           | (apply Flow.pass rfl (by rfl))
           | (apply Flow.calmG _ rfl (by rfl)
              ·intro a b;obtain ⟨e,f⟩:=b.rule;go_simp;all_goals (try rfl))
          simp only[sqA];try go_ints
         apply Flow.calm2 _ _ rfl rfl
         ·intro a b c d;obtain ⟨e,f⟩:=b.rule;go_simp;(try go_ints);exact d
         ·intro a b;simp only[sqA];exact b
         refine Flow.done ?_;go_wp2_with fail;exact ⟨⟨i+1,_,by omega,by go_num,rfl,HBr.out.drew.setCell HG.out _,AF⟩,by simp[RowKit.intOf]<;>omega⟩
        ·have hst:=hrn (fun e=>hcb (aIw e));have HS:=aHH (show sF s (i+1)=(l++[q])++[1] by rw[HP2.out,hst]);have aDM:((c.toNat:Int)==(b.toNat:Int))=false:=(by rw[aIr];exact fun e=>hcb (UInt8.toNat_inj.1 (by omega)));have hbn2:¬((c.toNat:Int)=(b.toNat:Int)):=fun e=>hcb (UInt8.toNat_inj.1 (by omega));have t1:w1.heap.size≤wr.heap.size:=HBr.out.le;have t2:(n+1+1)*8≤140737488355328:=(by omega);have t3:n+1+1≤maxLen:=(by unfold maxLen;omega);clear hst hrs hrn hcb;go_upto_region 7 with fail;refine aHZ [aHX 0,aHX 1,aHX 2,aHX 3,aHX 4,aHX 5,aHX 6,aHX 7,aHX 8,aHX 9,aHX 10,aHX 11] (by kernel_rfl) ?_;apply Flow.mv _ rfl
         ·intro a b;simp only[sqA,Act.eval,sqC];exact b
         apply Flow.calm2 _ _ rfl rfl
         ·intro a b c d;obtain ⟨e,f⟩:=b.rule;go_simp;(try go_ints);exact d
         ·intro a b;simp only[sqA];exact b
         apply Flow.mv _ rfl
         ·intro a b;simp only[sqA,Act.eval,sqC];exact b
         iterate 8
          first
           | (apply Flow.pass rfl (by rfl))
           | (apply Flow.calmG _ rfl (by rfl)
              ·intro a b;obtain ⟨e,f⟩:=b.rule;go_simp;all_goals (try rfl))
          simp only[sqA];try go_ints
         apply Flow.calm2 _ _ rfl rfl
         ·intro a b c d;obtain ⟨e,f⟩:=b.rule;go_simp;(try go_ints);exact d
         ·intro a b;simp only[sqA];exact b
         refine Flow.done ?_;have V5:=HBr.out.drew;have t1':w1.heap.size≤wr.drew.heap.size:=V5.le;have HO2:=cX HOw.out (Bl.refl wr).drew;go_upto_region 9 with fail;generalize hwq:wr.drew=wq at V5 HO2 t1' ⊢;clear hwq;go_wp2_with (at_builtin;refine bI (w1:=w1) rfl (.tmp 51) (.tmp 52) 47 rfl 3 (.int .i64 0) 8 Tryz.underlying47 iI rfl w1.heap.size _ (n+1) (aT l++[.int .i64 q]) rfl (.int .i64 1) rfl ?e1 ?e2 ?e3 ?e4 ?e5 ?e6 ?e7 ?e8;exact rfl;exact V5;exact Nat.le_refl _;exact t1';exact HO2;exact t2;exact t3;intro v' w8 bF hb8 hg8);have H9:=aHH (show w8.ownsRow w1.heap.size 3 1 v' (sF s (i+1)).length (aT (sF s (i+1))) by
          rw[HS.out,aH5,aH5,aIo,aIo,←HNl.out];unfold aT at bF ⊢;rw[aIp,aIp];exact bF)
         have HB8:=aHH hb8;clear bF hb8 hg8 HO2;go_wp2_with fail;exact ⟨⟨i+1,v',by omega,by go_num,rfl,HB8.out,H9⟩,by simp[RowKit.intOf]<;>omega⟩
      ·obtain rfl:i=s.length:=(by omega);have hP:sF s s.length=qR s:=if_neg (by omega);rw[hP] at aV;obtain ⟨A2,c2,e2,hr2⟩:=bL aV.out;have ZJ:=aAi (show wr.ownsRow w1.heap.size 3 1 (.slice A2 (qR s).length c2) (qR s).length (aT (qR s)) from e2 ▸ aV.out);subst e2;have HRr:=aHH hr2;have aBT:=aHH ZJ;clear hr2 aV ZJ hP;go_wp2_with fail;refine aIx (v:=.tuple #[.slice A2 (qR s).length c2,.bool true]) (by simp[results,Tryz.results343,go_sem]) rfl ⟨A2,_,c2,by rw[HB.out],fun h=>(by rw[HB.out] at h;cases h),fun _=>⟨rfl,HRr.out,aBT.out⟩,HB1.out.trans HBr.out⟩
end Go.Proofs.YtllefinciimffaaGreatDoor
namespace Go.Proofs.YtllefinciimffaaGreatDoor
open Go.RowKit
def txt (ks:List Nat):List UInt8:=ks.map fun k=>eU.getD k 0
def yN (s:List UInt8):Option (List UInt8):=if kZ s=true then (EX (qR s)).map txt else none
def qC (t:List UInt8):List UInt8:=(t.drop 1).take (t.length-2)
def jV (t:List UInt8):List UInt8:=(t.drop 1).take (t.length-3)
def EC (t:List UInt8):List UInt8:=(t.drop (t.length-2)).take 1
def ED (t:List UInt8):Bool:=decide (4≤t.length)&&(decide (t.length≤43)&&(t.getD 0 0==42&&(t.getD (t.length-1) 0==42&&!(qC t).contains 42)))
def m7 (s:List UInt8):List UInt8 × Int:=match yN s with
 |none=>([],2)
 |some t=>if ED t=true then (if l8 (jV t)=EC t then (jV t,0) else ([],14)) else ([],2)
theorem UP {s:List UInt8} (h:cZ s [48,49]=true):yN s=(FK s).map txt:=by
 unfold yN;cases hl:kZ s with
 |true=>rw[if_pos rfl,WI (tQ hl).2 (tQ hl).1]
 |false=>rw[if_neg (by decide),XP h hl];rfl
theorem QP {s:List UInt8} (h:cZ s [48,49]=false):kZ s=false:=by
 unfold kZ;rw[h];simp
theorem XQ {s:List UInt8} (h:cZ s [48,49]=false):yN s=none:=by
 unfold yN;rw[QP h,if_neg (by decide)]
theorem tR {s:List UInt8} (h:yN s=none):m7 s=([],2):=by unfold m7;rw[h]
theorem pI {s t:List UInt8} (h:yN s=some t) (hs:ED t=false):m7 s=([],2):=by unfold m7;rw[h];simp only[hs];rfl
theorem K1 {s t:List UInt8} (h:yN s=some t) (hs:ED t=true):m7 s=if l8 (jV t)=EC t then (jV t,0) else ([],14):=by unfold m7;rw[h];simp only[hs];rfl
theorem K2 (ks:List Nat):(txt ks).length=ks.length:=by unfold txt;rw[aH6]
theorem UQ (ks:List Nat) (k:Nat):txt (ks++[k])=txt ks++[eU.getD k 0]:=by unfold txt;rw[aIp];rfl
theorem aDq {t:List UInt8} (h:4≤t.length):t=t.getD 0 0 :: (qC t++[t.getD (t.length-1) 0]):=by
 have h0:t[0]? = some (t.getD 0 0):=(by rw[aH4,aH2 (by omega)];rfl);have hz:t[t.length-1]? = some (t.getD (t.length-1) 0):=(by rw[aH4,aH2 (by omega)];rfl);apply List.ext_getElem?;intro i;cases i with
 |zero=>exact h0
 |succ i=>
  rw[List.getElem?_cons_succ];have hm:(qC t).length=t.length-2:=(by unfold qC;rw[aH7,aIg];omega);by_cases h1:i<t.length-2
  ·rw[aIb (by omega)];unfold qC;rw[aIe h1,aIf,Nat.add_comm]
  ·rw[aIa (by omega),hm];by_cases h2:i=t.length-2
   ·rw[h2,Nat.sub_self,show t.length-2+1=t.length-1 by omega,hz];rfl
   ·rw[aIC (by omega),aIC (by simp;omega)]
theorem K3 {t:List UInt8} (h:4≤t.length) (h0:t.getD 0 0=42) (hz:t.getD (t.length-1) 0=42):(Lib.countByte t 42=2)↔(qC t).contains 42=false:=by
 unfold Lib.countByte;have e:=aDq h;rw[h0,hz] at e;have hc:t.count 42=(qC t).count 42+2:=by
  conv=>lhs;rw[e]
  rw[List.count_cons_self,List.count_append];rfl
 rw[hc];constructor
 ·intro h;have:(qC t).count 42=0:=(by omega);have:=List.count_eq_zero.1 this;simpa using this
 ·intro h;have:42∉qC t:=(by simpa using h);rw[List.count_eq_zero.2 this]
theorem UR {ks:List Nat} (h:∀k∈ks,k<44):∀c∈txt ks,c∈eU:=by
 intro c hc;obtain ⟨k,hk,rfl⟩:=aIK.1 hc;have:∀k<44,eU.getD k 0∈eU:=(by decide +kernel);exact this k (h k hk)
theorem aBG:∀c∈eU,c=42∨vD c=true:=by
 have:∀c∈eU,(c==42||vD c)=true:=(by decide +kernel);intro c hc;simpa using this c hc
theorem aBH {t:List UInt8} (hm:∀c∈t,c∈eU) (h:(qC t).contains 42=false):cM (qC t)=true:=by
 unfold cM;rw[aIl];intro c hc;have hct:c∈t:=(by unfold qC at hc;exact List.mem_of_mem_drop (List.mem_of_mem_take hc));rcases aBG c (hm c hct) with rfl|h'
 ·have:42∉qC t:=(by simpa using h);exact absurd hc this
 ·exact h'
theorem NI {t:List UInt8} (h:4≤t.length):jV t=(qC t).take (t.length-3)∧qC t=jV t++EC t:=by
 constructor
 ·unfold jV qC;rw[List.take_take,Nat.min_eq_left (by omega)]
 ·unfold qC jV EC;obtain ⟨n,hn⟩:∃n,t.length=n+3:=⟨t.length-3,by omega⟩;rw[hn,show n+3-2=n+1 by omega,show n+3-3=n by omega,aIJ,aIf,show 1+n=n+1 by omega]
  congr 1
  rw[List.take_one,List.head?_drop]
theorem US {t:List UInt8} (hm:∀c∈t,c∈eU) (hs:ED t=true):cM (jV t)=true∧1≤(jV t).length∧(jV t).length≤40∧oB (jV t)=0:=by
 unfold ED at hs;simp only[aIs,decide_eq_true_eq,beq_iff_eq,Bool.not_eq_true'] at hs;obtain ⟨h4,h43,h0,hz,hc⟩:=hs;have h1:=aBH hm hc;have hb:cM (jV t)=true:=by
  rw[(NI h4).1];unfold cM at h1 ⊢;rw[aIl] at h1 ⊢;exact fun x hx=>h1 x (List.mem_of_mem_take hx)
 have hl:(jV t).length=t.length-3:=(by unfold jV;rw[aH7,aIg];omega);refine ⟨hb,by omega,by omega,?_⟩;unfold oB;rw[if_neg (fun e=>by rw[e] at hl;simp at hl;omega),if_neg (by omega),if_pos hb]
def XR : Nat → List (List UInt8 × Nat)
 |0=>[]
 |k+1=>(eD k,k) :: XR k
theorem yO (p : List UInt8) : ∀ n, n ≤ 44 → ∀ j, (XR n).lookup p = some j ↔ j < n ∧ eD j = p
 |0,_,j=>by simp[XR]
 |n+1,hn,j=>by
  have ih:=yO p n (by omega) j;unfold XR;rw[List.lookup];by_cases h:p=eD n
  ·subst h;simp only[beq_self_eq_true];constructor
   ·intro e;obtain rfl:=aIw e;exact ⟨by omega,rfl⟩
   ·rintro ⟨h1,h2⟩;rw[AS j (by omega) n (by omega) h2]
  ·have hb:(p==eD n)=false:=(by simpa using h);simp only[hb];rw[ih];constructor
   ·rintro ⟨h1,h2⟩;exact ⟨by omega,h2⟩
   ·rintro ⟨h1,h2⟩;refine ⟨?_,h2⟩;rcases Nat.lt_or_ge j n with h3|h3
    ·exact h3
    ·exact absurd (by rw[show j=n by omega] at h2;exact h2.symm) h
theorem UT (p:List UInt8):(XR 44).lookup p=(List.range 44).find? fun k=>eD k==p:=by
 cases hf:(List.range 44).find? fun k=>eD k==p with
 |some k=>obtain ⟨h1,h2⟩:=kJ hf;exact (yO p 44 (Nat.le_refl _) k).2 ⟨h1,by simpa using h2⟩
 |none=>
  cases hl:(XR 44).lookup p with
  |none=>rfl
  |some j=>obtain ⟨h1,h2⟩:=(yO p 44 (Nat.le_refl _) j).1 hl;have:=List.find?_eq_none.1 hf j (List.mem_range.2 h1);exact absurd (by simpa using h2) this
theorem mG {rs:List Nat} {j:Nat} (hj:10*j<rs.length) (hg:gP rs j=none):EX rs=none:=by
 unfold EX;by_cases h:rs.length % 10=9
 ·rw[if_pos h,oL];exact pW (by omega) hg
 ·rw[if_neg h]
theorem yP {rs:List Nat} {j:Nat} {ks:List Nat} {k:Nat} (h:uF rs j=some ks) (hg:gP rs j=some k):uF rs (j+1)=some (ks++[k]):=by
 rw[oL] at h ⊢;exact nK h hg
theorem UU {rs:List Nat} {j:Nat} {ks:List Nat} (h:uF rs j=some ks):ks.length=j∧∀k∈ks,k<44:=by
 rw[oL,o8] at h;refine ⟨h.1,fun k hk => ?_⟩;obtain ⟨i,hi,rfl⟩:=aIB hk;exact ((AT _ _ _).1 (h.2 i _ (aH2 hi))).2.1
end Go.Proofs.YtllefinciimffaaGreatDoor
