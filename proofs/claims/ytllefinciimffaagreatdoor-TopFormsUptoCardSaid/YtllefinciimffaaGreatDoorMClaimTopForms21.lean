import Derived.Test.YtllefinciimffaaGreatDoorMClaimTopForms12
set_option maxHeartbeats 20000000
set_option maxRecDepth 100000
namespace Go.Proofs.YtllefinciimffaaGreatDoor
open Go.RowKit Go.Shelf
def aCb (n:Nat) (kind:Int):Bool:=decide (kind=1∧n=59)||decide (kind=2∧29≤n∧n % 10=9)
def JM (z:Int):Bool:=decide (1≤z∧z≤4000)
def K9 (zs:List Int) (k:Nat):Bool:=(zs.take k).all JM
theorem JN {zs:List Int} {k:Nat} {z:Int} (h:zs[k]? = some z):K9 zs (k+1)=(K9 zs k&&JM z):=by
 unfold K9;rw[aMc,h,List.all_append];simp
theorem FT {zs:List Int} {k:Nat} (h:K9 zs k=false):K9 zs zs.length=false:=by
 unfold K9 at h ⊢;rw[aLC];rw[Bool.eq_false_iff] at h ⊢;intro h2;exact h (aLO.2 fun x hx=>aLO.1 h2 x (List.mem_of_mem_take hx))
theorem xM {zs:List Int} (h:K9 zs zs.length=true):∀z∈zs,1≤z∧z≤4000:=by
 unfold K9 at h;rw[aLC] at h;exact fun z hz=>aLY (aLO.1 h z hz)
def WV (z:Int):Nat:=(min (max z 0) 4000).toNat
def dE (zs : List Int) : Nat → Nat
 |0=>0
 |k+1=>dE zs k+WV (zs.getD k 0)
theorem mM {zs:List Int} {k:Nat} {z:Int} (h:zs[k]? = some z):dE zs (k+1)=dE zs k+WV z:=by
 show dE zs k+WV (zs.getD k 0)=_;rw[aLx,h];rfl
theorem nJ (zs : List Int) : ∀ k, dE zs k ≤ k * 4000
 |0=>Nat.le_refl _
 |k+1=>by
  have ih:=nJ zs k;have h:WV (zs.getD k 0)≤4000:=(by unfold WV;omega);show dE zs k+WV (zs.getD k 0)≤_;omega
theorem zI {zs:List Int} (hp:1≤zs.length) (h:∀z∈zs,1≤z∧z≤4000):1≤dE zs zs.length:=by
 obtain ⟨n,hn⟩:∃n,zs.length=n+1:=⟨zs.length-1,by omega⟩;have hg:zs[n]? = some zs[n]:=aLv (by omega);have h1:=h _ (List.mem_of_getElem? hg);rw[hn,mM hg];have:1≤WV zs[n]:=(by unfold WV;omega);omega
def bT (zs:List Int) (kind:Int):Int:=if kind≠1∧kind≠2 then 1 else if aCb zs.length kind=false then 2 else if K9 zs zs.length=false then 2 else 0
def dY (zs:List Int) (i:Nat):List Int:=(zs.drop (i / 10*10)).take 9
def gH (zs:List Int) (kind:Int) (sum i:Nat):Nat:=if kind=1 then (min 4 (max 1 (oN (zs.getD i 0*95) sum))).toNat else if i % 10<9∧FH (zs.getD i 0) (dY zs i)=true then 3 else 1
theorem tM (zs:List Int) (kind:Int) (sum i:Nat):1≤gH zs kind sum i∧gH zs kind sum i≤4:=by
 unfold gH;split
 ·omega
 ·split<;>omega
def bI (i:Nat):UInt8:=if i % 2=0 then 49 else 48
def gI (zs : List Int) (kind : Int) (sum : Nat) : Nat → List UInt8
 |0=>[]
 |i+1=>gI zs kind sum i++List.replicate (gH zs kind sum i) (bI i)
theorem oH (zs : List Int) (kind : Int) (sum : Nat) : ∀ i, (gI zs kind sum i).length ≤ i * 4
 |0=>Nat.le_refl _
 |i+1=>by
  have ih:=oH zs kind sum i;have h:=(tM zs kind sum i).2;show (gI zs kind sum i++List.replicate (gH zs kind sum i) (bI i)).length≤_;rw[aLy,aLF];omega
def UnitsRes (zs:List Int) (kind:Int) (w:World) (e:Ending) (w':World):Prop:=e=.returned (.tuple #[.string ⟨(if bT zs kind=0 then gI zs kind (dE zs zs.length) zs.length else []).toArray⟩,.int .i64 (bT zs kind)])∧Bl w w'
theorem kM {zs:List Int} {kind:Int} {w w':World} {err:Int} (h:bT zs kind=err) (hz:err≠0) (hb:Bl w w'):UnitsRes zs kind w (.returned (.tuple #[.string ⟨#[]⟩,err])) w':=by
 unfold UnitsRes;rw[h,if_neg hz];exact ⟨rfl,hb⟩
theorem tN (zs:List Int) (L:Option Addr) (c:Nat) (kind:Int) (w:World) (hx:Reads w 1 L zs.length (cB zs)) (hn:zs.length≤1048576) (hc:zs.length≤c) :
 Calls Tryz.prog 284 #[.slice L zs.length c,kind] w (UnitsRes zs kind w):=by
 have HX:=aLa hx;clear hx;obtain ⟨n,hnn⟩:=aLt zs.length;have HN:=aLa hnn;rw[←hnn] at HX hn hc ⊢;clear hnn
 go_in
 by_cases hk:kind≠1∧kind≠2
 ·have HE:=aLa (show bT zs kind=1 by unfold bT;rw[if_pos hk]);have h1:(kind != 1)=true:=(by rw[bne_iff_ne];exact hk.1);have h2:(kind != 2)=true:=(by rw[bne_iff_ne];exact hk.2);have h3:(kind != 1&&kind != 2)=true:=(by rw[h1,h2];rfl);clear hk;go_wp2_with fail;try simp only[Exit.inBlock,Exit.then]
  exact aL0 (v:=.tuple #[.string ⟨#[]⟩,.int .i64 1]) (by simp[results,Tryz.results284,go_sem]) rfl (kM HE.out (by decide) (Bl.refl _))
 ·by_cases hl:aCb n kind=false
  ·have HE:=aLa (show bT zs kind=2 by unfold bT;rw[if_neg hk,←HN.out,if_pos hl]);have ZF:(kind=1∧n≠59)∨(kind=2∧(n % 10≠9∨n<29)):=by
    unfold aCb at hl;simp only[Bool.or_eq_false_iff,decide_eq_false_iff_not] at hl;omega
   clear hk hl;rcases ZF with ⟨rfl,h⟩|⟨rfl,h⟩
   ·have h1:(n:Int)≠59:=(by omega);clear h;go_wp2_with fail;try simp only[Exit.inBlock,Exit.then]
    exact aL0 (v:=.tuple #[.string ⟨#[]⟩,.int .i64 2]) (by simp[results,Tryz.results284,go_sem]) rfl (kM HE.out (by decide) (Bl.refl _))
   ·have hm:(n:Int) % 10=((n % 10:Nat):Int):=(by omega);obtain ⟨m,hmm⟩:=aLt (n % 10);rw[←hmm] at hm h;clear hmm;by_cases h9:m=9
    ·subst h9;have h1:(n:Int)<29:=(by omega);clear h;go_wp2_with fail;try simp only[Exit.inBlock,Exit.then]
     exact aL0 (v:=.tuple #[.string ⟨#[]⟩,.int .i64 2]) (by simp[results,Tryz.results284,go_sem]) rfl (kM HE.out (by decide) (Bl.refl _))
    ·have h1:(m:Int)≠9:=(by omega);clear h h9;go_wp2_with fail;try simp only[Exit.inBlock,Exit.then]
     exact aL0 (v:=.tuple #[.string ⟨#[]⟩,.int .i64 2]) (by simp[results,Tryz.results284,go_sem]) rfl (kM HE.out (by decide) (Bl.refl _))
  ·have HE0:=aLa (show bT zs kind=if K9 zs zs.length=false then 2 else 0 by unfold bT;rw[if_neg hk,←HN.out,if_neg hl]);have aHa:(kind=1∧n=59)∨(kind=2∧29≤n∧n % 10=9):=by
    unfold aCb at hl;simp only[Bool.not_eq_false,Bool.or_eq_true,decide_eq_true_eq] at hl;exact hl
   have hn29:29≤n:=(by omega);clear hk hl;rcases aHa with ⟨rfl,cL⟩|⟨rfl,hlen29,hlen10⟩
   ·have h59:(n:Int)=59:=(by omega);clear cL;go_upto_region 6 with fail;clear h59;go_wp2_with fail;go_loopw [6,43] (fun u v wr=>∃i:Nat,i≤n∧v=.int .i64 i∧u=.int .i64 ((dE zs i:Nat):Int)∧Bl w wr∧Hid (K9 zs i=true)) (fun _ v _=>n-(RowKit.intOf v).toNat);case atStart=>exact ⟨0,Nat.zero_le _,rfl,rfl,Bl.refl _,aLa rfl⟩
    case round=>
     obtain ⟨i,hi,rfl,rfl,hbr,hok⟩:=hrel;by_cases hlt:i<n
     ·obtain ⟨z,hz⟩:∃z,zs[i]? = some z:=⟨_,aLv (by have:=HN.out;omega)⟩;have hxx:=HX.out.bl hbr;rw[HN.out] at hxx;obtain ⟨ad,rfl,c0⟩:=wC hxx hz;have hos:=JN hz;have hcs:=mM hz;have hcl:=nJ zs i;obtain ⟨S,hS⟩:=aLt (dE zs i);rw[←hS] at hcs hcl ⊢;have HOs:=aLa hos;have HCs:=aLa hcs;clear hos hcs hS hz hxx;by_cases h1:z<1
      ·have HE:=aLa (show bT zs 1=2 by
        rw[HE0.out,if_pos (FT (k:=i+1) (by rw[HOs.out];unfold JM;rw[aLW (by omega),Bool.and_false]))])
       go_wp2_with fail;try simp only[Exit.inBlock,Exit.then]
       exact aL0 (v:=.tuple #[.string ⟨#[]⟩,.int .i64 2]) (by simp[results,Tryz.results284,go_sem]) rfl (kM HE.out (by decide) hbr)
      ·by_cases h2:4000<z
       ·have HE:=aLa (show bT zs 1=2 by
         rw[HE0.out,if_pos (FT (k:=i+1) (by rw[HOs.out];unfold JM;rw[aLW (by omega),Bool.and_false]))])
        go_wp2_with fail;try simp only[Exit.inBlock,Exit.then]
        exact aL0 (v:=.tuple #[.string ⟨#[]⟩,.int .i64 2]) (by simp[results,Tryz.results284,go_sem]) rfl (kM HE.out (by decide) hbr)
       ·have hcz:(S:Int)+z=((dE zs (i+1):Nat):Int):=(by rw[HCs.out];unfold WV;omega);have HCz:=aLa hcz;have HO2:=aLa (show K9 zs (i+1)=true by rw[HOs.out,hok.out];unfold JM;rw[aLX ⟨by omega,by omega⟩];rfl);clear hcz;go_wp2_with fail;exact ⟨⟨i+1,hlt,by go_num,by rw[HCz.out],hbr,HO2⟩,by simp[RowKit.intOf]<;>omega⟩
     ·obtain rfl:i=n:=(by omega);have ZN:=hok.out;rw[HN.out] at ZN;have HE:=aLa (show bT zs 1=0 by rw[HE0.out,if_neg (by rw[ZN];decide)]);have HOk:=aLa (xM ZN);have hsp:=zI (by rw[←HN.out];omega) (xM ZN);rw[←HN.out] at hsp;have hsl:=nJ zs i;obtain ⟨n,hnd⟩:=aLt i;subst hnd;obtain ⟨S,hS⟩:=aLt (dE zs n);rw[←hS] at hsp hsl ⊢;have HS:=aLa hS;clear hok ZN hS;go_upto_region 15 with fail;obtain ⟨w3,hw3⟩:=aLt (wr.alloc (.cells #[.pointer none,.slice none 0 0] 94));have hb3:=aLn hw3;obtain ⟨B,hB⟩:=aLt wr.heap.size;have H0:=aLa (show Bui B (gI zs 1 S 0) w3 by rw[hw3,hB];exact nZ wr);have N2:B≤w3.heap.size:=(by rw[hB];exact hb3.le);rw[←hw3,←hB];have HB:=aLa hB;clear hw3 hB;go_wp2_with fail;go_loopw [59] (fun v wq=>∃i:Nat,i≤n∧v=.int .i64 i∧Bl wr wq∧B≤wq.heap.size∧Hid (Bui B (gI zs 1 S i) wq)) (fun v _=>n-(RowKit.intOf v).toNat);case atStart=>exact ⟨0,Nat.zero_le _,rfl,hb3,N2,H0⟩
      case round=>
       rename World=>wq;obtain ⟨i,hi,rfl,hbq,hBq,hbu⟩:=hrel;by_cases hlt:i<n
       ·obtain ⟨z,hg⟩:∃z,zs[i]? = some z:=⟨_,aLv (by have:=HN.out;omega)⟩;have hxx:=HX.out.bl (hbr.trans hbq);rw[HN.out] at hxx;obtain ⟨ad,rfl,c0⟩:=wC hxx hg;have hz:=HOk.out z (List.mem_of_getElem? hg);have HG:=aLa hg;have hst:gI zs 1 S (i+1)=gI zs 1 S i++List.replicate (gH zs 1 S i) (bI i):=rfl;have aDQ:=tM zs 1 S i;have hul:=oH zs 1 S i;have HSt:=aLa hst;clear hxx hg hst;have hr2:i % 2=0∨i % 2=1:=(by omega);obtain ⟨r,hr⟩:=aLt (i % 2);have hrI:(i:Int) % 2=(r:Int):=(by omega);have hmo:bI i=if r=0 then 49 else 48:=(by unfold bI;rw[hr]);rw[←hr] at hr2;clear hr;rcases hr2 with rfl|rfl
        ·have HMo:=aLa (show bI i=49 from hmo);clear hmo;have hR:=xV (z*95) (S:Int) wq (by omega) (by omega) (by omega) (by omega);obtain ⟨R,hRR⟩:=aLt (oN (z*95) (S:Int));rw[←hRR] at hR;have hK:gH zs 1 S i=(min 4 (max 1 R)).toNat:=(by unfold gH;rw[if_pos rfl,aLx,HG.out,hRR];rfl);have hKI:min (max R 1) 4=((gH zs 1 S i:Nat):Int):=(by rw[hK];omega);obtain ⟨k,hk⟩:=aLt (gH zs 1 S i);rw[←hk] at hKI aDQ HSt;have HR:=aLa hR;clear hR hRR hK hk;have Hrp:=aLa (show Calls Tryz.prog 213 #[.string ⟨#[49]⟩,.int .i64 k] wq (fun e w'=>e=.returned (.string ⟨(List.replicate k (bI i)).toArray⟩)∧Bl wq w') from by rw[HMo.out];exact fR 49 (.inr rfl) k aDQ.1 aDQ.2 wq);go_wp2_with fail;refine HR.out.mono ?_;rintro e w' ⟨rfl,rfl⟩;go_wp2_with fail;refine Hrp.out.mono ?_;rintro e w5 ⟨rfl,hb5⟩;have AV:=fQ hbu.out hb5;have AW:B≤w5.heap.size:=aMb hBq hb5.le;have Hw:=aLa (aJ B _ (List.replicate k (bI i)) w5 AV (by rw[aLF];omega) AW);have HB5:=aLa (hbq.trans hb5);clear Hrp AV hb5;go_wp2_with fail;refine Hw.out.mono ?_;rintro e w6 ⟨rfl,sN,pB⟩;rw[←HSt.out] at sN;have N4:=aLa sN;have HB6:=aLa (Bl.trans' HB5.out HB.out.symm pB);have N5:B≤w6.heap.size:=aMb AW pB.size;clear Hw sN pB;go_wp2_with fail;exact ⟨⟨i+1,hlt,by go_num,HB6.out,N5,N4⟩,by simp[RowKit.intOf]<;>omega⟩
        ·have HMo:=aLa (show bI i=48 from hmo);clear hmo;have hR:=xV (z*95) (S:Int) wq (by omega) (by omega) (by omega) (by omega);obtain ⟨R,hRR⟩:=aLt (oN (z*95) (S:Int));rw[←hRR] at hR;have hK:gH zs 1 S i=(min 4 (max 1 R)).toNat:=(by unfold gH;rw[if_pos rfl,aLx,HG.out,hRR];rfl);have hKI:min (max R 1) 4=((gH zs 1 S i:Nat):Int):=(by rw[hK];omega);obtain ⟨k,hk⟩:=aLt (gH zs 1 S i);rw[←hk] at hKI aDQ HSt;have HR:=aLa hR;clear hR hRR hK hk;have Hrp:=aLa (show Calls Tryz.prog 213 #[.string ⟨#[48]⟩,.int .i64 k] wq (fun e w'=>e=.returned (.string ⟨(List.replicate k (bI i)).toArray⟩)∧Bl wq w') from by rw[HMo.out];exact fR 48 (.inl rfl) k aDQ.1 aDQ.2 wq);go_wp2_with fail;refine HR.out.mono ?_;rintro e w' ⟨rfl,rfl⟩;go_wp2_with fail;refine Hrp.out.mono ?_;rintro e w5 ⟨rfl,hb5⟩;have AV:=fQ hbu.out hb5;have AW:B≤w5.heap.size:=aMb hBq hb5.le;have Hw:=aLa (aJ B _ (List.replicate k (bI i)) w5 AV (by rw[aLF];omega) AW);have HB5:=aLa (hbq.trans hb5);clear Hrp AV hb5;go_wp2_with fail;refine Hw.out.mono ?_;rintro e w6 ⟨rfl,sN,pB⟩;rw[←HSt.out] at sN;have N4:=aLa sN;have HB6:=aLa (Bl.trans' HB5.out HB.out.symm pB);have N5:B≤w6.heap.size:=aMb AW pB.size;clear Hw sN pB;go_wp2_with fail;exact ⟨⟨i+1,hlt,by go_num,HB6.out,N5,N4⟩,by simp[RowKit.intOf]<;>omega⟩
       ·obtain rfl:i=n:=(by omega);have Hst:=aLa (eY B _ wq hbu.out hBq);clear hbu;go_wp2_with fail;refine Hst.out.mono ?_;rintro e w5 ⟨rfl,QP⟩;have HB5:=aLa (Bl.trans' hbq HB.out.symm QP);clear Hst QP;go_wp2_with fail;refine aL0 (v:=.tuple #[.string ⟨(gI zs 1 S i).toArray⟩,.int .i64 0]) (by simp[results,Tryz.results284,go_sem]) rfl ⟨?_,hbr.trans HB5.out⟩;rw[HE.out,if_pos rfl,←HN.out,←HS.out]
   ·have h10:(n:Int) % 10=9:=(by omega);have h29:¬((n:Int)<29):=(by omega);go_upto_region 6 with fail;go_wp2_with fail;go_loopw [6,43] (fun u v wr=>∃i:Nat,i≤n∧v=.int .i64 i∧u=.int .i64 ((dE zs i:Nat):Int)∧Bl w wr∧Hid (K9 zs i=true)) (fun _ v _=>n-(RowKit.intOf v).toNat);case atStart=>exact ⟨0,Nat.zero_le _,rfl,rfl,Bl.refl _,aLa rfl⟩
    case round=>
     obtain ⟨i,hi,rfl,rfl,hbr,hok⟩:=hrel;by_cases hlt:i<n
     ·obtain ⟨z,hz⟩:∃z,zs[i]? = some z:=⟨_,aLv (by have:=HN.out;omega)⟩;have hxx:=HX.out.bl hbr;rw[HN.out] at hxx;obtain ⟨ad,rfl,c0⟩:=wC hxx hz;have hos:=JN hz;have hcs:=mM hz;have hcl:=nJ zs i;obtain ⟨S,hS⟩:=aLt (dE zs i);rw[←hS] at hcs hcl ⊢;have HOs:=aLa hos;have HCs:=aLa hcs;clear hos hcs hS hz hxx;by_cases h1:z<1
      ·have HE:=aLa (show bT zs 2=2 by
        rw[HE0.out,if_pos (FT (k:=i+1) (by rw[HOs.out];unfold JM;rw[aLW (by omega),Bool.and_false]))])
       go_wp2_with fail;try simp only[Exit.inBlock,Exit.then]
       exact aL0 (v:=.tuple #[.string ⟨#[]⟩,.int .i64 2]) (by simp[results,Tryz.results284,go_sem]) rfl (kM HE.out (by decide) hbr)
      ·by_cases h2:4000<z
       ·have HE:=aLa (show bT zs 2=2 by
         rw[HE0.out,if_pos (FT (k:=i+1) (by rw[HOs.out];unfold JM;rw[aLW (by omega),Bool.and_false]))])
        go_wp2_with fail;try simp only[Exit.inBlock,Exit.then]
        exact aL0 (v:=.tuple #[.string ⟨#[]⟩,.int .i64 2]) (by simp[results,Tryz.results284,go_sem]) rfl (kM HE.out (by decide) hbr)
       ·have hcz:(S:Int)+z=((dE zs (i+1):Nat):Int):=(by rw[HCs.out];unfold WV;omega);have HCz:=aLa hcz;have HO2:=aLa (show K9 zs (i+1)=true by rw[HOs.out,hok.out];unfold JM;rw[aLX ⟨by omega,by omega⟩];rfl);clear hcz;go_wp2_with fail;exact ⟨⟨i+1,hlt,by go_num,by rw[HCz.out],hbr,HO2⟩,by simp[RowKit.intOf]<;>omega⟩
     ·obtain rfl:i=n:=(by omega);have ZN:=hok.out;rw[HN.out] at ZN;have HE:=aLa (show bT zs 2=0 by rw[HE0.out,if_neg (by rw[ZN];decide)]);have HOk:=aLa (xM ZN);have hsp:=zI (by rw[←HN.out];omega) (xM ZN);rw[←HN.out] at hsp;have hsl:=nJ zs i;obtain ⟨n,hnd⟩:=aLt i;subst hnd;obtain ⟨S,hS⟩:=aLt (dE zs n);rw[←hS] at hsp hsl ⊢;have HS:=aLa hS;clear hok ZN hS;go_upto_region 15 with fail;obtain ⟨w3,hw3⟩:=aLt (wr.alloc (.cells #[.pointer none,.slice none 0 0] 94));have hb3:=aLn hw3;obtain ⟨B,hB⟩:=aLt wr.heap.size;have H0:=aLa (show Bui B (gI zs 2 S 0) w3 by rw[hw3,hB];exact nZ wr);have N2:B≤w3.heap.size:=(by rw[hB];exact hb3.le);rw[←hw3,←hB];have HB:=aLa hB;clear hw3 hB;go_wp2_with fail;go_loopw [59] (fun v wq=>∃i:Nat,i≤n∧v=.int .i64 i∧Bl wr wq∧B≤wq.heap.size∧Hid (Bui B (gI zs 2 S i) wq)) (fun v _=>n-(RowKit.intOf v).toNat);case atStart=>exact ⟨0,Nat.zero_le _,rfl,hb3,N2,H0⟩
      case round=>
       rename World=>wq;obtain ⟨i,hi,rfl,hbq,hBq,hbu⟩:=hrel;by_cases hlt:i<n
       ·obtain ⟨z,hg⟩:∃z,zs[i]? = some z:=⟨_,aLv (by have:=HN.out;omega)⟩;have hxx:=HX.out.bl (hbr.trans hbq);rw[HN.out] at hxx;obtain ⟨ad,rfl,c0⟩:=wC hxx hg;have hz:=HOk.out z (List.mem_of_getElem? hg);have HG:=aLa hg;have hst:gI zs 2 S (i+1)=gI zs 2 S i++List.replicate (gH zs 2 S i) (bI i):=rfl;have aDQ:=tM zs 2 S i;have hul:=oH zs 2 S i;have HSt:=aLa hst;clear hxx hg hst;have hr2:i % 2=0∨i % 2=1:=(by omega);obtain ⟨r,hr⟩:=aLt (i % 2);have hrI:(i:Int) % 2=(r:Int):=(by omega);have hmo:bI i=if r=0 then 49 else 48:=(by unfold bI;rw[hr]);rw[←hr] at hr2;clear hr;rcases hr2 with rfl|rfl
        ·have HMo:=aLa (show bI i=49 from hmo);clear hmo;obtain ⟨m,hm⟩:=aLt (i % 10);have hmI:(i:Int) % 10=(m:Int):=(by omega);obtain ⟨d,hd⟩:=aLt (i / 10);have hdI:(i:Int) / 10=(d:Int):=(by omega);by_cases hm9:m<9
         ·have hs9:d*10+9≤n:=(by omega);have hsI:(d:Int)*10=((d*10:Nat):Int):=(by omega);obtain ⟨q,hq⟩:=aLt (d*10);rw[←hq] at hs9 hsI;have hbl:dY zs i=(zs.drop q).take 9:=(by unfold dY;rw[hq,hd]);have aDR:(dY zs i).length=9:=(by rw[hbl,aLA,aLJ,←HN.out];omega);have hrd:Reads wq 1 (some (ad.add q)) (dY zs i).length (cB (dY zs i)):=by
           have h:=Reads.sub (HX.out.bl (hbr.trans hbq)) hs9;rw[aDR,hbl];unfold cB at h ⊢;rw[←List.map_drop,←List.map_take] at h;exact h
          have hbo:∀y∈dY zs i,1≤y∧y≤4000:=fun y hy=>HOk.out y (List.mem_of_mem_drop (List.mem_of_mem_take (by rw[←hbl];exact hy)));have hwd:=OY z (some (ad.add q)) (c-q) (dY zs i) wq hz hrd (by omega) (by omega) hbo;rw[aDR] at hwd;obtain ⟨wb,hwb⟩:=aLt (FH z (dY zs i));rw[←hwb] at hwd;have hK:gH zs 2 S i=if wb=true then 3 else 1:=by
           unfold gH;rw[if_neg (by decide),aLx,HG.out];show (if i % 10<9∧FH z (dY zs i)=true then 3 else 1)=_;rw[←hwb];by_cases h:wb=true
           ·rw[if_pos h,if_pos ⟨by omega,h⟩]
           ·rw[if_neg h,if_neg (fun hh=>h hh.2)]
          have hqq:q+9-q=9:=(by omega);have hqc:q+9≤c:=(by omega);have aFb:(m:Int)<9:=(by omega);have HWd:=aLa hwd;rw[hK] at HSt;clear hwd hwb hK hbl aDR hrd hbo hq hd hm;cases wb with
          |true=>
           rw[if_pos rfl] at HSt;have Hrp:=aLa (show Calls Tryz.prog 213 #[.string ⟨#[49]⟩,.int .i64 3] wq (fun e w'=>e=.returned (.string ⟨(List.replicate 3 (bI i)).toArray⟩)∧Bl wq w') from by rw[HMo.out];exact fR 49 (.inr rfl) 3 (by decide) (by decide) wq);go_wp2_with fail;first|rw[hqq]|skip
           refine HWd.out.mono ?_;rintro e w' ⟨rfl,rfl⟩;go_wp2_with fail;refine Hrp.out.mono ?_;rintro e w5 ⟨rfl,hb5⟩;have AV:=fQ hbu.out hb5;have AW:B≤w5.heap.size:=aMb hBq hb5.le;have Hw:=aLa (aJ B _ (List.replicate 3 (bI i)) w5 AV (by rw[aLF];omega) AW);have HB5:=aLa (hbq.trans hb5);clear Hrp AV hb5;go_wp2_with fail;refine Hw.out.mono ?_;rintro e w6 ⟨rfl,sN,pB⟩;rw[←HSt.out] at sN;have N4:=aLa sN;have HB6:=aLa (Bl.trans' HB5.out HB.out.symm pB);have N5:B≤w6.heap.size:=aMb AW pB.size;clear Hw sN pB;go_wp2_with fail;exact ⟨⟨i+1,hlt,by go_num,HB6.out,N5,N4⟩,by simp[RowKit.intOf]<;>omega⟩
          |false=>
           rw[if_neg (by decide)] at HSt;have Hrp:=aLa (show Calls Tryz.prog 213 #[.string ⟨#[49]⟩,.int .i64 1] wq (fun e w'=>e=.returned (.string ⟨(List.replicate 1 (bI i)).toArray⟩)∧Bl wq w') from by rw[HMo.out];exact fR 49 (.inr rfl) 1 (by decide) (by decide) wq);go_wp2_with fail;first|rw[hqq]|skip
           refine HWd.out.mono ?_;rintro e w' ⟨rfl,rfl⟩;go_wp2_with fail;refine Hrp.out.mono ?_;rintro e w5 ⟨rfl,hb5⟩;have AV:=fQ hbu.out hb5;have AW:B≤w5.heap.size:=aMb hBq hb5.le;have Hw:=aLa (aJ B _ (List.replicate 1 (bI i)) w5 AV (by rw[aLF];omega) AW);have HB5:=aLa (hbq.trans hb5);clear Hrp AV hb5;go_wp2_with fail;refine Hw.out.mono ?_;rintro e w6 ⟨rfl,sN,pB⟩;rw[←HSt.out] at sN;have N4:=aLa sN;have HB6:=aLa (Bl.trans' HB5.out HB.out.symm pB);have N5:B≤w6.heap.size:=aMb AW pB.size;clear Hw sN pB;go_wp2_with fail;exact ⟨⟨i+1,hlt,by go_num,HB6.out,N5,N4⟩,by simp[RowKit.intOf]<;>omega⟩
         ·have hK:gH zs 2 S i=1:=by
           unfold gH;rw[if_neg (by decide),if_neg (fun hh=>by omega)]
          have aFb:¬((m:Int)<9):=(by omega);rw[hK] at HSt;clear hK hd hm;have Hrp:=aLa (show Calls Tryz.prog 213 #[.string ⟨#[49]⟩,.int .i64 1] wq (fun e w'=>e=.returned (.string ⟨(List.replicate 1 (bI i)).toArray⟩)∧Bl wq w') from by rw[HMo.out];exact fR 49 (.inr rfl) 1 (by decide) (by decide) wq);go_wp2_with fail;refine Hrp.out.mono ?_;rintro e w5 ⟨rfl,hb5⟩;have AV:=fQ hbu.out hb5;have AW:B≤w5.heap.size:=aMb hBq hb5.le;have Hw:=aLa (aJ B _ (List.replicate 1 (bI i)) w5 AV (by rw[aLF];omega) AW);have HB5:=aLa (hbq.trans hb5);clear Hrp AV hb5;go_wp2_with fail;refine Hw.out.mono ?_;rintro e w6 ⟨rfl,sN,pB⟩;rw[←HSt.out] at sN;have N4:=aLa sN;have HB6:=aLa (Bl.trans' HB5.out HB.out.symm pB);have N5:B≤w6.heap.size:=aMb AW pB.size;clear Hw sN pB;go_wp2_with fail;exact ⟨⟨i+1,hlt,by go_num,HB6.out,N5,N4⟩,by simp[RowKit.intOf]<;>omega⟩
        ·have HMo:=aLa (show bI i=48 from hmo);clear hmo;obtain ⟨m,hm⟩:=aLt (i % 10);have hmI:(i:Int) % 10=(m:Int):=(by omega);obtain ⟨d,hd⟩:=aLt (i / 10);have hdI:(i:Int) / 10=(d:Int):=(by omega);by_cases hm9:m<9
         ·have hs9:d*10+9≤n:=(by omega);have hsI:(d:Int)*10=((d*10:Nat):Int):=(by omega);obtain ⟨q,hq⟩:=aLt (d*10);rw[←hq] at hs9 hsI;have hbl:dY zs i=(zs.drop q).take 9:=(by unfold dY;rw[hq,hd]);have aDR:(dY zs i).length=9:=(by rw[hbl,aLA,aLJ,←HN.out];omega);have hrd:Reads wq 1 (some (ad.add q)) (dY zs i).length (cB (dY zs i)):=by
           have h:=Reads.sub (HX.out.bl (hbr.trans hbq)) hs9;rw[aDR,hbl];unfold cB at h ⊢;rw[←List.map_drop,←List.map_take] at h;exact h
          have hbo:∀y∈dY zs i,1≤y∧y≤4000:=fun y hy=>HOk.out y (List.mem_of_mem_drop (List.mem_of_mem_take (by rw[←hbl];exact hy)));have hwd:=OY z (some (ad.add q)) (c-q) (dY zs i) wq hz hrd (by omega) (by omega) hbo;rw[aDR] at hwd;obtain ⟨wb,hwb⟩:=aLt (FH z (dY zs i));rw[←hwb] at hwd;have hK:gH zs 2 S i=if wb=true then 3 else 1:=by
           unfold gH;rw[if_neg (by decide),aLx,HG.out];show (if i % 10<9∧FH z (dY zs i)=true then 3 else 1)=_;rw[←hwb];by_cases h:wb=true
           ·rw[if_pos h,if_pos ⟨by omega,h⟩]
           ·rw[if_neg h,if_neg (fun hh=>h hh.2)]
          have hqq:q+9-q=9:=(by omega);have hqc:q+9≤c:=(by omega);have aFb:(m:Int)<9:=(by omega);have HWd:=aLa hwd;rw[hK] at HSt;clear hwd hwb hK hbl aDR hrd hbo hq hd hm;cases wb with
          |true=>
           rw[if_pos rfl] at HSt;have Hrp:=aLa (show Calls Tryz.prog 213 #[.string ⟨#[48]⟩,.int .i64 3] wq (fun e w'=>e=.returned (.string ⟨(List.replicate 3 (bI i)).toArray⟩)∧Bl wq w') from by rw[HMo.out];exact fR 48 (.inl rfl) 3 (by decide) (by decide) wq);go_wp2_with fail;first|rw[hqq]|skip
           refine HWd.out.mono ?_;rintro e w' ⟨rfl,rfl⟩;go_wp2_with fail;refine Hrp.out.mono ?_;rintro e w5 ⟨rfl,hb5⟩;have AV:=fQ hbu.out hb5;have AW:B≤w5.heap.size:=aMb hBq hb5.le;have Hw:=aLa (aJ B _ (List.replicate 3 (bI i)) w5 AV (by rw[aLF];omega) AW);have HB5:=aLa (hbq.trans hb5);clear Hrp AV hb5;go_wp2_with fail;refine Hw.out.mono ?_;rintro e w6 ⟨rfl,sN,pB⟩;rw[←HSt.out] at sN;have N4:=aLa sN;have HB6:=aLa (Bl.trans' HB5.out HB.out.symm pB);have N5:B≤w6.heap.size:=aMb AW pB.size;clear Hw sN pB;go_wp2_with fail;exact ⟨⟨i+1,hlt,by go_num,HB6.out,N5,N4⟩,by simp[RowKit.intOf]<;>omega⟩
          |false=>
           rw[if_neg (by decide)] at HSt;have Hrp:=aLa (show Calls Tryz.prog 213 #[.string ⟨#[48]⟩,.int .i64 1] wq (fun e w'=>e=.returned (.string ⟨(List.replicate 1 (bI i)).toArray⟩)∧Bl wq w') from by rw[HMo.out];exact fR 48 (.inl rfl) 1 (by decide) (by decide) wq);go_wp2_with fail;first|rw[hqq]|skip
           refine HWd.out.mono ?_;rintro e w' ⟨rfl,rfl⟩;go_wp2_with fail;refine Hrp.out.mono ?_;rintro e w5 ⟨rfl,hb5⟩;have AV:=fQ hbu.out hb5;have AW:B≤w5.heap.size:=aMb hBq hb5.le;have Hw:=aLa (aJ B _ (List.replicate 1 (bI i)) w5 AV (by rw[aLF];omega) AW);have HB5:=aLa (hbq.trans hb5);clear Hrp AV hb5;go_wp2_with fail;refine Hw.out.mono ?_;rintro e w6 ⟨rfl,sN,pB⟩;rw[←HSt.out] at sN;have N4:=aLa sN;have HB6:=aLa (Bl.trans' HB5.out HB.out.symm pB);have N5:B≤w6.heap.size:=aMb AW pB.size;clear Hw sN pB;go_wp2_with fail;exact ⟨⟨i+1,hlt,by go_num,HB6.out,N5,N4⟩,by simp[RowKit.intOf]<;>omega⟩
         ·have hK:gH zs 2 S i=1:=by
           unfold gH;rw[if_neg (by decide),if_neg (fun hh=>by omega)]
          have aFb:¬((m:Int)<9):=(by omega);rw[hK] at HSt;clear hK hd hm;have Hrp:=aLa (show Calls Tryz.prog 213 #[.string ⟨#[48]⟩,.int .i64 1] wq (fun e w'=>e=.returned (.string ⟨(List.replicate 1 (bI i)).toArray⟩)∧Bl wq w') from by rw[HMo.out];exact fR 48 (.inl rfl) 1 (by decide) (by decide) wq);go_wp2_with fail;refine Hrp.out.mono ?_;rintro e w5 ⟨rfl,hb5⟩;have AV:=fQ hbu.out hb5;have AW:B≤w5.heap.size:=aMb hBq hb5.le;have Hw:=aLa (aJ B _ (List.replicate 1 (bI i)) w5 AV (by rw[aLF];omega) AW);have HB5:=aLa (hbq.trans hb5);clear Hrp AV hb5;go_wp2_with fail;refine Hw.out.mono ?_;rintro e w6 ⟨rfl,sN,pB⟩;rw[←HSt.out] at sN;have N4:=aLa sN;have HB6:=aLa (Bl.trans' HB5.out HB.out.symm pB);have N5:B≤w6.heap.size:=aMb AW pB.size;clear Hw sN pB;go_wp2_with fail;exact ⟨⟨i+1,hlt,by go_num,HB6.out,N5,N4⟩,by simp[RowKit.intOf]<;>omega⟩
       ·obtain rfl:i=n:=(by omega);have Hst:=aLa (eY B _ wq hbu.out hBq);clear hbu;go_wp2_with fail;refine Hst.out.mono ?_;rintro e w5 ⟨rfl,QP⟩;have HB5:=aLa (Bl.trans' hbq HB.out.symm QP);clear Hst QP;go_wp2_with fail;refine aL0 (v:=.tuple #[.string ⟨(gI zs 2 S i).toArray⟩,.int .i64 0]) (by simp[results,Tryz.results284,go_sem]) rfl ⟨?_,hbr.trans HB5.out⟩;rw[HE.out,if_pos rfl,←HN.out,←HS.out]
end Go.Proofs.YtllefinciimffaaGreatDoor
