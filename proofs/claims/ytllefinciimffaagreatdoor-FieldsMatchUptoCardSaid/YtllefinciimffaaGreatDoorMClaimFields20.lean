import Derived.Test.YtllefinciimffaaGreatDoorMClaimFields13
import Derived.Test.YtllefinciimffaaGreatDoorMClaimFields12
set_option maxHeartbeats 20000000
set_option maxRecDepth 100000
namespace Go.Proofs.YtllefinciimffaaGreatDoor
open Go.RowKit Go.Shelf
def RJ (n:Nat) (kind:Int):Bool:=decide (kind=1∧n=59)||decide (kind=2∧29≤n∧n % 10=9)
def vB (z:Int):Bool:=decide (1≤z∧z≤4000)
def tL (zs:List Int) (k:Nat):Bool:=(zs.take k).all vB
theorem r8 {zs:List Int} {k:Nat} {z:Int} (h:zs[k]? = some z):tL zs (k+1)=(tL zs k&&vB z):=by
 unfold tL;rw[aIJ,h,List.all_append];simp
theorem DU {zs:List Int} {k:Nat} (h:tL zs k=false):tL zs zs.length=false:=by
 unfold tL at h ⊢;rw[aH9];rw[Bool.eq_false_iff] at h ⊢;intro h2;exact h (aIl.2 fun x hx=>aIl.1 h2 x (List.mem_of_mem_take hx))
theorem lZ {zs:List Int} (h:tL zs zs.length=true):∀z∈zs,1≤z∧z≤4000:=by
 unfold tL at h;rw[aH9] at h;exact fun z hz=>aIv (aIl.1 h z hz)
def BM (z:Int):Nat:=(min (max z 0) 4000).toNat
def dV (zs : List Int) : Nat → Nat
 |0=>0
 |k+1=>dV zs k+BM (zs.getD k 0)
theorem jK {zs:List Int} {k:Nat} {z:Int} (h:zs[k]? = some z):dV zs (k+1)=dV zs k+BM z:=by
 show dV zs k+BM (zs.getD k 0)=_;rw[aH4,h];rfl
theorem gI (zs : List Int) : ∀ k, dV zs k ≤ k * 4000
 |0=>Nat.le_refl _
 |k+1=>by
  have ih:=gI zs k;have h:BM (zs.getD k 0)≤4000:=(by unfold BM;omega);show dV zs k+BM (zs.getD k 0)≤_;omega
theorem nW {zs:List Int} (hp:1≤zs.length) (h:∀z∈zs,1≤z∧z≤4000):1≤dV zs zs.length:=by
 obtain ⟨n,hn⟩:∃n,zs.length=n+1:=⟨zs.length-1,by omega⟩;have hg:zs[n]? = some zs[n]:=aH2 (by omega);have h1:=h _ (List.mem_of_getElem? hg);rw[hn,jK hg];have:1≤BM zs[n]:=(by unfold BM;omega);omega
def cA (zs:List Int) (kind:Int):Int:=if kind≠1∧kind≠2 then 1 else if RJ zs.length kind=false then 2 else if tL zs zs.length=false then 2 else 0
def bB (zs:List Int) (i:Nat):List Int:=(zs.drop (i / 10*10)).take 9
def dP (zs:List Int) (kind:Int) (sum i:Nat):Nat:=if kind=1 then (min 4 (max 1 (rD (zs.getD i 0*95) sum))).toNat else if i % 10<9∧tI (zs.getD i 0) (bB zs i)=true then 3 else 1
theorem pD (zs:List Int) (kind:Int) (sum i:Nat):1≤dP zs kind sum i∧dP zs kind sum i≤4:=by
 unfold dP;split
 ·omega
 ·split<;>omega
def aN (i:Nat):UInt8:=if i % 2=0 then 49 else 48
def dC (zs : List Int) (kind : Int) (sum : Nat) : Nat → List UInt8
 |0=>[]
 |i+1=>dC zs kind sum i++List.replicate (dP zs kind sum i) (aN i)
theorem jD (zs : List Int) (kind : Int) (sum : Nat) : ∀ i, (dC zs kind sum i).length ≤ i * 4
 |0=>Nat.le_refl _
 |i+1=>by
  have ih:=jD zs kind sum i;have h:=(pD zs kind sum i).2;show (dC zs kind sum i++List.replicate (dP zs kind sum i) (aN i)).length≤_;rw[aH5,aIc];omega
def UnitsRes (zs:List Int) (kind:Int) (w:World) (e:Ending) (w':World):Prop:=e=.returned (.tuple #[.string ⟨(if cA zs kind=0 then dC zs kind (dV zs zs.length) zs.length else []).toArray⟩,.int .i64 (cA zs kind)])∧Bl w w'
theorem gD {zs:List Int} {kind:Int} {w w':World} {err:Int} (h:cA zs kind=err) (hz:err≠0) (hb:Bl w w'):UnitsRes zs kind w (.returned (.tuple #[.string ⟨#[]⟩,err])) w':=by
 unfold UnitsRes;rw[h,if_neg hz];exact ⟨rfl,hb⟩
theorem r9 (zs:List Int) (L:Option Addr) (c:Nat) (kind:Int) (w:World) (hx:Reads w 1 L zs.length (bD zs)) (hn:zs.length≤1048576) (hc:zs.length≤c) :
 Calls Tryz.prog 284 #[.slice L zs.length c,kind] w (UnitsRes zs kind w):=by
 have HX:=aHH hx;clear hx;obtain ⟨n,hnn⟩:=aH0 zs.length;have HN:=aHH hnn;rw[←hnn] at HX hn hc ⊢;clear hnn
 go_in
 by_cases hk:kind≠1∧kind≠2
 ·have HE:=aHH (show cA zs kind=1 by unfold cA;rw[if_pos hk]);have h1:(kind != 1)=true:=(by rw[bne_iff_ne];exact hk.1);have h2:(kind != 2)=true:=(by rw[bne_iff_ne];exact hk.2);have h3:(kind != 1&&kind != 2)=true:=(by rw[h1,h2];rfl);clear hk;go_wp2_with fail;try simp only[Exit.inBlock,Exit.then]
  exact aIx (v:=.tuple #[.string ⟨#[]⟩,.int .i64 1]) (by simp[results,Tryz.results284,go_sem]) rfl (gD HE.out (by decide) (Bl.refl _))
 ·by_cases hl:RJ n kind=false
  ·have HE:=aHH (show cA zs kind=2 by unfold cA;rw[if_neg hk,←HN.out,if_pos hl]);have VF:(kind=1∧n≠59)∨(kind=2∧(n % 10≠9∨n<29)):=by
    unfold RJ at hl;simp only[Bool.or_eq_false_iff,decide_eq_false_iff_not] at hl;omega
   clear hk hl;rcases VF with ⟨rfl,h⟩|⟨rfl,h⟩
   ·have h1:(n:Int)≠59:=(by omega);clear h;go_wp2_with fail;try simp only[Exit.inBlock,Exit.then]
    exact aIx (v:=.tuple #[.string ⟨#[]⟩,.int .i64 2]) (by simp[results,Tryz.results284,go_sem]) rfl (gD HE.out (by decide) (Bl.refl _))
   ·have hm:(n:Int) % 10=((n % 10:Nat):Int):=(by omega);obtain ⟨m,hmm⟩:=aH0 (n % 10);rw[←hmm] at hm h;clear hmm;by_cases h9:m=9
    ·subst h9;have h1:(n:Int)<29:=(by omega);clear h;go_wp2_with fail;try simp only[Exit.inBlock,Exit.then]
     exact aIx (v:=.tuple #[.string ⟨#[]⟩,.int .i64 2]) (by simp[results,Tryz.results284,go_sem]) rfl (gD HE.out (by decide) (Bl.refl _))
    ·have h1:(m:Int)≠9:=(by omega);clear h h9;go_wp2_with fail;try simp only[Exit.inBlock,Exit.then]
     exact aIx (v:=.tuple #[.string ⟨#[]⟩,.int .i64 2]) (by simp[results,Tryz.results284,go_sem]) rfl (gD HE.out (by decide) (Bl.refl _))
  ·have HE0:=aHH (show cA zs kind=if tL zs zs.length=false then 2 else 0 by unfold cA;rw[if_neg hk,←HN.out,if_neg hl]);have aD4:(kind=1∧n=59)∨(kind=2∧29≤n∧n % 10=9):=by
    unfold RJ at hl;simp only[Bool.not_eq_false,Bool.or_eq_true,decide_eq_true_eq] at hl;exact hl
   have aFC:29≤n:=(by omega);clear hk hl;rcases aD4 with ⟨rfl,cT⟩|⟨rfl,hlen29,aB9⟩
   ·have h59:(n:Int)=59:=(by omega);clear cT;go_upto_region 6 with fail;clear h59;go_wp2_with fail;go_loopw [6,43] (fun u v wr=>∃i:Nat,i≤n∧v=.int .i64 i∧u=.int .i64 ((dV zs i:Nat):Int)∧Bl w wr∧Hid (tL zs i=true)) (fun _ v _=>n-(RowKit.intOf v).toNat);case atStart=>exact ⟨0,Nat.zero_le _,rfl,rfl,Bl.refl _,aHH rfl⟩
    case round=>
     obtain ⟨i,hi,rfl,rfl,hbr,hok⟩:=hrel;by_cases hlt:i<n
     ·obtain ⟨z,hz⟩:∃z,zs[i]? = some z:=⟨_,aH2 (by have:=HN.out;omega)⟩;have hxx:=HX.out.bl hbr;rw[HN.out] at hxx;obtain ⟨ad,rfl,c0⟩:=n8 hxx hz;have hos:=r8 hz;have hcs:=jK hz;have hcl:=gI zs i;obtain ⟨S,hS⟩:=aH0 (dV zs i);rw[←hS] at hcs hcl ⊢;have HOs:=aHH hos;have HCs:=aHH hcs;clear hos hcs hS hz hxx;by_cases h1:z<1
      ·have HE:=aHH (show cA zs 1=2 by
        rw[HE0.out,if_pos (DU (k:=i+1) (by rw[HOs.out];unfold vB;rw[aIt (by omega),Bool.and_false]))])
       go_wp2_with fail;try simp only[Exit.inBlock,Exit.then]
       exact aIx (v:=.tuple #[.string ⟨#[]⟩,.int .i64 2]) (by simp[results,Tryz.results284,go_sem]) rfl (gD HE.out (by decide) hbr)
      ·by_cases h2:4000<z
       ·have HE:=aHH (show cA zs 1=2 by
         rw[HE0.out,if_pos (DU (k:=i+1) (by rw[HOs.out];unfold vB;rw[aIt (by omega),Bool.and_false]))])
        go_wp2_with fail;try simp only[Exit.inBlock,Exit.then]
        exact aIx (v:=.tuple #[.string ⟨#[]⟩,.int .i64 2]) (by simp[results,Tryz.results284,go_sem]) rfl (gD HE.out (by decide) hbr)
       ·have hcz:(S:Int)+z=((dV zs (i+1):Nat):Int):=(by rw[HCs.out];unfold BM;omega);have HCz:=aHH hcz;have HO2:=aHH (show tL zs (i+1)=true by rw[HOs.out,hok.out];unfold vB;rw[aIu ⟨by omega,by omega⟩];rfl);clear hcz;go_wp2_with fail;exact ⟨⟨i+1,hlt,by go_num,by rw[HCz.out],hbr,HO2⟩,by simp[RowKit.intOf]<;>omega⟩
     ·obtain rfl:i=n:=(by omega);have VR:=hok.out;rw[HN.out] at VR;have HE:=aHH (show cA zs 1=0 by rw[HE0.out,if_neg (by rw[VR];decide)]);have HOk:=aHH (lZ VR);have hsp:=nW (by rw[←HN.out];omega) (lZ VR);rw[←HN.out] at hsp;have hsl:=gI zs i;obtain ⟨n,hnd⟩:=aH0 i;subst hnd;obtain ⟨S,hS⟩:=aH0 (dV zs n);rw[←hS] at hsp hsl ⊢;have HS:=aHH hS;clear hok VR hS;go_upto_region 15 with fail;obtain ⟨w3,hw3⟩:=aH0 (wr.alloc (.cells #[.pointer none,.slice none 0 0] 94));have hb3:=aHU hw3;obtain ⟨B,hB⟩:=aH0 wr.heap.size;have H0:=aHH (show Bui B (dC zs 1 S 0) w3 by rw[hw3,hB];exact nP wr);have LR:B≤w3.heap.size:=(by rw[hB];exact hb3.le);rw[←hw3,←hB];have HB:=aHH hB;clear hw3 hB;go_wp2_with fail;go_loopw [59] (fun v wq=>∃i:Nat,i≤n∧v=.int .i64 i∧Bl wr wq∧B≤wq.heap.size∧Hid (Bui B (dC zs 1 S i) wq)) (fun v _=>n-(RowKit.intOf v).toNat);case atStart=>exact ⟨0,Nat.zero_le _,rfl,hb3,LR,H0⟩
      case round=>
       rename World=>wq;obtain ⟨i,hi,rfl,hbq,hBq,hbu⟩:=hrel;by_cases hlt:i<n
       ·obtain ⟨z,hg⟩:∃z,zs[i]? = some z:=⟨_,aH2 (by have:=HN.out;omega)⟩;have hxx:=HX.out.bl (hbr.trans hbq);rw[HN.out] at hxx;obtain ⟨ad,rfl,c0⟩:=n8 hxx hg;have hz:=HOk.out z (List.mem_of_getElem? hg);have HG:=aHH hg;have hst:dC zs 1 S (i+1)=dC zs 1 S i++List.replicate (dP zs 1 S i) (aN i):=rfl;have LT:=pD zs 1 S i;have hul:=jD zs 1 S i;have HSt:=aHH hst;clear hxx hg hst;have hr2:i % 2=0∨i % 2=1:=(by omega);obtain ⟨r,hr⟩:=aH0 (i % 2);have hrI:(i:Int) % 2=(r:Int):=(by omega);have hmo:aN i=if r=0 then 49 else 48:=(by unfold aN;rw[hr]);rw[←hr] at hr2;clear hr;rcases hr2 with rfl|rfl
        ·have HMo:=aHH (show aN i=49 from hmo);clear hmo;have hR:=wH (z*95) (S:Int) wq (by omega) (by omega) (by omega) (by omega);obtain ⟨R,hRR⟩:=aH0 (rD (z*95) (S:Int));rw[←hRR] at hR;have hK:dP zs 1 S i=(min 4 (max 1 R)).toNat:=(by unfold dP;rw[if_pos rfl,aH4,HG.out,hRR];rfl);have hKI:min (max R 1) 4=((dP zs 1 S i:Nat):Int):=(by rw[hK];omega);obtain ⟨k,hk⟩:=aH0 (dP zs 1 S i);rw[←hk] at hKI LT HSt;have HR:=aHH hR;clear hR hRR hK hk;have Hrp:=aHH (show Calls Tryz.prog 213 #[.string ⟨#[49]⟩,.int .i64 k] wq (fun e w'=>e=.returned (.string ⟨(List.replicate k (aN i)).toArray⟩)∧Bl wq w') from by rw[HMo.out];exact cK 49 (.inr rfl) k LT.1 LT.2 wq);go_wp2_with fail;refine HR.out.mono ?_;rintro e w' ⟨rfl,rfl⟩;go_wp2_with fail;refine Hrp.out.mono ?_;rintro e w5 ⟨rfl,hb5⟩;have zE:=fK hbu.out hb5;have zF:B≤w5.heap.size:=aII hBq hb5.le;have Hw:=aHH (aO B _ (List.replicate k (aN i)) w5 zE (by rw[aIc];omega) zF);have HB5:=aHH (hbq.trans hb5);clear Hrp zE hb5;go_wp2_with fail;refine Hw.out.mono ?_;rintro e w6 ⟨rfl,qZ,oC⟩;rw[←HSt.out] at qZ;have LU:=aHH qZ;have HB6:=aHH (Bl.trans' HB5.out HB.out.symm oC);have LV:B≤w6.heap.size:=aII zF oC.size;clear Hw qZ oC;go_wp2_with fail;exact ⟨⟨i+1,hlt,by go_num,HB6.out,LV,LU⟩,by simp[RowKit.intOf]<;>omega⟩
        ·have HMo:=aHH (show aN i=48 from hmo);clear hmo;have hR:=wH (z*95) (S:Int) wq (by omega) (by omega) (by omega) (by omega);obtain ⟨R,hRR⟩:=aH0 (rD (z*95) (S:Int));rw[←hRR] at hR;have hK:dP zs 1 S i=(min 4 (max 1 R)).toNat:=(by unfold dP;rw[if_pos rfl,aH4,HG.out,hRR];rfl);have hKI:min (max R 1) 4=((dP zs 1 S i:Nat):Int):=(by rw[hK];omega);obtain ⟨k,hk⟩:=aH0 (dP zs 1 S i);rw[←hk] at hKI LT HSt;have HR:=aHH hR;clear hR hRR hK hk;have Hrp:=aHH (show Calls Tryz.prog 213 #[.string ⟨#[48]⟩,.int .i64 k] wq (fun e w'=>e=.returned (.string ⟨(List.replicate k (aN i)).toArray⟩)∧Bl wq w') from by rw[HMo.out];exact cK 48 (.inl rfl) k LT.1 LT.2 wq);go_wp2_with fail;refine HR.out.mono ?_;rintro e w' ⟨rfl,rfl⟩;go_wp2_with fail;refine Hrp.out.mono ?_;rintro e w5 ⟨rfl,hb5⟩;have zE:=fK hbu.out hb5;have zF:B≤w5.heap.size:=aII hBq hb5.le;have Hw:=aHH (aO B _ (List.replicate k (aN i)) w5 zE (by rw[aIc];omega) zF);have HB5:=aHH (hbq.trans hb5);clear Hrp zE hb5;go_wp2_with fail;refine Hw.out.mono ?_;rintro e w6 ⟨rfl,qZ,oC⟩;rw[←HSt.out] at qZ;have LU:=aHH qZ;have HB6:=aHH (Bl.trans' HB5.out HB.out.symm oC);have LV:B≤w6.heap.size:=aII zF oC.size;clear Hw qZ oC;go_wp2_with fail;exact ⟨⟨i+1,hlt,by go_num,HB6.out,LV,LU⟩,by simp[RowKit.intOf]<;>omega⟩
       ·obtain rfl:i=n:=(by omega);have Hst:=aHH (gG B _ wq hbu.out hBq);clear hbu;go_wp2_with fail;refine Hst.out.mono ?_;rintro e w5 ⟨rfl,VO⟩;have HB5:=aHH (Bl.trans' hbq HB.out.symm VO);clear Hst VO;go_wp2_with fail;refine aIx (v:=.tuple #[.string ⟨(dC zs 1 S i).toArray⟩,.int .i64 0]) (by simp[results,Tryz.results284,go_sem]) rfl ⟨?_,hbr.trans HB5.out⟩;rw[HE.out,if_pos rfl,←HN.out,←HS.out]
   ·have h10:(n:Int) % 10=9:=(by omega);have h29:¬((n:Int)<29):=(by omega);go_upto_region 6 with fail;go_wp2_with fail;go_loopw [6,43] (fun u v wr=>∃i:Nat,i≤n∧v=.int .i64 i∧u=.int .i64 ((dV zs i:Nat):Int)∧Bl w wr∧Hid (tL zs i=true)) (fun _ v _=>n-(RowKit.intOf v).toNat);case atStart=>exact ⟨0,Nat.zero_le _,rfl,rfl,Bl.refl _,aHH rfl⟩
    case round=>
     obtain ⟨i,hi,rfl,rfl,hbr,hok⟩:=hrel;by_cases hlt:i<n
     ·obtain ⟨z,hz⟩:∃z,zs[i]? = some z:=⟨_,aH2 (by have:=HN.out;omega)⟩;have hxx:=HX.out.bl hbr;rw[HN.out] at hxx;obtain ⟨ad,rfl,c0⟩:=n8 hxx hz;have hos:=r8 hz;have hcs:=jK hz;have hcl:=gI zs i;obtain ⟨S,hS⟩:=aH0 (dV zs i);rw[←hS] at hcs hcl ⊢;have HOs:=aHH hos;have HCs:=aHH hcs;clear hos hcs hS hz hxx;by_cases h1:z<1
      ·have HE:=aHH (show cA zs 2=2 by
        rw[HE0.out,if_pos (DU (k:=i+1) (by rw[HOs.out];unfold vB;rw[aIt (by omega),Bool.and_false]))])
       go_wp2_with fail;try simp only[Exit.inBlock,Exit.then]
       exact aIx (v:=.tuple #[.string ⟨#[]⟩,.int .i64 2]) (by simp[results,Tryz.results284,go_sem]) rfl (gD HE.out (by decide) hbr)
      ·by_cases h2:4000<z
       ·have HE:=aHH (show cA zs 2=2 by
         rw[HE0.out,if_pos (DU (k:=i+1) (by rw[HOs.out];unfold vB;rw[aIt (by omega),Bool.and_false]))])
        go_wp2_with fail;try simp only[Exit.inBlock,Exit.then]
        exact aIx (v:=.tuple #[.string ⟨#[]⟩,.int .i64 2]) (by simp[results,Tryz.results284,go_sem]) rfl (gD HE.out (by decide) hbr)
       ·have hcz:(S:Int)+z=((dV zs (i+1):Nat):Int):=(by rw[HCs.out];unfold BM;omega);have HCz:=aHH hcz;have HO2:=aHH (show tL zs (i+1)=true by rw[HOs.out,hok.out];unfold vB;rw[aIu ⟨by omega,by omega⟩];rfl);clear hcz;go_wp2_with fail;exact ⟨⟨i+1,hlt,by go_num,by rw[HCz.out],hbr,HO2⟩,by simp[RowKit.intOf]<;>omega⟩
     ·obtain rfl:i=n:=(by omega);have VR:=hok.out;rw[HN.out] at VR;have HE:=aHH (show cA zs 2=0 by rw[HE0.out,if_neg (by rw[VR];decide)]);have HOk:=aHH (lZ VR);have hsp:=nW (by rw[←HN.out];omega) (lZ VR);rw[←HN.out] at hsp;have hsl:=gI zs i;obtain ⟨n,hnd⟩:=aH0 i;subst hnd;obtain ⟨S,hS⟩:=aH0 (dV zs n);rw[←hS] at hsp hsl ⊢;have HS:=aHH hS;clear hok VR hS;go_upto_region 15 with fail;obtain ⟨w3,hw3⟩:=aH0 (wr.alloc (.cells #[.pointer none,.slice none 0 0] 94));have hb3:=aHU hw3;obtain ⟨B,hB⟩:=aH0 wr.heap.size;have H0:=aHH (show Bui B (dC zs 2 S 0) w3 by rw[hw3,hB];exact nP wr);have LR:B≤w3.heap.size:=(by rw[hB];exact hb3.le);rw[←hw3,←hB];have HB:=aHH hB;clear hw3 hB;go_wp2_with fail;go_loopw [59] (fun v wq=>∃i:Nat,i≤n∧v=.int .i64 i∧Bl wr wq∧B≤wq.heap.size∧Hid (Bui B (dC zs 2 S i) wq)) (fun v _=>n-(RowKit.intOf v).toNat);case atStart=>exact ⟨0,Nat.zero_le _,rfl,hb3,LR,H0⟩
      case round=>
       rename World=>wq;obtain ⟨i,hi,rfl,hbq,hBq,hbu⟩:=hrel;by_cases hlt:i<n
       ·obtain ⟨z,hg⟩:∃z,zs[i]? = some z:=⟨_,aH2 (by have:=HN.out;omega)⟩;have hxx:=HX.out.bl (hbr.trans hbq);rw[HN.out] at hxx;obtain ⟨ad,rfl,c0⟩:=n8 hxx hg;have hz:=HOk.out z (List.mem_of_getElem? hg);have HG:=aHH hg;have hst:dC zs 2 S (i+1)=dC zs 2 S i++List.replicate (dP zs 2 S i) (aN i):=rfl;have LT:=pD zs 2 S i;have hul:=jD zs 2 S i;have HSt:=aHH hst;clear hxx hg hst;have hr2:i % 2=0∨i % 2=1:=(by omega);obtain ⟨r,hr⟩:=aH0 (i % 2);have hrI:(i:Int) % 2=(r:Int):=(by omega);have hmo:aN i=if r=0 then 49 else 48:=(by unfold aN;rw[hr]);rw[←hr] at hr2;clear hr;rcases hr2 with rfl|rfl
        ·have HMo:=aHH (show aN i=49 from hmo);clear hmo;obtain ⟨m,hm⟩:=aH0 (i % 10);have hmI:(i:Int) % 10=(m:Int):=(by omega);obtain ⟨d,hd⟩:=aH0 (i / 10);have hdI:(i:Int) / 10=(d:Int):=(by omega);by_cases hm9:m<9
         ·have hs9:d*10+9≤n:=(by omega);have hsI:(d:Int)*10=((d*10:Nat):Int):=(by omega);obtain ⟨q,hq⟩:=aH0 (d*10);rw[←hq] at hs9 hsI;have hbl:bB zs i=(zs.drop q).take 9:=(by unfold bB;rw[hq,hd]);have LW:(bB zs i).length=9:=(by rw[hbl,aH7,aIg,←HN.out];omega);have hrd:Reads wq 1 (some (ad.add q)) (bB zs i).length (bD (bB zs i)):=by
           have h:=Reads.sub (HX.out.bl (hbr.trans hbq)) hs9;rw[LW,hbl];unfold bD at h ⊢;rw[←List.map_drop,←List.map_take] at h;exact h
          have hbo:∀y∈bB zs i,1≤y∧y≤4000:=fun y hy=>HOk.out y (List.mem_of_mem_drop (List.mem_of_mem_take (by rw[←hbl];exact hy)));have hwd:=MX z (some (ad.add q)) (c-q) (bB zs i) wq hz hrd (by omega) (by omega) hbo;rw[LW] at hwd;obtain ⟨wb,hwb⟩:=aH0 (tI z (bB zs i));rw[←hwb] at hwd;have hK:dP zs 2 S i=if wb=true then 3 else 1:=by
           unfold dP;rw[if_neg (by decide),aH4,HG.out];show (if i % 10<9∧tI z (bB zs i)=true then 3 else 1)=_;rw[←hwb];by_cases h:wb=true
           ·rw[if_pos h,if_pos ⟨by omega,h⟩]
           ·rw[if_neg h,if_neg (fun hh=>h hh.2)]
          have hqq:q+9-q=9:=(by omega);have hqc:q+9≤c:=(by omega);have aAK:(m:Int)<9:=(by omega);have HWd:=aHH hwd;rw[hK] at HSt;clear hwd hwb hK hbl LW hrd hbo hq hd hm;cases wb with
          |true=>
           rw[if_pos rfl] at HSt;have Hrp:=aHH (show Calls Tryz.prog 213 #[.string ⟨#[49]⟩,.int .i64 3] wq (fun e w'=>e=.returned (.string ⟨(List.replicate 3 (aN i)).toArray⟩)∧Bl wq w') from by rw[HMo.out];exact cK 49 (.inr rfl) 3 (by decide) (by decide) wq);go_wp2_with fail;first|rw[hqq]|skip
           refine HWd.out.mono ?_;rintro e w' ⟨rfl,rfl⟩;go_wp2_with fail;refine Hrp.out.mono ?_;rintro e w5 ⟨rfl,hb5⟩;have zE:=fK hbu.out hb5;have zF:B≤w5.heap.size:=aII hBq hb5.le;have Hw:=aHH (aO B _ (List.replicate 3 (aN i)) w5 zE (by rw[aIc];omega) zF);have HB5:=aHH (hbq.trans hb5);clear Hrp zE hb5;go_wp2_with fail;refine Hw.out.mono ?_;rintro e w6 ⟨rfl,qZ,oC⟩;rw[←HSt.out] at qZ;have LU:=aHH qZ;have HB6:=aHH (Bl.trans' HB5.out HB.out.symm oC);have LV:B≤w6.heap.size:=aII zF oC.size;clear Hw qZ oC;go_wp2_with fail;exact ⟨⟨i+1,hlt,by go_num,HB6.out,LV,LU⟩,by simp[RowKit.intOf]<;>omega⟩
          |false=>
           rw[if_neg (by decide)] at HSt;have Hrp:=aHH (show Calls Tryz.prog 213 #[.string ⟨#[49]⟩,.int .i64 1] wq (fun e w'=>e=.returned (.string ⟨(List.replicate 1 (aN i)).toArray⟩)∧Bl wq w') from by rw[HMo.out];exact cK 49 (.inr rfl) 1 (by decide) (by decide) wq);go_wp2_with fail;first|rw[hqq]|skip
           refine HWd.out.mono ?_;rintro e w' ⟨rfl,rfl⟩;go_wp2_with fail;refine Hrp.out.mono ?_;rintro e w5 ⟨rfl,hb5⟩;have zE:=fK hbu.out hb5;have zF:B≤w5.heap.size:=aII hBq hb5.le;have Hw:=aHH (aO B _ (List.replicate 1 (aN i)) w5 zE (by rw[aIc];omega) zF);have HB5:=aHH (hbq.trans hb5);clear Hrp zE hb5;go_wp2_with fail;refine Hw.out.mono ?_;rintro e w6 ⟨rfl,qZ,oC⟩;rw[←HSt.out] at qZ;have LU:=aHH qZ;have HB6:=aHH (Bl.trans' HB5.out HB.out.symm oC);have LV:B≤w6.heap.size:=aII zF oC.size;clear Hw qZ oC;go_wp2_with fail;exact ⟨⟨i+1,hlt,by go_num,HB6.out,LV,LU⟩,by simp[RowKit.intOf]<;>omega⟩
         ·have hK:dP zs 2 S i=1:=by
           unfold dP;rw[if_neg (by decide),if_neg (fun hh=>by omega)]
          have aAK:¬((m:Int)<9):=(by omega);rw[hK] at HSt;clear hK hd hm;have Hrp:=aHH (show Calls Tryz.prog 213 #[.string ⟨#[49]⟩,.int .i64 1] wq (fun e w'=>e=.returned (.string ⟨(List.replicate 1 (aN i)).toArray⟩)∧Bl wq w') from by rw[HMo.out];exact cK 49 (.inr rfl) 1 (by decide) (by decide) wq);go_wp2_with fail;refine Hrp.out.mono ?_;rintro e w5 ⟨rfl,hb5⟩;have zE:=fK hbu.out hb5;have zF:B≤w5.heap.size:=aII hBq hb5.le;have Hw:=aHH (aO B _ (List.replicate 1 (aN i)) w5 zE (by rw[aIc];omega) zF);have HB5:=aHH (hbq.trans hb5);clear Hrp zE hb5;go_wp2_with fail;refine Hw.out.mono ?_;rintro e w6 ⟨rfl,qZ,oC⟩;rw[←HSt.out] at qZ;have LU:=aHH qZ;have HB6:=aHH (Bl.trans' HB5.out HB.out.symm oC);have LV:B≤w6.heap.size:=aII zF oC.size;clear Hw qZ oC;go_wp2_with fail;exact ⟨⟨i+1,hlt,by go_num,HB6.out,LV,LU⟩,by simp[RowKit.intOf]<;>omega⟩
        ·have HMo:=aHH (show aN i=48 from hmo);clear hmo;obtain ⟨m,hm⟩:=aH0 (i % 10);have hmI:(i:Int) % 10=(m:Int):=(by omega);obtain ⟨d,hd⟩:=aH0 (i / 10);have hdI:(i:Int) / 10=(d:Int):=(by omega);by_cases hm9:m<9
         ·have hs9:d*10+9≤n:=(by omega);have hsI:(d:Int)*10=((d*10:Nat):Int):=(by omega);obtain ⟨q,hq⟩:=aH0 (d*10);rw[←hq] at hs9 hsI;have hbl:bB zs i=(zs.drop q).take 9:=(by unfold bB;rw[hq,hd]);have LW:(bB zs i).length=9:=(by rw[hbl,aH7,aIg,←HN.out];omega);have hrd:Reads wq 1 (some (ad.add q)) (bB zs i).length (bD (bB zs i)):=by
           have h:=Reads.sub (HX.out.bl (hbr.trans hbq)) hs9;rw[LW,hbl];unfold bD at h ⊢;rw[←List.map_drop,←List.map_take] at h;exact h
          have hbo:∀y∈bB zs i,1≤y∧y≤4000:=fun y hy=>HOk.out y (List.mem_of_mem_drop (List.mem_of_mem_take (by rw[←hbl];exact hy)));have hwd:=MX z (some (ad.add q)) (c-q) (bB zs i) wq hz hrd (by omega) (by omega) hbo;rw[LW] at hwd;obtain ⟨wb,hwb⟩:=aH0 (tI z (bB zs i));rw[←hwb] at hwd;have hK:dP zs 2 S i=if wb=true then 3 else 1:=by
           unfold dP;rw[if_neg (by decide),aH4,HG.out];show (if i % 10<9∧tI z (bB zs i)=true then 3 else 1)=_;rw[←hwb];by_cases h:wb=true
           ·rw[if_pos h,if_pos ⟨by omega,h⟩]
           ·rw[if_neg h,if_neg (fun hh=>h hh.2)]
          have hqq:q+9-q=9:=(by omega);have hqc:q+9≤c:=(by omega);have aAK:(m:Int)<9:=(by omega);have HWd:=aHH hwd;rw[hK] at HSt;clear hwd hwb hK hbl LW hrd hbo hq hd hm;cases wb with
          |true=>
           rw[if_pos rfl] at HSt;have Hrp:=aHH (show Calls Tryz.prog 213 #[.string ⟨#[48]⟩,.int .i64 3] wq (fun e w'=>e=.returned (.string ⟨(List.replicate 3 (aN i)).toArray⟩)∧Bl wq w') from by rw[HMo.out];exact cK 48 (.inl rfl) 3 (by decide) (by decide) wq);go_wp2_with fail;first|rw[hqq]|skip
           refine HWd.out.mono ?_;rintro e w' ⟨rfl,rfl⟩;go_wp2_with fail;refine Hrp.out.mono ?_;rintro e w5 ⟨rfl,hb5⟩;have zE:=fK hbu.out hb5;have zF:B≤w5.heap.size:=aII hBq hb5.le;have Hw:=aHH (aO B _ (List.replicate 3 (aN i)) w5 zE (by rw[aIc];omega) zF);have HB5:=aHH (hbq.trans hb5);clear Hrp zE hb5;go_wp2_with fail;refine Hw.out.mono ?_;rintro e w6 ⟨rfl,qZ,oC⟩;rw[←HSt.out] at qZ;have LU:=aHH qZ;have HB6:=aHH (Bl.trans' HB5.out HB.out.symm oC);have LV:B≤w6.heap.size:=aII zF oC.size;clear Hw qZ oC;go_wp2_with fail;exact ⟨⟨i+1,hlt,by go_num,HB6.out,LV,LU⟩,by simp[RowKit.intOf]<;>omega⟩
          |false=>
           rw[if_neg (by decide)] at HSt;have Hrp:=aHH (show Calls Tryz.prog 213 #[.string ⟨#[48]⟩,.int .i64 1] wq (fun e w'=>e=.returned (.string ⟨(List.replicate 1 (aN i)).toArray⟩)∧Bl wq w') from by rw[HMo.out];exact cK 48 (.inl rfl) 1 (by decide) (by decide) wq);go_wp2_with fail;first|rw[hqq]|skip
           refine HWd.out.mono ?_;rintro e w' ⟨rfl,rfl⟩;go_wp2_with fail;refine Hrp.out.mono ?_;rintro e w5 ⟨rfl,hb5⟩;have zE:=fK hbu.out hb5;have zF:B≤w5.heap.size:=aII hBq hb5.le;have Hw:=aHH (aO B _ (List.replicate 1 (aN i)) w5 zE (by rw[aIc];omega) zF);have HB5:=aHH (hbq.trans hb5);clear Hrp zE hb5;go_wp2_with fail;refine Hw.out.mono ?_;rintro e w6 ⟨rfl,qZ,oC⟩;rw[←HSt.out] at qZ;have LU:=aHH qZ;have HB6:=aHH (Bl.trans' HB5.out HB.out.symm oC);have LV:B≤w6.heap.size:=aII zF oC.size;clear Hw qZ oC;go_wp2_with fail;exact ⟨⟨i+1,hlt,by go_num,HB6.out,LV,LU⟩,by simp[RowKit.intOf]<;>omega⟩
         ·have hK:dP zs 2 S i=1:=by
           unfold dP;rw[if_neg (by decide),if_neg (fun hh=>by omega)]
          have aAK:¬((m:Int)<9):=(by omega);rw[hK] at HSt;clear hK hd hm;have Hrp:=aHH (show Calls Tryz.prog 213 #[.string ⟨#[48]⟩,.int .i64 1] wq (fun e w'=>e=.returned (.string ⟨(List.replicate 1 (aN i)).toArray⟩)∧Bl wq w') from by rw[HMo.out];exact cK 48 (.inl rfl) 1 (by decide) (by decide) wq);go_wp2_with fail;refine Hrp.out.mono ?_;rintro e w5 ⟨rfl,hb5⟩;have zE:=fK hbu.out hb5;have zF:B≤w5.heap.size:=aII hBq hb5.le;have Hw:=aHH (aO B _ (List.replicate 1 (aN i)) w5 zE (by rw[aIc];omega) zF);have HB5:=aHH (hbq.trans hb5);clear Hrp zE hb5;go_wp2_with fail;refine Hw.out.mono ?_;rintro e w6 ⟨rfl,qZ,oC⟩;rw[←HSt.out] at qZ;have LU:=aHH qZ;have HB6:=aHH (Bl.trans' HB5.out HB.out.symm oC);have LV:B≤w6.heap.size:=aII zF oC.size;clear Hw qZ oC;go_wp2_with fail;exact ⟨⟨i+1,hlt,by go_num,HB6.out,LV,LU⟩,by simp[RowKit.intOf]<;>omega⟩
       ·obtain rfl:i=n:=(by omega);have Hst:=aHH (gG B _ wq hbu.out hBq);clear hbu;go_wp2_with fail;refine Hst.out.mono ?_;rintro e w5 ⟨rfl,VO⟩;have HB5:=aHH (Bl.trans' hbq HB.out.symm VO);clear Hst VO;go_wp2_with fail;refine aIx (v:=.tuple #[.string ⟨(dC zs 2 S i).toArray⟩,.int .i64 0]) (by simp[results,Tryz.results284,go_sem]) rfl ⟨?_,hbr.trans HB5.out⟩;rw[HE.out,if_pos rfl,←HN.out,←HS.out]
end Go.Proofs.YtllefinciimffaaGreatDoor
