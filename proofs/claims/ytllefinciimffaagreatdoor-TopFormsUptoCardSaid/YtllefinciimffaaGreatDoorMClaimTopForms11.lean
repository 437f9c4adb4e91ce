import Derived.Test.YtllefinciimffaaGreatDoorMClaimTopForms9
set_option maxHeartbeats 20000000
set_option maxRecDepth 100000
namespace Go.Proofs.YtllefinciimffaaGreatDoor
open Go.RowKit Go.Shelf
theorem tI (l cs:List UInt8) (w:World) (hl:l.length≤9223372036854775807) (hcs:cs.length≤100) (ha:∀(j:Nat) b,cs[j]? = some b→b.toNat<128) :
 Calls Tryz.prog 153 #[l,cs] w fun e w'=>e=.returned (.string ⟨(Lib.trimS l cs).toArray⟩)∧Bl w w':=by
 have h:=Any.strings_Trim_laid Tryz.lays160 (by kernel_rfl) ⟨l.toArray⟩ ⟨cs.toArray⟩ w (by rw[Lib.size_mk];exact hl) (by rw[Lib.size_mk];omega) ha;refine Calls.mono (R:=fun e w'=>e=.returned (.string ⟨(Lib.trimS l cs).toArray⟩)∧Below w.heap.size w w') h ?_;rintro e w' ⟨rfl,hb⟩;exact ⟨rfl,hb⟩
def aM (l cs:List UInt8):Bool:=l.all fun b=>cs.contains b
theorem kG (l cs:List UInt8):(Lib.trimS l cs).isEmpty=aM l cs:=by
 rw[Bool.eq_iff_iff,List.isEmpty_iff,tC];unfold aM;rw[aLO]
def bJ:List UInt8:=[48,49,50,51,52,53,54,55,56,57]
theorem wA:∀(j:Nat) b,bJ[j]? = some b→b.toNat<128:=by
 intro j b h;have hm:=List.mem_of_getElem? h;have:∀b∈bJ,b.toNat<128:=(by decide);exact this b hm
def uR (l:List UInt8) (n:Nat):Bool:=decide (l.length=n)&&aM l bJ
theorem tJ (l:List UInt8) (n:Nat) (w:World) (hl:l.length≤9223372036854775807) (_hn:n≤100) :
 Calls Tryz.prog 215 #[l,n] w fun e w'=>e=.returned (.bool (uR l n))∧Bl w w':=by
 have Ht:=aLa (tI l bJ w hl (by decide) wA);have hsz:(⟨l.toArray⟩:ByteArray).size=l.length:=Lib.size_mk l
 go_in
 by_cases h:l.length=n
 ·have hq:((l.length:Int)==(n:Int))=true:=(by simp[h]);have HD:=aLa (show uR l n=(Lib.trimS l bJ).isEmpty by unfold uR;rw[aLX h,kG];rfl);clear h;go_wp2_with fail;refine Ht.out.mono ?_;rintro e w1 ⟨rfl,hb⟩;go_wp2_with fail;go_ret;exact ⟨cD HD.out.symm,hb⟩
 ·have hq:((l.length:Int)==(n:Int))=false:=(by rw[aLU];omega);have HD:=aLa (show uR l n=false by unfold uR;rw[aLW h];rfl);clear h;go_wp2_with fail;go_ret;exact ⟨cD HD.out.symm,Bl.refl _⟩
def aS (l:List UInt8) (i:Nat):Nat:=(l.getD i 48).toNat-48
def iZ (l : List UInt8) : Nat → Nat
 |0=>0
 |i+1=>iZ l i+aS l i*(1+i % 2*2)
theorem yT (l : List UInt8) (h : ∀ i, aS l i ≤ 9) : ∀ n, iZ l n ≤ n * 27
 |0=>Nat.le_refl _
 |n+1=>by
  have ih:=yT l h n;have h1:aS l n*(1+n % 2*2)≤9*3:=aMa (h n) (by omega);show iZ l n+aS l n*(1+n % 2*2)≤_;omega
def i8 (l:List UInt8):Nat:=(10-iZ l 12 % 10) % 10
theorem FB {l:List UInt8} (h:aM l bJ=true) {i:Nat} {b:UInt8} (hi:l[i]? = some b):48≤b.toNat∧b.toNat≤57:=by
 unfold aM at h;have h1:=aLO.1 h b (List.mem_of_getElem? hi);have h2:∀b∈bJ,48≤b.toNat∧b.toNat≤57:=(by decide);exact h2 b (by simpa using h1)
theorem mB {l:List UInt8} (h:aM l bJ=true) (i:Nat):aS l i≤9:=by
 unfold aS;rw[aLx];cases hg:l[i]? with
 |none=>show (48:UInt8).toNat-48≤9;decide
 |some b=>have:=FB h hg;show b.toNat-48≤9;omega
theorem rJ (l:List UInt8) (w:World) (hl:l.length≤9223372036854775807) :
 Calls Tryz.prog 216 #[l] w fun e w'=>e=.returned (.tuple #[.int .i64 (if uR l 12=true then (i8 l:Int) else 0),.int .i64 (if uR l 12=true then 0 else 2)])∧Bl w w':=by
 have Hd:=aLa (tJ l 12 w hl (by decide));have hsz:(⟨l.toArray⟩:ByteArray).size=l.length:=Lib.size_mk l;obtain ⟨db,hdb⟩:=aLt (uR l 12);rw[←hdb] at Hd ⊢;have HDB:=aLa hdb;clear hdb
 go_in
 go_wp2_with fail;refine Hd.out.mono ?_;rintro e w1 ⟨rfl,hb1⟩;clear Hd;cases hdb:db with
 |false=>subst hdb;go_wp2_with fail;exact aL0 (v:=.tuple #[.int .i64 0,.int .i64 2]) (by simp[results,Tryz.results216,go_sem]) rfl ⟨rfl,hb1⟩
 |true=>
  have hd:=HDB.out;rw[hdb] at hd;unfold uR at hd;simp only[Bool.true_eq,aLV,decide_eq_true_eq] at hd;obtain ⟨cL,aE2⟩:=hd;have aDL:=aLa aE2;have LC:=aLa cL;have aGW:(l.length:Int)=12:=(by omega);subst hdb;clear aE2 cL;go_wp2_with fail;go_loopw [4,11] (fun u v wr=>∃i:Nat,i≤12∧v=.int .i64 i∧u=.int .i64 (iZ l i:Int)∧Bl w wr) (fun _ v _=>12-(RowKit.intOf v).toNat);case atStart=>exact ⟨0,by omega,rfl,rfl,hb1⟩
  case round=>
   obtain ⟨i,hi,rfl,rfl,hbr⟩:=hrel;by_cases hlt:i<12
   ·have hg:l[i]? = some l[i]:=aLv (by have:=LC.out;omega);obtain ⟨b,hb⟩:∃b,b=l[i]'(by have:=LC.out;omega):=⟨_,rfl⟩;rw[←hb] at hg;obtain ⟨h1,h2⟩:=dS hg;have hma:=FB aDL.out hg;have hdg:aS l i=b.toNat-48:=(by unfold aS;rw[aLx,hg];rfl);have hst:iZ l (i+1)=iZ l i+aS l i*(1+i % 2*2):=rfl;have hle:=yT l (mB aDL.out) i;have hd9:=mB aDL.out i;obtain ⟨s,hs⟩:=aLt (iZ l i);obtain ⟨d,hd⟩:=aLt (aS l i);rw[←hs] at hst hle ⊢;rw[←hd] at hst hd9 hdg;have hr2:i % 2=0∨i % 2=1:=(by omega);have aIn:(b.toNat:Int)-48=(d:Int):=(by omega);have hmr:(i:Int) % 2=((i % 2:Nat):Int):=(by omega);obtain ⟨r,hr⟩:=aLt (i % 2);rw[←hr] at hst hr2 hmr;have HSt:=aLa hst;have HDb:=aLa aIn;clear hg hb hs hd hr hst hdg aIn;rcases hr2 with rfl|rfl
    ·have HF:=aLa (show (s:Int)+(d:Int)=((iZ l (i+1):Nat):Int) by rw[HSt.out];omega);clear HSt;go_wp2_with fail;exact ⟨⟨i+1,by omega,by go_num,by rw[←HF.out,←HDb.out],hbr⟩,by simp[RowKit.intOf]<;>omega⟩
    ·have HF:=aLa (show (s:Int)+(d:Int)*3=((iZ l (i+1):Nat):Int) by rw[HSt.out];omega);clear HSt;go_wp2_with fail;exact ⟨⟨i+1,by omega,by go_num,by rw[←HF.out,←HDb.out],hbr⟩,by simp[RowKit.intOf]<;>omega⟩
   ·obtain rfl:i=12:=(by omega);go_wp2_with fail;have he:-((iZ l 12:Int) % 10) % 10=(i8 l:Int):=(by unfold i8;omega);refine aL0 (v:=.tuple #[.int .i64 (i8 l),.int .i64 0]) (by simp[results,Tryz.results216,go_sem];exact he) rfl ⟨rfl,hbr⟩
def gN:List UInt8:=[48,49]
theorem IS:∀(j:Nat) b,gN[j]? = some b→b.toNat<128:=by
 intro j b h;have hm:=List.mem_of_getElem? h;have:∀b∈gN,b.toNat<128:=(by decide);exact this b hm
def eE (u h q:Int):Bool:=inB u 1 8&&inB h 1 4000&&inB q 0 200
def jT (m:List UInt8) (u h q:Int):Int:=if m=[] then 9 else if aM m gN=false then 2 else if eE u h q=false then 3 else aE (2*q+u*m.length) h
def oC (m:List UInt8) (u q x _y:Nat):Bool:=decide (q≤x∧x-q<m.length*u)&&((m.getD ((x-q) / u) 0).toNat==49)
def lI (m:List UInt8) (u q W i k:Nat):Bool:=decide (k<i)&&oC m u q (k % W) (k / W)
theorem IT {m:List UInt8} {u q W i:Nat} (h:oC m u q (i % W) (i / W)=false) (k:Nat):lI m u q W (i+1) k=lI m u q W i k:=by
 unfold lI;by_cases e:k=i
 ·rw[e,h];simp
 ·congr 1
  rw[decide_eq_decide];omega
theorem RP {m:List UInt8} {u q W i:Nat} (k:Nat):lI m u q W (i+1) k=if k=i then oC m u q (i % W) (i / W) else lI m u q W i k:=by
 unfold lI;by_cases e:k=i
 ·rw[if_pos e,e,aLX (Nat.lt_succ_self i)];rfl
 ·rw[if_neg e]
  congr 1
  rw[decide_eq_decide];omega
theorem VT {n:Nat} {u q h:Int} (hu:1≤u) (hu8:u≤8) (hq:0≤q):aE (min (n:Int) 4001*u+2*q) h=aE (2*q+u*n) h:=by
 by_cases hn:(n:Int)≤4001
 ·rw[show min (n:Int) 4001=(n:Int) by omega,Int.mul_comm (n:Int) u,Int.add_comm]
 ·rw[show min (n:Int) 4001=4001 by omega];have h1:u*4001≤u*(n:Int):=Int.mul_le_mul_of_nonneg_left (by omega) (by omega);have h2:¬(4001*u+2*q≤4000):=(by omega);have h3:¬(2*q+u*(n:Int)≤4000):=(by omega);unfold aE;rw[if_neg (fun h=>h2 h.2.1),if_neg (fun h=>h3 h.2.1)]
def DrawRes (m:List UInt8) (u h q:Int) (w:World) (e:Ending) (w':World):Prop:=∃a b R n d err,e=.returned (.tuple #[.agg #[.int .i64 a,.int .i64 b,.slice R n d],.int .i64 err])∧err=jT m u h q ∧
 Res w.heap.size w' err (2*q+u*m.length).toNat h.toNat ((eS (2*q+u*m.length).toNat h.toNat (oC m u.toNat q.toNat)).map .bool) a b R n d∧Bl w w'
theorem xI {m:List UInt8} {u h q:Int} {w w':World} {err:Int} (he:jT m u h q=err) (hz:err≠0) (hb:Bl w w'):DrawRes m u h q w (.returned (.tuple #[.agg #[.int .i64 0,.int .i64 0,.slice none 0 0],err])) w':=
 ⟨0,0,none,0,0,err,rfl,he.symm,Res.zero _ _ _ _ _ hz,hb⟩
theorem OU (m:List UInt8) (u h q:Int) (w:World) (hm:m.length≤1048576) :
 Calls Tryz.prog 157 #[m,u,.int .i64 h,q] w (DrawRes m u h q w):=by
 let w2:=(w).alloc (.cells #[.int .i64 0,.int .i64 0,.slice none 0 0] 43);obtain ⟨w2b,w21⟩:=aLh (x:=w2) w _ _ rfl;have lw2:w2.heap.size=w.heap.size+1:=(by simp[w2]);have hsz:(⟨m.toArray⟩:ByteArray).size=m.length:=Lib.size_mk m;have Ht:=aLa (tI m gN w2 (by omega) (by decide) IS)
 go_in
 by_cases AU:m=[]
 ·have HE:=aLa (show jT m u h q=9 by unfold jT;rw[if_pos AU]);have UF:m.isEmpty=true:=(by rw[AU];rfl);have kz:=w21.all3;clear AU;go_wp2_with fail;try simp only[Exit.inBlock,Exit.then]
  refine aL0 (v:=.tuple #[.agg #[.int .i64 0,.int .i64 0,.slice none 0 0],.int .i64 9]) (by simp[results,Tryz.results157,go_sem]) rfl (xI HE.out (by decide) ?_);exact w2b
 ·have UF:m.isEmpty=false:=(by cases m with|nil=>exact absurd rfl AU|cons a t=>rfl);have aDJ:=aLa AU;clear AU;go_wp2_with fail;refine Ht.out.mono ?_;rintro e w3 ⟨rfl,ZL⟩;have hb3:Bl w2 w3:=ZL;clear ZL;clear_value w2;cases hmd:aM m gN with
  |false=>
   have HE:=aLa (show jT m u h q=2 by unfold jT;rw[if_neg aDJ.out,if_pos hmd]);have htr:(Lib.trimS m gN).isEmpty=false:=(by rw[kG,hmd]);have kz:=(w21.bl hb3).all3;clear hmd;go_wp2_with fail;try simp only[Exit.inBlock,Exit.then]
   refine aL0 (v:=.tuple #[.agg #[.int .i64 0,.int .i64 0,.slice none 0 0],.int .i64 2]) (by simp[results,Tryz.results157,go_sem,kz]) rfl (xI HE.out (by decide) ?_);exact (((w2b.trans hb3).setCell (by simp) _).setCell (by simp) _).setCell (by simp) _
  |true=>
   have htr:(Lib.trimS m gN).isEmpty=true:=(by rw[kG,hmd]);have HMd:=aLa hmd;clear hmd;go_upto_region 5 with fail;go_cut [23] from 24 to 45 (fun s23 wc=>s23=.bool (!eE u h q)∧wc=w3);case first=>
    have hr:eE u h q=decide (1≤u∧u≤8∧1≤h∧h≤4000∧0≤q∧q≤200):=by
     unfold eE;rw[Bool.eq_iff_iff,aLV,aLV,aR,aR,aR,decide_eq_true_eq];constructor<;>(intro h;omega)
    have HRg:=aLa hr;clear hr;by_cases d1:u<1
    ·have HV:=aLa (show (!eE u h q)=true by rw[HRg.out,aLW (by omega)];rfl);go_wp2_with fail;go_meet;case rel=>exact ⟨by rw[HV.out],rfl⟩
    ·by_cases d2:8<u
     ·have HV:=aLa (show (!eE u h q)=true by rw[HRg.out,aLW (by omega)];rfl);go_wp2_with fail;go_meet;case rel=>exact ⟨by rw[HV.out],rfl⟩
     ·by_cases d3:h<1
      ·have HV:=aLa (show (!eE u h q)=true by rw[HRg.out,aLW (by omega)];rfl);go_wp2_with fail;go_meet;case rel=>exact ⟨by rw[HV.out],rfl⟩
      ·by_cases d4:4000<h
       ·have HV:=aLa (show (!eE u h q)=true by rw[HRg.out,aLW (by omega)];rfl);go_wp2_with fail;go_meet;case rel=>exact ⟨by rw[HV.out],rfl⟩
       ·by_cases d5:q<0
        ·have HV:=aLa (show (!eE u h q)=true by rw[HRg.out,aLW (by omega)];rfl);go_wp2_with fail;go_meet;case rel=>exact ⟨by rw[HV.out],rfl⟩
        ·have HV:=aLa (show (!eE u h q)=decide (200<q) by
          rw[HRg.out,Bool.eq_iff_iff];simp;omega)
         go_wp2_with fail;go_meet;case rel=>exact ⟨by rw[HV.out],rfl⟩
   case rest=>
    obtain ⟨rfl,rfl⟩:=hcut;rename World=>w3;cases hrg:eE u h q with
    |false=>
     have HE:=aLa (show jT m u h q=3 by unfold jT;rw[if_neg aDJ.out,if_neg (by rw[HMd.out];decide),if_pos hrg]);have kz:=(w21.bl hb3).all3;clear hrg;go_wp2_with fail;try simp only[Exit.inBlock,Exit.then]
     refine aL0 (v:=.tuple #[.agg #[.int .i64 0,.int .i64 0,.slice none 0 0],.int .i64 3]) (by simp[results,Tryz.results157,go_sem,kz]) rfl (xI HE.out (by decide) ?_);exact (((w2b.trans hb3).setCell (by simp) _).setCell (by simp) _).setCell (by simp) _
    |true=>
     have hr2:=hrg;unfold eE at hr2;simp only[aLV] at hr2;have g1:=aR.1 hr2.1.1;have g2:=aR.1 hr2.1.2;have g3:=aR.1 hr2.2;obtain ⟨U,hU⟩:∃n:Nat,u=(n:Int):=⟨u.toNat,by omega⟩;obtain ⟨H,hH⟩:∃n:Nat,h=(n:Int):=⟨h.toNat,by omega⟩;obtain ⟨Q,hQ⟩:∃n:Nat,q=(n:Int):=⟨q.toNat,by omega⟩;subst hU hH hQ;have HE:=aLa (show jT m U H Q=aE (min (m.length:Int) 4001*(U:Int)+2*(Q:Int)) (H:Int) by unfold jT;rw[if_neg aDJ.out,if_neg (by rw[HMd.out];decide),if_neg (by rw[hrg];decide),VT g1.1 g1.2 g3.1]);obtain ⟨N,hN⟩:=aLt (min m.length 4001);have hNI:min (m.length:Int) 4001=(N:Int):=(by omega);obtain ⟨M1,hM1⟩:=aLt (N*U);have hc1:(N:Int)*(U:Int)=(M1:Int):=(by rw[hM1,aL9]);have hm1:M1≤4001*8:=(by rw[hM1];exact aMa (by omega) (by omega));obtain ⟨V,hV⟩:=aLt (M1+2*Q);have hVI:(M1:Int)+2*(Q:Int)=(V:Int):=(by omega);rw[hNI,hc1,hVI] at HE;have HVI:=aLa hVI;clear hrg hr2 hVI;by_cases hse:aE (V:Int) (H:Int)=0;case neg=>
      have hq2:(aE (V:Int) (H:Int) != 0)=true:=(by simp[hse]);have Hb:=aLa (G0 (V:Int) (H:Int) w3 hse);have HZ:=aLa hse;clear hse hN hM1 hV;go_wp2_with fail;rw[HVI.out];refine Hb.out.mono ?_;rintro e w6 ⟨rfl,hb6⟩;go_upto_region 8 with fail;obtain ⟨w7,hw7⟩:=aLt (w6.alloc (.cells #[.int .i64 0,.int .i64 0,.slice none 0 0] 43));have QJ:=aLn hw7;rw[←hw7];clear hw7;have hb7:=hb3.trans (hb6.trans QJ);have kz:=(w21.bl hb7).all3;go_wp2_with fail;refine aL0 (v:=.tuple #[.agg #[.int .i64 0,.int .i64 0,.slice none 0 0],.int .i64 (aE (V:Int) (H:Int))]) (by simp[results,Tryz.results157,go_sem,kz]) rfl (xI HE.out HZ.out ?_);exact (((w2b.trans hb7).setCell (by simp) _).setCell (by simp) _).setCell (by simp) _
     case pos=>
      have hz1:=aL hse;have hml:m.length≤4000:=by
       rcases Nat.lt_or_ge 4000 m.length with h|h
       ·have:4001*1≤N*U:=aMa (by omega) (by omega);omega
       ·exact h
      have hNm:N=m.length:=(by omega);subst hNm;have hWr:2*(Q:Int)+(U:Int)*(m.length:Int)=(V:Int):=by
       have:(U:Int)*(m.length:Int)=(M1:Int):=(by rw[Int.mul_comm];exact hc1);omega
      have HWr:=aLa hWr;have hVH:V*H≤1048576:=by
       have h2:((V*H:Nat):Int)=(V:Int)*(H:Int):=(by simp);omega
      have hV4:1≤V∧V≤4000:=(by omega);have hH4:1≤H∧H≤4000:=(by omega);have hU1:1≤U∧U≤8:=(by omega);have hQ1:Q≤200:=(by omega);obtain ⟨Hb,HZ,HM1,HV⟩:=aLc (IR V H w3 hse) hse hM1 hV;clear hse hN hM1 hV hz1 hWr g1 g2 g3;go_wp2_with fail;rw[HVI.out];refine Hb.out.mono ?_;rintro e w6 ⟨g,rfl,hg3,hbg,hb6⟩;go_upto_region 8 with fail;obtain ⟨w7,hw7⟩:=aLt (w6.alloc (.cells #[.int .i64 V,H,.slice (some ⟨g,0,none⟩) (V*H) (V*H)] 43));obtain ⟨p,hp⟩:=aLt w6.heap.size;have bp7:=aLp hw7 hp;have QJ:=aLn hw7;have hpg:p≠g:=(by have:=hbg.lt;omega);have hp3:w3.heap.size≤p:=(by have:=hb6.le;omega);have N2:=hb3.le;rw[←hw7,←hp];clear hw7 hp;have aJO:=hb6.trans QJ;have bg7:Blk w7 g 4 (lD (V*H) (lI m U Q V 0)):=by
       have h:=hbg.bl QJ;have e:lD (V*H) (fun _=>false)=lD (V*H) (lI m U Q V 0):=iL fun k _=>(by unfold lI;simp);rw[e] at h;exact h
      have HG:=aLa bg7;have HBp:=aLa bp7;have k7:=bp7.all3;clear hbg bg7 bp7 Hb;go_wp2_with fail;go_loopw [67] (fun v wr=>∃i:Nat,i≤V*H∧v=.int .i64 i∧Bl w3 wr∧Blk wr p 43 #[.int .i64 V,H,.slice (some ⟨g,0,none⟩) (V*H) (V*H)]∧Hid (Blk wr g 4 (lD (V*H) (lI m U Q V i)))) (fun v _=>V*H-(RowKit.intOf v).toNat);case atStart=>exact ⟨0,Nat.zero_le _,rfl,aJO,HBp.out,HG⟩
      case round=>
       clear k7;obtain ⟨i,hi,rfl,hbr,hbp,hbg⟩:=hrel;have k7:=hbp.all3;by_cases hlt:i<V*H
       ·have aGR:i % V<V:=Nat.mod_lt _ (by omega);obtain ⟨xi,hxi⟩:=aLt (i % V);have e1:(i:Int) % (V:Int)=(xi:Int):=(by rw[hxi];simp);rw[←hxi] at aGR;have hdF:oC m U Q (i % V) (i / V)=(decide (Q≤xi∧xi-Q<m.length*U)&&((m.getD ((xi-Q) / U) 0).toNat==49)):=(by rw[hxi];rfl);obtain ⟨HDF,HBr,HBp⟩:=aLb hdF hbr hbp;have hV0:¬(V=0):=(by omega);have hlenU:(m.length:Int)*(U:Int)=(M1:Int):=hc1;have hM2:=HM1.out;clear hxi hdF hbr hbp;by_cases hin:Q≤xi
        ·obtain ⟨z,hz⟩:=aLt (xi-Q);have hzI:(xi:Int)-(Q:Int)=(z:Int):=(by omega);by_cases aDM:z<M1
         ·have aFR:z / U<m.length:=Nat.div_lt_of_lt_mul (by rw[Nat.mul_comm];omega);obtain ⟨ix,hix⟩:=aLt (z / U);have e2:(z:Int) / (U:Int)=(ix:Int):=(by rw[hix];simp);rw[←hix] at aFR;obtain ⟨b,hb⟩:∃b,m[ix]? = some b:=⟨_,aLv aFR⟩;obtain ⟨h1,h2⟩:=dS hb;have HVl:=aLa (show oC m U Q (i % V) (i / V)=((b.toNat:Int)==49) by
           rw[HDF.out,←hz,aLX ⟨hin,by rw[←hM2];exact aDM⟩,←hix,aLx,hb];rw[Bool.true_and,Bool.eq_iff_iff,beq_iff_eq,beq_iff_eq];show b.toNat=49↔_;omega)
          have K2:wr.cell? ⟨g,i,none⟩=some (.bool (lI m U Q V i i)):=hbg.out.tabAtB hlt;have hfz:=hbg.out.frozen;have hU0:¬(U=0):=(by omega);clear hix hb hz hM2;go_upto_region 15 with fail;refine aA [(true,0),(true,1),(true,2),(true,3),(true,4),(true,5),(true,6),(true,7),(true,8),(true,9),(false,10)] (fun i=>i==10) (by kernel_rfl) (by kernel_rfl) (by kernel_rfl) (by kernel_rfl) ?_
          iterate 2
           apply Flow.calm2 _ _ rfl rfl
           ·intro a b c d;obtain ⟨e,f⟩:=b.rule;go_simp;(try go_ints);exact d
           ·intro a b;simp only[sqA];exact b
          iterate 4
           apply Flow.mv _ rfl
           ·intro a b;simp only[sqA,Act.eval,sqC];exact b
          iterate 4
           apply Flow.calm2 _ _ rfl rfl
           ·intro a b c d;obtain ⟨e,f⟩:=b.rule;go_simp;(try go_ints);exact d
           ·intro a b;simp only[sqA];exact b
          refine Flow.tail _ rfl ?_;have aJP:w3.heap.size≤(⟨g,i,none⟩:Addr).block:=hg3;go_wp2_with fail;exact ⟨⟨i+1,hlt,by go_num,(HBr.out.drew).setCell aJP _,(HBp.out.drew).far (by show p≠g;exact hpg) _,aLa (hbg.out.drew.tabSetB _ _ (fun j _=>by rw[RP,HVl.out]))⟩,by simp[RowKit.intOf]<;>omega⟩
         ·have HNo:=aLa (show oC m U Q (i % V) (i / V)=false by
           rw[HDF.out,←hz,aLW (by rw[←hM2];omega)];rfl)
          have HG2:=aLa (show Blk wr g 4 (lD (V*H) (lI m U Q V (i+1))) by
           rw[iL fun k _=>IT HNo.out k];exact hbg.out)
          have hn2:¬((z:Int)<(M1:Int)):=(by omega);clear hz hM2 hbg;go_wp2_with fail;exact ⟨⟨i+1,hlt,by go_num,HBr.out,HBp.out,HG2⟩,by simp[RowKit.intOf]<;>omega⟩
        ·have aJQ:(xi:Int)-(Q:Int)<0:=(by omega);have HNo:=aLa (show oC m U Q (i % V) (i / V)=false by
          rw[HDF.out,aLW (fun h=>hin h.1)];rfl)
         have HG2:=aLa (show Blk wr g 4 (lD (V*H) (lI m U Q V (i+1))) by
          rw[iL fun k _=>IT HNo.out k];exact hbg.out)
         clear hM2 hbg;go_wp2_with fail;exact ⟨⟨i+1,hlt,by go_num,HBr.out,HBp.out,HG2⟩,by simp[RowKit.intOf]<;>omega⟩
       ·obtain rfl:i=V*H:=(by omega);have kz:=(w21.bl (hb3.trans hbr)).all3;have hpz:¬(p=w.heap.size):=(by omega);have HBg:=hbg;clear hbg;go_wp2_with fail;refine aL0 (v:=.tuple #[.agg #[.int .i64 V,H,.slice (some ⟨g,0,none⟩) (V*H) (V*H)],.int .i64 0]) (by simp[results,Tryz.results157,go_sem,kz]) rfl ⟨_,_,_,_,_,_,rfl,by rw[HE.out,HZ.out],?_,?_⟩
        ·rw[HWr.out];simp only[aL8];have h:=HBg.out.tabReadsB;have e:(List.range (V*H)).map (lI m U Q V (V*H))=eS V H (oC m U Q):=by
          unfold eS;refine List.map_congr_left fun k hk => ?_;unfold lI;rw[aLX (List.mem_range.1 hk)];rfl
         rw[e] at h;have hn:∀ad,some (⟨g,0,none⟩:Addr)=some ad→w.heap.size+1≤ad.block:=fun ad h=>(by injection h with h;subst h;show w.heap.size+1≤g;omega);exact Res.page rfl (((h.store hn (by simp) _).store hn (by simp) _).store hn (by simp) _) (fun ad h=>by have:=hn ad h;omega)
        ·exact (((w2b.trans (hb3.trans hbr)).setCell (by simp) _).setCell (by simp) _).setCell (by simp) _
end Go.Proofs.YtllefinciimffaaGreatDoor
namespace Go.Proofs.YtllefinciimffaaGreatDoor
def fA:List (List UInt8):=[[48,48,48,49,49,48,49],[48,48,49,49,48,48,49],[48,48,49,48,48,49,49],[48,49,49,49,49,48,49],[48,49,48,48,48,49,49],[48,49,49,48,48,48,49],[48,49,48,49,49,49,49],[48,49,49,49,48,49,49],[48,49,49,48,49,49,49],[48,48,48,49,48,49,49]]
def dL:List (List UInt8):=[[76,76,76,76,76,76],[76,76,71,76,71,71],[76,76,71,71,76,71],[76,76,71,71,71,76],[76,71,76,76,71,71],[76,71,71,76,76,71],[76,71,71,71,76,76],[76,71,76,71,76,71],[76,71,76,71,71,76],[76,71,71,76,71,76]]
def exB (l:List UInt8):List UInt8:=l.map fun b=>97-b
def aK (k:UInt8) (d:Nat):List UInt8:=if k=82 then exB (fA.getD d []) else if k=71 then (exB (fA.getD d [])).reverse else fA.getD d []
def IU:List UInt8:=[48,49,48,49,48]
def wX:List UInt8:=[49,48,49]
def aD7 (ds:List UInt8):List UInt8:=dL.getD (aS ds 0) []
def cX (ds:List UInt8) (i:Nat):UInt8:=if 7≤i then 82 else (aD7 ds).getD (i-1) 0
def iD (ds : List UInt8) : Nat → List UInt8
 |0=>wX
 |i+1=>iD ds i++(if i=6 then IU else [])++aK (cX ds (i+1)) (aS ds (i+1))
def jU (ds:List UInt8):List UInt8:=iD ds 12++wX
def ZU : Nat → List (List UInt8 × List UInt8)
 |0=>[]
 |d+1=>(71 :: (exB (fA.getD d [])).reverse,[UInt8.ofNat (48+d)]) :: (82 :: exB (fA.getD d []),[UInt8.ofNat (48+d)]) :: (76 :: fA.getD d [],[UInt8.ofNat (48+d)]) :: ZU d
def uS (x:List UInt8):Option (List UInt8):=((ZU 10).find? fun e=>e.1==x).map (·.2)
def qN (i:Nat) (s:List UInt8):Option (UInt8 × List UInt8):=
 if 6≤i then (uS (82 :: s)).map fun n=>(82,n) else match uS (76 :: s) with
  |some n=>some (76,n)
  |none=>(uS (71 :: s)).map fun n=>(71,n)
def wY (i:Nat):Nat:=3+7*i+(if 6≤i then 5 else 0)
def gAt (m:List UInt8) (i:Nat):List UInt8:=(m.drop (wY i)).take 7
def dI (m : List UInt8) : Nat → Option (List (UInt8 × List UInt8))
 |0=>some []
 |n+1=>match dI m n with
  |none=>none
  |some ps=>match qN n (gAt m n) with
   |none=>none
   |some p=>some (ps++[p])
def jA (m:List UInt8):Bool:=decide (m.length=95)&&(decide (m.take 3=wX)&&(decide ((m.drop 45).take 5=IU)&&decide (m.drop 92=wX)))
def rB (ps:List (UInt8 × List UInt8)):List UInt8:=ps.map (·.1)
def lS (ps:List (UInt8 × List UInt8)):List UInt8:=ps.flatMap (·.2)
def mR (row:List UInt8):Option Nat:=dL.findIdx? (·==row)
def jV (m:List UInt8):Option (List UInt8):=if jA m=true then match dI m 12 with
 |none=>none
 |some ps=>(mR ((rB ps).take 6)).map fun f=>UInt8.ofNat (48+f) :: lS ps
 else none
def jL (m:List UInt8):List UInt8 × Int:=match jV m with
 |none=>([],2)
 |some d=>if i8 (d.take 12)=aS d 12 then (d,0) else ([],14)
def FF (m:List UInt8):List UInt8 × Int:=if (jL m).2=2 then jL m.reverse else jL m
theorem OW (i:Nat) (s:List UInt8) (h:i<6):qN i s=qN 0 s:=by
 unfold qN;rw[if_neg (by omega),if_neg (by decide)]
theorem VU (i:Nat) (s:List UInt8) (h:6≤i):qN i s=qN 6 s:=by
 unfold qN;rw[if_pos h,if_pos (by decide)]
theorem VV:∀d<10,qN 0 (aK 76 d)=some (76,[UInt8.ofNat (48+d)])∧qN 0 (aK 71 d)=some (71,[UInt8.ofNat (48+d)]):=by decide +kernel
theorem aAC:∀d<10,qN 6 (aK 82 d)=some (82,[UInt8.ofNat (48+d)]):=by decide +kernel
theorem aC0:∀e∈ZU 10,∃d,d<10∧(e.1=76 :: aK 76 d∨e.1=71 :: aK 71 d∨e.1=82 :: aK 82 d)∧e.2=[UInt8.ofNat (48+d)]:=by decide +kernel
theorem mC {x n:List UInt8} (h:uS x=some n):∃d,d<10∧(x=76 :: aK 76 d∨x=71 :: aK 71 d∨x=82 :: aK 82 d)∧n=[UInt8.ofNat (48+d)]:=by
 unfold uS at h;obtain ⟨e,he,rfl⟩:=Option.map_eq_some_iff.1 h;have hx:e.1=x:=(by simpa using List.find?_some he);obtain ⟨d,hd,h1,h2⟩:=aC0 e (List.mem_of_find?_eq_some he);rw[hx] at h1;exact ⟨d,hd,h1,h2⟩
theorem uT {i:Nat} {s:List UInt8} {k:UInt8} {n:List UInt8} (h:qN i s=some (k,n)):∃d,d<10∧s=aK k d∧n=[UInt8.ofNat (48+d)]∧(6≤i→k=82)∧(i<6→k=76∨k=71):=by
 unfold qN at h;by_cases hi:6≤i
 ·rw[if_pos hi] at h;obtain ⟨n',hn,e⟩:=Option.map_eq_some_iff.1 h;obtain ⟨rfl,rfl⟩:=Prod.mk.inj e;obtain ⟨d,hd,h1,h2⟩:=mC hn;rcases h1 with h1|h1|h1
  ·exact absurd (List.cons.inj h1).1 (by decide)
  ·exact absurd (List.cons.inj h1).1 (by decide)
  ·exact ⟨d,hd,(List.cons.inj h1).2,h2,fun _=>rfl,fun h=>by omega⟩
 ·rw[if_neg hi] at h;cases h76:uS (76 :: s) with
  |some n'=>
   rw[h76] at h;obtain ⟨rfl,rfl⟩:=Prod.mk.inj (aLZ h);obtain ⟨d,hd,h1,h2⟩:=mC h76;rcases h1 with h1|h1|h1
   ·exact ⟨d,hd,(List.cons.inj h1).2,h2,fun h=>absurd h hi,fun _=>Or.inl rfl⟩
   ·exact absurd (List.cons.inj h1).1 (by decide)
   ·exact absurd (List.cons.inj h1).1 (by decide)
  |none=>
   rw[h76] at h;obtain ⟨n',hn,e⟩:=Option.map_eq_some_iff.1 h;obtain ⟨rfl,rfl⟩:=Prod.mk.inj e;obtain ⟨d,hd,h1,h2⟩:=mC hn;rcases h1 with h1|h1|h1
   ·exact absurd (List.cons.inj h1).1 (by decide)
   ·exact ⟨d,hd,(List.cons.inj h1).2,h2,fun h=>absurd h hi,fun _=>Or.inr rfl⟩
   ·exact absurd (List.cons.inj h1).1 (by decide)
theorem aAD {s n:List UInt8} (h:uS (76 :: s)=some n):uS (71 :: s)=none:=by
 cases hg:uS (71 :: s) with
 |none=>rfl
 |some n'=>
  exfalso;obtain ⟨d,hd,h1,-⟩:=mC h;obtain ⟨d',hd',h1',-⟩:=mC hg;have e1:s=aK 76 d:=by
   rcases h1 with h1|h1|h1
   ·exact (List.cons.inj h1).2
   ·exact absurd (List.cons.inj h1).1 (by decide)
   ·exact absurd (List.cons.inj h1).1 (by decide)
  have e2:s=aK 71 d':=by
   rcases h1' with h1' | h1' | h1'
   ·exact absurd (List.cons.inj h1').1 (by decide)
   ·exact (List.cons.inj h1').2
   ·exact absurd (List.cons.inj h1').1 (by decide)
  have hne:∀a<10,∀b<10,aK 76 a≠aK 71 b:=(by decide +kernel);exact hne d hd d' hd' (e1.symm.trans e2)
theorem jB {m : List UInt8} : ∀ {n : Nat} {ps : List (UInt8 × List UInt8)}, dI m n = some ps → ps.length = n
 |0,ps,h=>by obtain rfl:=aLZ h;rfl
 |n+1,ps,h=>by
  unfold dI at h;cases hp:dI m n with
  |none=>rw[hp] at h;cases h
  |some q=>
   rw[hp] at h;cases hd:qN n (gAt m n) with
   |none=>simp only[hd] at h;cases h
   |some p=>simp only[hd] at h;obtain rfl:=aLZ h;rw[aLy,jB hp];rfl
theorem mD {m : List UInt8} : ∀ {n : Nat} {ps : List (UInt8 × List UInt8)}, dI m n = some ps → ∀ i p, ps[i]? = some p → qN i (gAt m i) = some p
 |0,ps,h,i,p,hi=>by obtain rfl:=aLZ h;simp at hi
 |n+1,ps,h,i,p,hi=>by
  unfold dI at h;cases hp:dI m n with
  |none=>rw[hp] at h;cases h
  |some q=>
   rw[hp] at h;cases hd:qN n (gAt m n) with
   |none=>simp only[hd] at h;cases h
   |some r=>
    simp only[hd] at h;obtain rfl:=aLZ h;have hl:=jB hp;by_cases hlt:i<n
    ·rw[aLE (by omega)] at hi;exact mD hp i p hi
    ·have hib:i<(q++[r]).length:=(aLw.1 hi).1;rw[aLy] at hib;have:([r]:List (UInt8 × List UInt8)).length=1:=rfl;obtain rfl:i=n:=(by omega);rw[aLD (by omega),hl,Nat.sub_self] at hi;simp only[aLT,Option.some.injEq] at hi;rw[←hi];exact hd
theorem RQ {m:List UInt8} {n:Nat} {ps:List (UInt8 × List UInt8)} {p:UInt8 × List UInt8} (h:dI m n=some ps) (hd:qN n (gAt m n)=some p):dI m (n+1)=some (ps++[p]):=by
 show (match dI m n with|none=>none|some ps=>match qN n (gAt m n) with|none=>none|some p=>some (ps++[p]))=_;rw[h];simp only[hd]
theorem CX {m : List UInt8} {n : Nat} (hd : qN n (gAt m n) = none) : ∀ k, dI m (n + 1 + k) = none
 |0=>by
  show (match dI m n with|none=>none|some ps=>match qN n (gAt m n) with|none=>none|some p=>some (ps++[p]))=_;cases dI m n with
  |none=>rfl
  |some ps=>simp only[hd]
 |k+1=>by
  show (match dI m (n+1+k) with|none=>none|some ps=>match qN (n+1+k) (gAt m (n+1+k)) with|none=>none|some p=>some (ps++[p]))=_;rw[CX hd k]
theorem wB {m:List UInt8} {n:Nat} (hn:n<12) (hd:qN n (gAt m n)=none):dI m 12=none:=by
 have:=CX hd (12-(n+1))
 rwa [show n+1+(12-(n+1))=12 by omega] at this
theorem nI:∀k:UInt8,∀d<10,(aK k d).length=7:=by
 intro k d hd;have h1:∀d<10,(fA.getD d []).length=7:=(by decide);unfold aK exB;split
 ·rw[aLz];exact h1 d hd
 ·split
  ·rw[aL3,aLz];exact h1 d hd
  ·exact h1 d hd
theorem UN {l:List UInt8} (h:l.length=7):∃a b c d e f g,l=[a,b,c,d,e,f,g]:=by
 match l,h with
 |[a,b,c,d,e,f,g],_=>exact ⟨a,b,c,d,e,f,g,rfl⟩
def gV (c1 c2 c3 c4 c5 c6 c7 c8 c9 c10 c11 c12:List UInt8):List UInt8:=wX++c1++c2++c3++c4++c5++c6++IU++c7++c8++c9++c10++c11++c12++wX
theorem CY (ds:List UInt8):jU ds=gV (aK (cX ds 1) (aS ds 1)) (aK (cX ds 2) (aS ds 2)) (aK (cX ds 3) (aS ds 3)) (aK (cX ds 4) (aS ds 4)) (aK (cX ds 5) (aS ds 5)) (aK (cX ds 6) (aS ds 6)) (aK (cX ds 7) (aS ds 7)) (aK (cX ds 8) (aS ds 8)) (aK (cX ds 9) (aS ds 9)) (aK (cX ds 10) (aS ds 10)) (aK (cX ds 11) (aS ds 11)) (aK (cX ds 12) (aS ds 12)):=by
 simp[jU,iD,gV]
theorem yU (c1 c2 c3 c4 c5 c6 c7 c8 c9 c10 c11 c12:List UInt8) (h1:c1.length=7) (h2:c2.length=7) (h3:c3.length=7) (h4:c4.length=7) (h5:c5.length=7) (h6:c6.length=7) (h7:c7.length=7) (h8:c8.length=7) (h9:c9.length=7) (h10:c10.length=7) (h11:c11.length=7) (h12:c12.length=7) :
 (gV c1 c2 c3 c4 c5 c6 c7 c8 c9 c10 c11 c12).length = 95 ∧ (gV c1 c2 c3 c4 c5 c6 c7 c8 c9 c10 c11 c12).take 3 = wX ∧ ((gV c1 c2 c3 c4 c5 c6 c7 c8 c9 c10 c11 c12).drop 45).take 5 = IU ∧ (gV c1 c2 c3 c4 c5 c6 c7 c8 c9 c10 c11 c12).drop 92 = wX ∧
   gAt (gV c1 c2 c3 c4 c5 c6 c7 c8 c9 c10 c11 c12) 0=c1∧gAt (gV c1 c2 c3 c4 c5 c6 c7 c8 c9 c10 c11 c12) 1=c2∧gAt (gV c1 c2 c3 c4 c5 c6 c7 c8 c9 c10 c11 c12) 2=c3∧gAt (gV c1 c2 c3 c4 c5 c6 c7 c8 c9 c10 c11 c12) 3=c4∧gAt (gV c1 c2 c3 c4 c5 c6 c7 c8 c9 c10 c11 c12) 4=c5∧gAt (gV c1 c2 c3 c4 c5 c6 c7 c8 c9 c10 c11 c12) 5=c6∧gAt (gV c1 c2 c3 c4 c5 c6 c7 c8 c9 c10 c11 c12) 6=c7∧gAt (gV c1 c2 c3 c4 c5 c6 c7 c8 c9 c10 c11 c12) 7=c8∧gAt (gV c1 c2 c3 c4 c5 c6 c7 c8 c9 c10 c11 c12) 8=c9∧gAt (gV c1 c2 c3 c4 c5 c6 c7 c8 c9 c10 c11 c12) 9=c10∧gAt (gV c1 c2 c3 c4 c5 c6 c7 c8 c9 c10 c11 c12) 10=c11∧gAt (gV c1 c2 c3 c4 c5 c6 c7 c8 c9 c10 c11 c12) 11=c12 ∧
   (gV c1 c2 c3 c4 c5 c6 c7 c8 c9 c10 c11 c12).reverse=gV c12.reverse c11.reverse c10.reverse c9.reverse c8.reverse c7.reverse c6.reverse c5.reverse c4.reverse c3.reverse c2.reverse c1.reverse:=by
 obtain ⟨a1,a2,a3,a4,a5,a6,a7,rfl⟩:=UN h1;obtain ⟨b1,b2,b3,b4,b5,b6,b7,rfl⟩:=UN h2;obtain ⟨d1,d2,d3,d4,d5,d6,d7,rfl⟩:=UN h3;obtain ⟨e1,e2,e3,e4,e5,e6,e7,rfl⟩:=UN h4;obtain ⟨f1,f2,f3,f4,f5,f6,f7,rfl⟩:=UN h5;obtain ⟨g1,g2,g3,g4,g5,g6,g7,rfl⟩:=UN h6;obtain ⟨i1,i2,i3,i4,i5,i6,i7,rfl⟩:=UN h7;obtain ⟨j1,j2,j3,j4,j5,j6,j7,rfl⟩:=UN h8;obtain ⟨k1,k2,k3,k4,k5,k6,k7,rfl⟩:=UN h9;obtain ⟨l1,l2,l3,l4,l5,l6,l7,rfl⟩:=UN h10;obtain ⟨m1,m2,m3,m4,m5,m6,m7,rfl⟩:=UN h11;obtain ⟨n1,n2,n3,n4,n5,n6,n7,rfl⟩:=UN h12;refine ⟨?_,?_,?_,?_,?_,?_,?_,?_,?_,?_,?_,?_,?_,?_,?_,?_,?_⟩;all_goals kernel_rfl
theorem xJ (ds:List UInt8) (hd:∀i,aS ds i≤9):jA (jU ds)=true∧(∀i,i<12→gAt (jU ds) i=aK (cX ds (i+1)) (aS ds (i+1)))∧∀i,i<12→gAt (jU ds).reverse i=(aK (cX ds (12-i)) (aS ds (12-i))).reverse:=by
 have L:∀i,(aK (cX ds i) (aS ds i)).length=7:=fun i=>nI _ _ (by have:=hd i;omega);have R:∀i,((aK (cX ds i) (aS ds i)).reverse).length=7:=fun i=>(by rw[aL3];exact L i);obtain ⟨a,b,c,d,e1,e2,e3,e4,e5,e6,e7,e8,e9,e10,e11,e12,er⟩:=yU _ _ _ _ _ _ _ _ _ _ _ _ (L 1) (L 2) (L 3) (L 4) (L 5) (L 6) (L 7) (L 8) (L 9) (L 10) (L 11) (L 12);obtain ⟨-,-,-,-,r1,r2,r3,r4,r5,r6,r7,r8,r9,r10,r11,r12,-⟩:=yU _ _ _ _ _ _ _ _ _ _ _ _ (R 12) (R 11) (R 10) (R 9) (R 8) (R 7) (R 6) (R 5) (R 4) (R 3) (R 2) (R 1);rw[CY];refine ⟨?_,?_,?_⟩
 ·unfold jA;rw[aLX a,aLX b,aLX c,aLX d];rfl
 ·intro i hi;have:i=0∨i=1∨i=2∨i=3∨i=4∨i=5∨i=6∨i=7∨i=8∨i=9∨i=10∨i=11:=(by omega);rcases this with rfl|rfl|rfl|rfl|rfl|rfl|rfl|rfl|rfl|rfl|rfl|rfl
  ·exact e1
  ·exact e2
  ·exact e3
  ·exact e4
  ·exact e5
  ·exact e6
  ·exact e7
  ·exact e8
  ·exact e9
  ·exact e10
  ·exact e11
  ·exact e12
 ·intro i hi;rw[er];have:i=0∨i=1∨i=2∨i=3∨i=4∨i=5∨i=6∨i=7∨i=8∨i=9∨i=10∨i=11:=(by omega);rcases this with rfl|rfl|rfl|rfl|rfl|rfl|rfl|rfl|rfl|rfl|rfl|rfl
  ·exact r1
  ·exact r2
  ·exact r3
  ·exact r4
  ·exact r5
  ·exact r6
  ·exact r7
  ·exact r8
  ·exact r9
  ·exact r10
  ·exact r11
  ·exact r12
theorem IV (ds:List UInt8) (hd:aS ds 0≤9) (i:Nat) (hi:i<6):cX ds (i+1)=76∨cX ds (i+1)=71:=by
 have h:∀d<10,∀i<6,(dL.getD d []).getD i 0=76∨(dL.getD d []).getD i 0=71:=(by decide +kernel);unfold cX;rw[if_neg (by omega),Nat.add_sub_cancel];exact h _ (by omega) i hi
theorem qO (ds:List UInt8) (i:Nat) (hi:6≤i):cX ds (i+1)=82:=by
 unfold cX;rw[if_pos (by omega)]
theorem aC1 (ds:List UInt8) (hd:∀i,aS ds i≤9) (i:Nat) (hi:i<12):qN i (gAt (jU ds) i)=some (cX ds (i+1),[UInt8.ofNat (48+aS ds (i+1))]):=by
 rw[(xJ ds hd).2.1 i hi];have h9:=hd (i+1);by_cases h6:i<6
 ·rw[OW _ _ h6];have h:=VV (aS ds (i+1)) (by omega);rcases IV ds (hd 0) i h6 with e|e
  ·rw[e];exact h.1
  ·rw[e];exact h.2
 ·rw[VU _ _ (by omega),qO ds i (by omega)];exact aAC _ (by omega)
theorem IW (ds : List UInt8) (hd : ∀ i, aS ds i ≤ 9) : ∀ n, n ≤ 12 → dI (jU ds) n = some ((List.range n).map fun i => (cX ds (i + 1), [UInt8.ofNat (48 + aS ds (i + 1))]))
 |0,_=>rfl
 |n+1,hn=>by
  rw[RQ (IW ds hd n (by omega)) (aC1 ds hd n (by omega)),List.range_succ,aLS];rfl
theorem aAE:∀d<10,mR [(dL.getD d []).getD 0 0,(dL.getD d []).getD 1 0,(dL.getD d []).getD 2 0,(dL.getD d []).getD 3 0,(dL.getD d []).getD 4 0,(dL.getD d []).getD 5 0]=some d:=by decide +kernel
theorem L7 {ds:List UInt8} (h:aM ds bJ=true):ds=(List.range ds.length).map fun i=>UInt8.ofNat (48+aS ds i):=by
 apply List.ext_getElem?;intro i;rw[aLG];by_cases hi:i<ds.length
 ·rw[aMd hi];have hg:ds[i]? = some ds[i]:=aLv hi;have hm:=FB h hg;rw[hg];show some ds[i]=some (UInt8.ofNat (48+aS ds i));unfold aS;rw[aLx,hg];show some ds[i]=some (UInt8.ofNat (48+(ds[i].toNat-48)));rw[show 48+(ds[i].toNat-48)=ds[i].toNat by omega,UInt8.ofNat_toNat]
 ·rw[aL5 (by omega),aL5 (by rw[aMe];omega)];rfl
theorem aAF (ds:List UInt8) (h13:ds.length=13) (hm:aM ds bJ=true):jV (jU ds)=some ds:=by
 have hd:=mB hm;unfold jV;rw[if_pos (xJ ds hd).1,IW ds hd 12 (Nat.le_refl _)];have xC:(rB ((List.range 12).map fun i=>(cX ds (i+1),[UInt8.ofNat (48+aS ds (i+1))]))).take 6=[(dL.getD (aS ds 0) []).getD 0 0,(dL.getD (aS ds 0) []).getD 1 0,(dL.getD (aS ds 0) []).getD 2 0,(dL.getD (aS ds 0) []).getD 3 0,(dL.getD (aS ds 0) []).getD 4 0,(dL.getD (aS ds 0) []).getD 5 0]:=rfl;show (mR ((rB ((List.range 12).map fun i=>(cX ds (i+1),[UInt8.ofNat (48+aS ds (i+1))]))).take 6)).map _=_;rw[xC,aAE _ (by have:=hd 0;omega)];show some (UInt8.ofNat (48+aS ds 0) :: _)=_;have hds:=L7 hm;rw[h13] at hds;conv=>rhs;rw[hds]
 rfl
theorem VW (ds:List UInt8) (hm:aM ds bJ=true):jV (jU ds).reverse=none:=by
 have hd:=mB hm;unfold jV;by_cases hh:jA (jU ds).reverse=true
 ·rw[if_pos hh];cases hp:dI (jU ds).reverse 12 with
  |none=>rfl
  |some ps=>
   have hk:∀i,i<6→(rB ps)[i]? = some 71:=fun i hi=>by
    have hl:=jB hp;have hg:ps[i]? = some ps[i]:=aLv (by omega);have h:=mD hp i _ hg;rw[(xJ ds hd).2.2 i (by omega),OW _ _ hi] at h;have hkE:cX ds (12-i)=82:=by
     have:=qO ds (11-i) (by omega)
     rwa [show 11-i+1=12-i by omega] at this
    have hc:(aK 82 (aS ds (12-i))).reverse=aK 71 (aS ds (12-i)):=rfl;rw[hkE,hc,(VV _ (by have:=hd (12-i);omega)).2] at h;unfold rB;rw[aLG,hg,←aLZ h];rfl
   have xC:(rB ps).take 6=[71,71,71,71,71,71]:=by
    apply List.ext_getElem?;intro i;by_cases hi:i<6
    ·rw[aLH hi,hk i hi];have:i=0∨i=1∨i=2∨i=3∨i=4∨i=5:=(by omega);rcases this with rfl|rfl|rfl|rfl|rfl|rfl<;>rfl
    ·rw[aL5 (by rw[aLA];omega),aL5 (by simp;omega)]
   show (mR ((rB ps).take 6)).map _=none;rw[xC,show mR [71,71,71,71,71,71]=none by decide];rfl
 ·rw[if_neg hh]
theorem aAG (ds:List UInt8) (h13:ds.length=13) (hm:aM ds bJ=true) (hc:i8 (ds.take 12)=aS ds 12):FF (jU ds)=(ds,0)∧FF (jU ds).reverse=(ds,0):=by
 have h1:jL (jU ds)=(ds,0):=by
  unfold jL;rw[aAF ds h13 hm];show (if i8 (ds.take 12)=aS ds 12 then (ds,(0:Int)) else ([],14))=_;rw[if_pos hc]
 have h2:jL (jU ds).reverse=([],2):=by
  unfold jL;rw[VW ds hm]
 unfold FF;rw[h1,h2,List.reverse_reverse,h1];exact ⟨rfl,rfl⟩
theorem VX {l:List UInt8} (h:∀i,i<l.length→∃b,l[i]? = some b∧(b=48∨b=49)):aM l [48,49]=true:=by
 unfold aM;rw[aLO];intro b hb;obtain ⟨i,hi,rfl⟩:=aL4 hb;obtain ⟨b',h1,h2⟩:=h i hi;rw[aLv hi] at h1;rw[aLZ h1];rcases h2 with rfl|rfl<;>rfl
theorem L8:∀d<10,∀i<7,(∃b,(aK 76 d)[i]? = some b∧(b=48∨b=49))∧(∃b,(aK 71 d)[i]? = some b∧(b=48∨b=49))∧(∃b,(aK 82 d)[i]? = some b∧(b=48∨b=49)):=by
 have h:∀d<10,∀i<7,((aK 76 d)[i]? = some 48∨(aK 76 d)[i]? = some 49)∧((aK 71 d)[i]? = some 48∨(aK 71 d)[i]? = some 49)∧((aK 82 d)[i]? = some 48∨(aK 82 d)[i]? = some 49):=(by decide +kernel);intro d hd i hi;obtain ⟨h1,h2,h3⟩:=h d hd i hi;exact ⟨by rcases h1 with h|h;exact ⟨_,h,Or.inl rfl⟩;exact ⟨_,h,Or.inr rfl⟩,by rcases h2 with h|h;exact ⟨_,h,Or.inl rfl⟩;exact ⟨_,h,Or.inr rfl⟩,by rcases h3 with h|h;exact ⟨_,h,Or.inl rfl⟩;exact ⟨_,h,Or.inr rfl⟩⟩
theorem RR {m:List UInt8} {ps:List (UInt8 × List UInt8)} (hh:jA m=true) (hp:dI m 12=some ps):aM m [48,49]=true:=by
 unfold jA at hh;simp only[aLV,decide_eq_true_eq] at hh;obtain ⟨hl,h3,h5,h9⟩:=hh;apply VX;intro j hj;have grp:∀i,i<12→∀o,o<7→∃b,m[wY i+o]? = some b∧(b=48∨b=49):=fun i hi o ho=>by
  have cL:=jB hp;obtain ⟨⟨k,n⟩,hg⟩:∃p,ps[i]? = some p:=⟨_,aLv (by omega)⟩;have hd:=mD hp i _ hg;obtain ⟨d,aE3,hc,-,hk1,hk2⟩:=uT hd;have hb:=L8 d aE3 o ho;have hgo:(gAt m i)[o]? = m[wY i+o]?:=by
   unfold gAt;rw[aLH ho,aLI]
  rw[←hgo,hc];by_cases h6:6≤i
  ·rw[hk1 h6];exact hb.2.2
  ·rcases hk2 (by omega) with rfl|rfl
   ·exact hb.1
   ·exact hb.2.1
 by_cases c1:j<3
 ·have:m[j]? = wX[j]?:=(by rw[←h3,aLH c1]);rw[this];have:j=0∨j=1∨j=2:=(by omega);rcases this with rfl|rfl|rfl
  ·exact ⟨49,rfl,Or.inr rfl⟩
  ·exact ⟨48,rfl,Or.inl rfl⟩
  ·exact ⟨49,rfl,Or.inr rfl⟩
 ·by_cases c2:j<45
  ·have h:=grp ((j-3) / 7) (by omega) ((j-3) % 7) (by omega);have e:wY ((j-3) / 7)+(j-3) % 7=j:=by unfold wY;rw[if_neg (by omega)];omega
   rwa [e] at h
  ·by_cases c3:j<50
   ·have:m[j]? = IU[j-45]?:=(by rw[←h5,aLH (by omega),aLI,show 45+(j-45)=j by omega]);rw[this];have:j=45∨j=46∨j=47∨j=48∨j=49:=(by omega);rcases this with rfl|rfl|rfl|rfl|rfl
    ·exact ⟨48,rfl,Or.inl rfl⟩
    ·exact ⟨49,rfl,Or.inr rfl⟩
    ·exact ⟨48,rfl,Or.inl rfl⟩
    ·exact ⟨49,rfl,Or.inr rfl⟩
    ·exact ⟨48,rfl,Or.inl rfl⟩
   ·by_cases c4:j<92
    ·have h:=grp ((j-8) / 7) (by omega) ((j-8) % 7) (by omega);have e:wY ((j-8) / 7)+(j-8) % 7=j:=by unfold wY;rw[if_pos (by omega)];omega
     rwa [e] at h
    ·have:m[j]? = wX[j-92]?:=(by rw[←h9,aLI,show 92+(j-92)=j by omega]);rw[this];have:j=92∨j=93∨j=94:=(by omega);rcases this with rfl|rfl|rfl
     ·exact ⟨49,rfl,Or.inr rfl⟩
     ·exact ⟨48,rfl,Or.inl rfl⟩
     ·exact ⟨49,rfl,Or.inr rfl⟩
theorem VY {m:List UInt8} (h:aM m [48,49]=false):jV m=none:=by
 unfold jV;by_cases hh:jA m=true
 ·rw[if_pos hh];cases hp:dI m 12 with
  |none=>rfl
  |some ps=>have:=RR hh hp;rw[h] at this;cases this
 ·rw[if_neg hh]
theorem L9 {m ds:List UInt8} (h:jV m=some ds):ds.length=13∧aM ds bJ=true:=by
 unfold jV at h;by_cases hh:jA m=true
 ·rw[if_pos hh] at h;cases hp:dI m 12 with
  |none=>rw[hp] at h;cases h
  |some ps=>
   rw[hp] at h;obtain ⟨f,hf,rfl⟩:=Option.map_eq_some_iff.1 h;have aGX:f<10:=by
    unfold mR at hf;exact (List.findIdx?_eq_some_iff_findIdx_eq.1 hf).1
   have hl:=jB hp;have all1:∀p∈ps,∃d,d<10∧p.2=[UInt8.ofNat (48+d)]:=fun p hpm=>by
    obtain ⟨i,hi,rfl⟩:=aL4 hpm;have hd:=mD hp i _ (aLv hi);obtain ⟨d,aE3,-,hn,-,-⟩:=uT (k:=ps[i].1) (n:=ps[i].2) hd;exact ⟨d,aE3,hn⟩
   have key:∀qs:List (UInt8 × List UInt8),(∀p∈qs,∃d,d<10∧p.2=[UInt8.ofNat (48+d)])→(lS qs).length=qs.length∧∀b∈lS qs,b∈bJ:=by
    intro qs;induction qs with
    |nil=>intro _;exact ⟨rfl,fun b hb=>by simp[lS] at hb⟩
    |cons q qs ih=>
     intro hq;obtain ⟨d,aE3,hn⟩:=hq q (List.mem_cons_self ..);obtain ⟨i1,i2⟩:=ih fun p hp=>hq p (List.mem_cons_of_mem _ hp);have e:lS (q :: qs)=UInt8.ofNat (48+d) :: lS qs:=by
      unfold lS;rw[aMi,hn];rfl
     rw[e];refine ⟨by rw[aLB,aLB,i1],fun b hb => ?_⟩;rcases aLN.1 hb with rfl|hb
     ·have:∀d<10,UInt8.ofNat (48+d)∈bJ:=(by decide);exact this d aE3
     ·exact i2 b hb
   obtain ⟨k1,k2⟩:=key ps all1;refine ⟨by rw[aLB,k1,hl],?_⟩;unfold aM;rw[aLO];intro b hb;rcases aLN.1 hb with rfl|hb
   ·have:∀d<10,(bJ.contains (UInt8.ofNat (48+d)))=true:=(by decide);exact this f aGX
   ·simpa using k2 b hb
 ·rw[if_neg hh] at h;cases h
end Go.Proofs.YtllefinciimffaaGreatDoor
