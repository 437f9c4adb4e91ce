import Derived.Test.YtllefinciimffaaGreatDoorMClaimTopForms8
set_option maxHeartbeats 20000000
set_option maxRecDepth 100000
namespace Go.Proofs.YtllefinciimffaaGreatDoor
open Go.RowKit Go.Shelf
theorem L4:(Tryz.prog.info? 304).map (fun i=>(i.zero,i.size,i.bytes))=some (some (.agg #[.int .i64 0,.int .i64 0]),2,16):=by kernel_rfl
def SpgRes (ls:List Ltr) (gap sp:Nat) (t:List UInt8) (w:World) (e:Ending) (w':World):Prop:=∃R m d wd err,e=.returned (.tuple #[.slice R m d,.int .i64 wd,.int .i64 err])∧err=iC ls t∧(err≠0→wd=0) ∧
 (err=0→∀l,fT ls t=some l→wd=((dT ls gap sp (0,false) l).1:Int)∧m=(cJ ls gap sp (0,false) l).length∧m≤t.length∧Reads w' 2 R m (cN (cJ ls gap sp (0,false) l)))∧Bl w w'
theorem E7 {ls:List Ltr} {gap sp:Nat} {t:List UInt8} {w w':World} {err:Int} (h:iC ls t=err) (hz:err≠0) (hb:Bl w w'):SpgRes ls gap sp t w (.returned (.tuple #[.slice none 0 0,.int .i64 0,err])) w':=
 ⟨none,0,0,0,err,rfl,h.symm,fun _=>rfl,fun h=>absurd h hz,hb⟩
theorem yO {ls : List Ltr} {gap sp : Nat} : ∀ (l : List (Option Nat)) (s : Spot), (cJ ls gap sp s l).length ≤ l.length
 |[],_=>Nat.le_refl _
 |none :: l,_=>Nat.le_succ_of_le (yO l _)
 |some _ :: l,_=>Nat.succ_le_succ (yO l _)
theorem dS {t:List UInt8} {i:Nat} {b:UInt8} (h:t[i]? = some b):∃hi:i<(⟨t.toArray⟩:ByteArray).size,(⟨t.toArray⟩:ByteArray)[i]'hi=b:=by
 have hl:=(aLw.1 h).1;have hi:i<(⟨t.toArray⟩:ByteArray).size:=(by rw[Lib.size_mk];exact hl);exact ⟨hi,aLZ ((Lib.getElem_mk t i hi).symm.trans h)⟩
theorem IQ (nm:List UInt8) (ht gap sp:Nat) (adl:Addr) (c:Nat) (ls:List Ltr) (t:List UInt8) (w:World) (hL:LtrsAt w (some adl) ls) (hR:Right ht gap sp ls) (htl:t.length≤9223372036854775807) (hv:SubOk w) :
 Calls Tryz.prog 265 #[.agg #[nm,ht,gap,sp,.slice (some adl) ls.length c],t] w (SpgRes ls gap sp t w):=by
 let w2:=(w).alloc (.cells #[nm,ht,gap,sp,.slice (some adl) ls.length c] 46);obtain ⟨w2b,w21⟩:=aLh (x:=w2) w _ _ rfl;obtain ⟨HL,HR,HV⟩:=aLb (hL.bl w2b) hR (hv.bl w2b);have hg:=hR.gap1;have hsp:=hR.sp1;have aDD:=hR.many;have h0:w2.ownsRow w2.heap.size 304 2 (.slice none 0 0) (cJ ls gap sp (0,false) []).length (cN (cJ ls gap sp (0,false) [])):=World.ownsRow_nil _ _ _ _;have H0:=aLa h0;clear hL hR h0 hv;have hszt:(⟨t.toArray⟩:ByteArray).size=t.length:=Lib.size_mk t
 go_in
 by_cases AU:t=[]
 ·have HE:=aLa (show iC ls t=9 by rw[l8 (by rw[yJ AU];decide),yJ AU]);subst AU;go_wp2_with fail;try simp only[Exit.inBlock,Exit.then]
  exact aL0 (v:=.tuple #[.slice none 0 0,.int .i64 0,.int .i64 9]) (by simp[results,Tryz.results265,go_sem]) rfl (E7 HE.out (by decide) w2b)
 ·obtain ⟨b0,r0,ht0⟩:∃b r,t=b :: r:=by
   cases t with
   |nil=>exact absurd rfl AU
   |cons b r=>exact ⟨b,r,rfl⟩
  have UF:t.isEmpty=false:=(by rw[ht0];rfl);have aBD:0<t.length:=(by rw[ht0];simp);have HT0:=aLa ht0;have aDJ:=aLa AU;by_cases ZJ:200<t.length
  ·have HE:=aLa (show iC ls t=4 by rw[l8 (by rw[vU AU ZJ];decide),vU AU ZJ]);clear ht0 AU;go_wp2_with fail;try simp only[Exit.inBlock,Exit.then]
   exact aL0 (v:=.tuple #[.slice none 0 0,.int .i64 0,.int .i64 4]) (by simp[results,Tryz.results265,go_sem]) rfl (E7 HE.out (by decide) w2b)
  ·obtain ⟨n,hn⟩:=aLt (t.length-1);have hlen1:(t.length:Int)-1=(n:Int):=(by omega);have aIi:n<t.length:=(by omega);obtain ⟨hi0,hb0⟩:=dS (t:=t) (i:=0) (b:=b0) (by rw[ht0];rfl);obtain ⟨hin,hbn⟩:=dS (t:=t) (i:=n) (b:=t[n]) (aLv aIi);obtain ⟨bn,aFX⟩:=aLt (t[n]);rw[←aFX] at hbn;have hfb:lR t=(decide (b0=32)||(decide (bn=32)||Lib.contains t [32,32])):=by
    unfold lR;have e1:Lib.hasPrefix t [32]=decide (b0=32):=by
     rw[ht0];unfold Lib.hasPrefix;rw[Bool.eq_iff_iff];simp;exact eq_comm
    have e2:Lib.hasSuffix t [32]=decide (bn=32):=by
     unfold Lib.hasSuffix;rw[Bool.eq_iff_iff,List.isSuffixOf_iff_suffix,decide_eq_true_eq];have ZH:t=t.take n++[bn]:=by
      rw[aFX];conv=>lhs;rw[←aLK n t]
      rw[aL7 aIi,List.drop_eq_nil_of_le (by omega)]
     constructor
     ·rintro ⟨p,hp⟩;rw[ZH] at hp;have:=(List.append_inj' hp rfl).2;simpa using this.symm
     ·intro h;exact ⟨t.take n,by rw[←h];exact ZH.symm⟩
    rw[e1,e2]
   have HFb:=aLa hfb;have hct:=IN t [32,32] w2 (by omega) HV.out;have Hct:=aLa hct;clear ht0 AU hn aFX hfb hct;go_upto_region 5 with fail;go_cut [17] from 18 to 32 (fun s17 wc=>s17=.bool (lR t)∧wc=w2);case first=>
    by_cases c0:b0=32
    ·have hq:((b0.toNat:Int)==32)=true:=(by rw[c0];rfl);have HW:=aLa (show lR t=true by rw[HFb.out,aLX c0];rfl);clear c0;go_wp2_with fail;go_meet;case rel=>exact ⟨by rw[HW.out],rfl⟩
    ·have hq:((b0.toNat:Int)==32)=false:=by
      have:b0.toNat≠32:=fun h=>c0 (UInt8.toNat_inj.1 h);simp;omega
     by_cases c1:bn=32
     ·have hq1:((bn.toNat:Int)==32)=true:=(by rw[c1];rfl);have HW:=aLa (show lR t=true by rw[HFb.out,aLX c1];simp);clear c0 c1;go_wp2_with fail;go_meet;case rel=>exact ⟨by rw[HW.out],rfl⟩
     ·have hq1:((bn.toNat:Int)==32)=false:=by
       have:bn.toNat≠32:=fun h=>c1 (UInt8.toNat_inj.1 h);simp;omega
      have HW:=aLa (show lR t=Lib.contains t [32,32] by rw[HFb.out,aLW c0,aLW c1];rfl);clear c0 c1;go_wp2_with fail;refine Hct.out.mono ?_;rintro e w' ⟨rfl,rfl⟩;go_wp2_with fail;go_meet;case rel=>exact ⟨by rw[HW.out],rfl⟩
   case rest=>
    obtain ⟨rfl,rfl⟩:=hcut;clear hb0 hbn hi0 hin;cases K4:lR t with
    |true=>
     have HE:=aLa (show iC ls t=2 by rw[l8 (by rw[vV aDJ.out ZJ K4];decide),vV aDJ.out ZJ K4]);clear K4;go_wp2_with fail;try simp only[Exit.inBlock,Exit.then]
     exact aL0 (v:=.tuple #[.slice none 0 0,.int .i64 0,.int .i64 2]) (by simp[results,Tryz.results265,go_sem]) rfl (E7 HE.out (by decide) w2b)
    |false=>
     have HE:=aLa (Q8 aDJ.out ZJ K4);have HF:=aLa K4;clear K4;go_wp2_with fail
     go_loopw [1, 4, 5] (fun u v x wr => ∃ (dn : List (Option Nat)) (rest : List UInt8), u = .string ⟨rest.toArray⟩ ∧ x = .int .i64 ((dT ls gap sp (0, false) dn).1 : Int) ∧ Hid (fT ls t = (fT ls rest).map (dn ++ ·)) ∧ Hid (∃ pre, t = pre ++ rest) ∧ dn.length + rest.length ≤ t.length ∧ Hid ((dn = [] ∧ rest = t) ∨ ((dT ls gap sp (0, false) dn).2 = true ∧ 1 ≤ (dT ls gap sp (0, false) dn).1)) ∧ Bl w2 wr ∧
      wr.ownsRow w2.heap.size 304 2 v (cJ ls gap sp (0,false) dn).length (cN (cJ ls gap sp (0,false) dn))) (fun u _ _ _=>aB3 u)
     case atStart=>exact ⟨[],t,rfl,rfl,aLa (by cases fT ls t<;>rfl),aLa ⟨[],rfl⟩,by simp,aLa (.inl ⟨rfl,rfl⟩),Bl.refl _,H0.out⟩
     case round=>
      obtain ⟨dn,rest,rfl,rfl,aBF,aEd,cL,aEZ,hbr,cA⟩:=hrel;obtain ⟨R1,c1,rfl,-,-⟩:=uE cA;have k1:=(w21.bl hbr).all5;have HOw:=aLa cA;have hpn:=yO (ls:=ls) (gap:=gap) (sp:=sp) dn (0,false);have hle:=OM (by omega) (by omega) HR.out.wd_le (ls:=ls) (gap:=gap) (sp:=sp) dn (0,false);obtain ⟨pn,aE0⟩:=aLt ((cJ ls gap sp (0,false) dn).length);rw[←aE0] at hpn;have HOw:=aLa (show wr.ownsRow w2.heap.size 304 2 (.slice R1 pn c1) pn (cN (cJ ls gap sp (0,false) dn)) by rw[aE0];exact HOw.out);rw[←aE0];have HPn:=aLa aE0;clear cA aE0;by_cases AU:rest=[]
      ·subst AU;have HS:=aLa (show fT ls t=some dn by rw[aBF.out,VF];simp);obtain ⟨A2,c2,e2,hr2⟩:=cU HOw.out;injection e2 with q1 _ q3;subst q1;subst q3;have HRd:=aLa hr2;clear hr2;go_wp2_with fail;refine aL0 (v:=.tuple #[.slice R1 pn c1,.int .i64 ((dT ls gap sp (0,false) dn).1:Int),.int .i64 0]) (by simp[results,Tryz.results265,go_sem]) rfl ⟨R1,pn,c1,_,0,rfl,(IF HE.out HS.out).symm,fun h=>absurd rfl h,fun _ l hl => ?_,w2b.trans hbr⟩;rw[HS.out] at hl;obtain rfl:=aLZ hl;exact ⟨rfl,HPn.out,by omega,HRd.out⟩
      ·obtain ⟨b,r,hrs⟩:∃b r,rest=b :: r:=by
        cases rest with
        |nil=>exact absurd rfl AU
        |cons b r=>exact ⟨b,r,rfl⟩
       have hrl:rest.length=r.length+1:=(by rw[hrs];rfl);have hsz:(⟨rest.toArray⟩:ByteArray).size=rest.length:=Lib.size_mk rest;obtain ⟨hih,hg0⟩:=dS (t:=rest) (i:=0) (b:=b) (by rw[hrs];rfl);have UF:rest.isEmpty=false:=(by rw[hrs];rfl);have aBD:0<rest.length:=(by omega);have HRl:=aLa hrl;have HRs:=aLa hrs;obtain ⟨n,sd,hns⟩:∃n sd,dT ls gap sp (0,false) dn=(n,sd):=⟨_,_,rfl⟩;have HNs:=aLa hns;rw[hns] at hle ⊢;have aFY:n≤80*1048576:=(by simp only at hle;omega);have ZK:=aEZ.out;rw[hns] at ZK;have HSd:=aLa (show (dn=[]∧rest=t)∨(sd=true∧1≤n) from ZK);clear hrl hrs hns hle ZK aEZ;go_upto_region 8 with fail;obtain ⟨t1,ht1⟩:∃x,x=(decide (0<n)&&decide (b=32)):=⟨_,rfl⟩;have HT1:=aLa ht1;clear ht1;go_cut [41] from 35 to 41 (fun s41 wc=>s41=.bool t1∧wc=wr);case first=>
        by_cases hn0:0<n
        ·by_cases US:b=32
         ·have hq:((b.toNat:Int)==32)=true:=(by rw[US];rfl);have HW:=aLa (show t1=true by rw[HT1.out,aLX hn0,aLX US];rfl);clear US;go_wp2_with fail;go_meet;case rel=>exact ⟨by rw[HW.out],rfl⟩
         ·have hq:((b.toNat:Int)==32)=false:=by
           have:b.toNat≠32:=fun h=>US (UInt8.toNat_inj.1 h);simp;omega
          have HW:=aLa (show t1=false by rw[HT1.out,aLW US];simp);clear US;go_wp2_with fail;go_meet;case rel=>exact ⟨by rw[HW.out],rfl⟩
        ·have HW:=aLa (show t1=false by rw[HT1.out,aLW hn0];simp);have hn1:¬(0:Int)<(n:Int):=(by omega);go_wp2_with fail;go_meet;case rel=>exact ⟨by rw[HW.out],rfl⟩
       case rest=>
        obtain ⟨rfl,rfl⟩:=hcut;clear hg0 hih;go_upto_if 41 with fail;go_cut [1,5] from 42 to 53 (fun s1 s5 wx=>∃(dn2:List (Option Nat)) (r2:List UInt8) (at_:Nat),s1=.string ⟨r2.toArray⟩∧s5=.int .i64 (at_:Int)∧Hid (at_=dU gap (dT ls gap sp (0,false) dn2))∧Hid (fT ls t=(fT ls r2).map (dn2++·))∧Hid (∃pre,t=pre++r2)∧dn2.length+r2.length≤t.length∧Hid (∃b r,r2=b :: r∧b≠32)∧Hid (cJ ls gap sp (0,false) dn2=cJ ls gap sp (0,false) dn)∧r2.length≤rest.length∧at_≤90000000∧wx=wc);case first=>
         cases t1
         ·by_cases hn0:0<n
          ·have US:b≠32:=fun h=>by
            have h1:=HT1.out;rw[aLX hn0,aLX h] at h1;cases h1
           have hsd:sd=true:=by
            rcases HSd.out with ⟨h1,-⟩|⟨h1,-⟩
            ·have h2:=HNs.out;rw[h1] at h2;injection h2 with h3 _;omega
            ·exact h1
           have HA:=aLa (show n+gap=dU gap (dT ls gap sp (0,false) dn) by rw[HNs.out,hsd];rfl);have HB:=aLa US;have hn1:(0:Int)<(n:Int):=(by omega);clear US hsd;go_wp2_with fail;go_meet;case rel=>exact ⟨dn,rest,n+gap,rfl,by simp,HA,aBF,aEd,cL,aLa ⟨b,r,HRs.out,HB.out⟩,aLa rfl,Nat.le_refl _,by omega,rfl⟩
          ·have hdn:dn=[]∧rest=t:=by
            rcases HSd.out with h1|⟨-,h1⟩
            ·exact h1
            ·omega
           have HA:=aLa (show n=dU gap (dT ls gap sp (0,false) dn) by
            have h2:=HNs.out;rw[hdn.1] at h2 ⊢;injection h2 with h3 _;rw[←h3];rfl)
           have HB:=aLa (OO HF.out (show t=b :: r by rw[←hdn.2];exact HRs.out));have hn1:¬(0:Int)<(n:Int):=(by omega);clear hdn;go_wp2_with fail;go_meet;case rel=>exact ⟨dn,rest,n,rfl,rfl,HA,aBF,aEd,cL,aLa ⟨b,r,HRs.out,HB.out⟩,aLa rfl,Nat.le_refl _,by omega,rfl⟩
         ·have hb:b=32:=by
           have h1:=HT1.out;by_cases h:b=32
           ·exact h
           ·rw[aLW h] at h1;simp at h1
          have HA:=aLa (show n+sp=dU gap (dT ls gap sp (0,false) (dn++[none])) by rw[RB,HNs.out];rfl);have HS2:=aLa (show fT ls t=(fT ls r).map ((dn++[none])++·) by
           rw[aBF.out,HRs.out,hb,LR];cases fT ls r<;>simp)
          obtain ⟨pre,N1⟩:=aEd.out;rw[HRs.out,hb] at N1;have HP2:=aLa (show ∃pre,t=pre++r from ⟨pre++[32],by rw[N1];simp⟩);have HB:=aLa (show ∃b r',r=b :: r'∧b≠32 by
           cases hr:r with
           |nil=>rw[hr] at N1;exact (VJ HF.out N1).elim
           |cons b' r'=>refine ⟨b',r',rfl,fun h => ?_⟩;rw[hr,h] at N1;exact OP HF.out N1)
          have HPt:=aLa (Q9 (ls:=ls) (gap:=gap) (sp:=sp) (s:=(0,false)) dn);have h1r:(1:Int)≤(rest.length:Int):=(by omega);have hex:(⟨rest.toArray⟩:ByteArray).extract 1 rest.length=⟨r.toArray⟩:=(by rw[l9,HRs.out];rfl);clear hb N1;go_wp2_with fail;go_meet;case rel=>exact ⟨dn++[none],r,n+sp,rfl,by simp,HA,HS2,HP2,by have:=HRl.out;rw[aLy];simp;omega,HB,HPt,by have:=HRl.out;omega,by omega,rfl⟩
        case rest=>
         obtain ⟨dn2,r2,at_,rfl,rfl,hat,aIj,aGU,hlen3,hb3,QL,hr2,hatl,rfl⟩:=hcut;clear AU hsz UF;obtain ⟨b2,r3,hr3,US⟩:=hb3.out;have aFS:(⟨r2.toArray⟩:ByteArray).size=r2.length:=Lib.size_mk r2;have HR3:=aLa hr3;have aIk:=aLa US;clear hr3 US k1;rename World=>wr;have k1:=(w21.bl hbr).all5;go_wp2_with fail;go_loopw [57,7] (fun u v wx=>∃j:Nat,j≤ls.length∧u=.int .i64 j∧v=.int .i64 (fL ls r2 j)∧Bl wr wx) (fun u _ _=>ls.length-(RowKit.intOf u).toNat);case atStart=>exact ⟨0,Nat.zero_le _,rfl,rfl,Bl.refl _⟩
         case round=>
          rename World=>wx;clear k1;obtain ⟨j,hj,rfl,rfl,hbx⟩:=hrel;have aE1:=hbr.trans hbx;have k1:=(w21.bl aE1).all5;have hli:=uN ls r2 j;by_cases hlt:j<ls.length
          ·have hg:ls[j]? = some ls[j]:=aLv hlt;obtain ⟨l,hl⟩:=aLt (ls[j]);rw[←hl] at hg;have UD:fL ls r2 (j+1)=if Lib.hasPrefix r2 l.text=true∧(fL ls r2 j<0∨(gL ls (fL ls r2 j).toNat).length<l.text.length) then (j:Int) else fL ls r2 j:=by
            conv=>lhs;unfold fL
            rw[tB hg]
           obtain ⟨ad,e,j1,j2,j3,j4⟩:=(HL.out.bl aE1).at_ hg;injection e with e;subst e;obtain ⟨m,hm⟩:=aLt (fL ls r2 j);rw[←hm] at UD hli ⊢;have HSt:=aLa UD;clear UD hm hl hg;go_upto_region 17 with fail;obtain ⟨wy,hwy⟩:=aLt (wx.alloc (.cells #[.string ⟨l.text.toArray⟩,.int .i64 l.W,.int .i64 l.H,.slice l.A l.m l.c] 148));obtain ⟨q,hq⟩:=aLt wx.heap.size;have bq:=aLp hwy hq;have hbq:=aLn hwy;rw[←hwy,←hq];clear hwy hq j1 j2 j3 j4 k1;have hby:=hbx.trans hbq;have aIl:=hbr.trans hby
           have k1:=(w21.bl aIl).all5;have k2:=bq.all4;have hs1:(⟨l.text.toArray⟩:ByteArray).size=l.text.length:=Lib.size_mk l.text;have Hp:=aLa (cT r2 l.text);cases hp:Lib.hasPrefix r2 l.text
           ·have HN:=aLa (show fL ls r2 (j+1)=m by rw[HSt.out,if_neg (fun h=>by rw[hp] at h;exact absurd h.1 (by decide))]);have HP:=aLa hp;clear hp;refine aLs [aLq 0,aLq 1,aLq 2,aLr 3,aLq 4,aLq 5,aLq 6,aLq 7,aLq 8,aLq 9,aLq 10,aLq 11,aLq 12,aLq 13,aLq 14,aLq 15,aLq 16,aLq 17,aLq 18,aLq 19,aLq 20] (by kernel_rfl) ?_;apply Flow.mv _ rfl
            ·intro a b;simp only[sqA,Act.eval,sqC];exact b
            iterate 2
             apply Flow.calm2 _ _ rfl rfl
             ·intro a b c d;obtain ⟨e,f⟩:=b.rule;go_simp;(try go_ints);exact d
             ·intro a b;simp only[sqA];exact b
            apply Flow.move rfl;go_wp2_with fail;refine (Hp.out _).mono ?_;rintro e w' ⟨rfl,rfl⟩;rw[HP.out];go_wp2_with fail;refine ⟨fun _=>(by first|exact HB1|exact Bl.refl _),?_⟩;apply Flow.mv _ rfl
            ·intro a b;simp only[sqA,Act.eval,sqC];exact b
            iterate 15
             first
              | (apply Flow.pass rfl (by rfl))
              | (apply Flow.calmG _ rfl (by rfl)
                 ·intro a b;obtain ⟨e,f⟩:=b.rule;go_simp;all_goals (try rfl))
             simp only[sqA];try go_ints
            apply Flow.calm2 _ _ rfl rfl
            ·intro a b c d;obtain ⟨e,f⟩:=b.rule;go_simp;(try go_ints);exact d
            ·intro a b;simp only[sqA];exact b
            refine Flow.done ?_;go_wp2_with fail;exact ⟨⟨j+1,hlt,by go_num,by rw[HN.out],hby.drew⟩,by simp[RowKit.intOf]<;>omega⟩
           ·have HP:=aLa hp;by_cases hm:m<0
            ·have HN:=aLa (show fL ls r2 (j+1)=(j:Int) by rw[HSt.out,if_pos ⟨hp,.inl hm⟩]);clear hp;refine aLs [aLq 0,aLq 1,aLq 2,aLr 3,aLq 4,aLq 5,aLq 6,aLq 7,aLq 8,aLq 9,aLq 10,aLq 11,aLq 12,aLq 13,aLq 14,aLq 15,aLq 16,aLq 17,aLq 18,aLq 19,aLq 20] (by kernel_rfl) ?_;apply Flow.mv _ rfl
             ·intro a b;simp only[sqA,Act.eval,sqC];exact b
             iterate 2
              apply Flow.calm2 _ _ rfl rfl
              ·intro a b c d;obtain ⟨e,f⟩:=b.rule;go_simp;(try go_ints);exact d
              ·intro a b;simp only[sqA];exact b
             apply Flow.move rfl;go_wp2_with fail;refine (Hp.out _).mono ?_;rintro e w' ⟨rfl,rfl⟩;rw[HP.out];go_wp2_with fail;refine ⟨fun _=>(by first|exact HB1|exact Bl.refl _),?_⟩;apply Flow.mv _ rfl
             ·intro a b;simp only[sqA,Act.eval,sqC];exact b
             iterate 15
              first
               | (apply Flow.pass rfl (by rfl))
               | (apply Flow.calmG _ rfl (by rfl)
                  ·intro a b;obtain ⟨e,f⟩:=b.rule;go_simp;all_goals (try rfl))
              simp only[sqA];try go_ints
             apply Flow.calm2 _ _ rfl rfl
             ·intro a b c d;obtain ⟨e,f⟩:=b.rule;go_simp;(try go_ints);exact d
             ·intro a b;simp only[sqA];exact b
             refine Flow.done ?_;go_wp2_with fail;exact ⟨⟨j+1,hlt,by go_num,by rw[HN.out],hby.drew⟩,by simp[RowKit.intOf]<;>omega⟩
            ·obtain ⟨kb,hkb,rfl,-⟩:∃k:Nat,k<j∧m=(k:Int)∧Lib.hasPrefix r2 (gL ls k)=true:=by
              rcases hli with h|h
              ·omega
              ·exact h
             obtain ⟨ad,e,j1,-⟩:=aB4 (HL.out.bl aIl) (show kb<ls.length by omega);injection e with e;subst e;have hs2:(⟨(gL ls kb).toArray⟩:ByteArray).size=(gL ls kb).length:=Lib.size_mk _;have hkl:(kb:Int)<(ls.length:Int):=(by omega);by_cases aFZ:(gL ls kb).length<l.text.length
             ·have HN:=aLa (show fL ls r2 (j+1)=(j:Int) by rw[HSt.out,if_pos ⟨hp,.inr (by simpa using aFZ)⟩]);clear hp;refine aLs [aLq 0,aLq 1,aLq 2,aLr 3,aLq 4,aLq 5,aLq 6,aLq 7,aLq 8,aLq 9,aLq 10,aLq 11,aLq 12,aLq 13,aLq 14,aLq 15,aLq 16,aLq 17,aLq 18,aLq 19,aLq 20] (by kernel_rfl) ?_;apply Flow.mv _ rfl
              ·intro a b;simp only[sqA,Act.eval,sqC];exact b
              iterate 2
               apply Flow.calm2 _ _ rfl rfl
               ·intro a b c d;obtain ⟨e,f⟩:=b.rule;go_simp;(try go_ints);exact d
               ·intro a b;simp only[sqA];exact b
              apply Flow.move rfl;go_wp2_with fail;refine (Hp.out _).mono ?_;rintro e w' ⟨rfl,rfl⟩;rw[HP.out];go_wp2_with fail;refine ⟨fun _=>(by first|exact HB1|exact Bl.refl _),?_⟩;apply Flow.mv _ rfl
              ·intro a b;simp only[sqA,Act.eval,sqC];exact b
              iterate 15
               first
                | (apply Flow.pass rfl (by rfl))
                | (apply Flow.calmG _ rfl (by rfl)
                   ·intro a b;obtain ⟨e,f⟩:=b.rule;go_simp;all_goals (try rfl))
               simp only[sqA];try go_ints
              apply Flow.calm2 _ _ rfl rfl
              ·intro a b c d;obtain ⟨e,f⟩:=b.rule;go_simp;(try go_ints);exact d
              ·intro a b;simp only[sqA];exact b
              refine Flow.done ?_;go_wp2_with fail;exact ⟨⟨j+1,hlt,by go_num,by rw[HN.out],hby.drew⟩,by simp[RowKit.intOf]<;>omega⟩
             ·have HN:=aLa (show fL ls r2 (j+1)=(kb:Int) by rw[HSt.out,if_neg (fun h=>h.2.elim hm (fun h2=>aFZ (by simpa using h2)))]);clear hp;refine aLs [aLq 0,aLq 1,aLq 2,aLr 3,aLq 4,aLq 5,aLq 6,aLq 7,aLq 8,aLq 9,aLq 10,aLq 11,aLq 12,aLq 13,aLq 14,aLq 15,aLq 16,aLq 17,aLq 18,aLq 19,aLq 20] (by kernel_rfl) ?_;apply Flow.mv _ rfl
              ·intro a b;simp only[sqA,Act.eval,sqC];exact b
              iterate 2
               apply Flow.calm2 _ _ rfl rfl
               ·intro a b c d;obtain ⟨e,f⟩:=b.rule;go_simp;(try go_ints);exact d
               ·intro a b;simp only[sqA];exact b
              apply Flow.move rfl;go_wp2_with fail;refine (Hp.out _).mono ?_;rintro e w' ⟨rfl,rfl⟩;rw[HP.out];go_wp2_with fail;refine ⟨fun _=>(by first|exact HB1|exact Bl.refl _),?_⟩;apply Flow.mv _ rfl
              ·intro a b;simp only[sqA,Act.eval,sqC];exact b
              iterate 15
               first
                | (apply Flow.pass rfl (by rfl))
                | (apply Flow.calmG _ rfl (by rfl)
                   ·intro a b;obtain ⟨e,f⟩:=b.rule;go_simp;all_goals (try rfl))
               simp only[sqA];try go_ints
              apply Flow.calm2 _ _ rfl rfl
              ·intro a b c d;obtain ⟨e,f⟩:=b.rule;go_simp;(try go_ints);exact d
              ·intro a b;simp only[sqA];exact b
              refine Flow.done ?_;go_wp2_with fail;exact ⟨⟨j+1,hlt,by go_num,by rw[HN.out],hby.drew⟩,by simp[RowKit.intOf]<;>omega⟩
          ·obtain rfl:j=ls.length:=(by omega);obtain ⟨m,hm⟩:=aLt (fL ls r2 ls.length);rw[←hm] at hli ⊢;have HM:=aLa (show oO ls r2=m from hm.symm);clear hm;by_cases hm0:m<0
           ·have HS:=aLa (show fT ls t=none by
             have h1:=HM.out;rw[HR3.out] at h1;rw[aIj.out,HR3.out,Q5 aIk.out (by rw[h1];exact hm0)];rfl)
            clear hli;go_wp2_with fail;exact aL0 (v:=.tuple #[.slice none 0 0,.int .i64 0,.int .i64 10]) (by simp[results,Tryz.results265,go_sem]) rfl (E7 (vW HE.out HS.out) (by decide) (w2b.trans aE1))
           ·obtain ⟨kb,hkb,rfl,aEd⟩:∃k:Nat,k<ls.length∧m=(k:Int)∧Lib.hasPrefix r2 (gL ls k)=true:=by
             rcases hli with h|h
             ·omega
             ·exact h
            have hpl:=EW aEd;have htk:=HR.out.texts kb hkb;have hwk:=HR.out.wd kb hkb;obtain ⟨kl,hkl⟩:=aLt ((gL ls kb).length);obtain ⟨wk,aCq⟩:=aLt (eZ ls kb);rw[←aCq] at hwk;have HS2:=aLa (show fT ls t=(fT ls (r2.drop kl)).map ((dn2++[some kb])++·) by
             have h1:=HM.out;rw[HR3.out] at h1;rw[aIj.out,HR3.out,IE HR.out.texts aIk.out h1 hkb,hkl];cases fT ls (List.drop (gL ls kb).length (b2 :: r3))<;>simp)
            have HP2:=aLa (show ∃pre,t=pre++r2.drop kl by
             obtain ⟨pre,hp⟩:=aGU.out;exact ⟨pre++r2.take kl,by rw[aLL,aLK];exact hp⟩)
            have HGo:=aLa (show dT ls gap sp (0,false) (dn2++[some kb])=(at_+wk,true) by rw[RC,←hat.out,aCq]);have HPu:=aLa (show cJ ls gap sp (0,false) (dn2++[some kb])=cJ ls gap sp (0,false) dn++[(kb,at_)] by rw[RA,←hat.out,QL.out]);have hs2:(⟨(gL ls kb).toArray⟩:ByteArray).size=kl:=(by rw[hkl];exact Lib.size_mk _);have hkl2:(kb:Int)<(ls.length:Int):=(by omega);have h1r:(kl:Int)≤(r2.length:Int):=(by omega);have hex:(⟨r2.toArray⟩:ByteArray).extract kl r2.length=⟨(r2.drop kl).toArray⟩:=l9 r2 kl;have hkl1:1≤kl:=(by omega);have hw1:=hwk.1;have hw2:=hwk.2;have HOx:=aLa (fX HOw.out hbx);have HW1:=aLa hw1;clear hli aEd htk hkl hwk hw1 aCq;go_upto_region 23 with (at_builtin;refine aQ (w1:=w2) rfl (.tmp 87) (.tmp 91) 300 rfl 304 (.agg #[.int .i64 0,.int .i64 0]) 2 16 Tryz.underlying300 L4 rfl (by omega) w2.heap.size _ pn (cN (cJ ls gap sp (0,false) dn)) rfl (aE1.alloc _) (Nat.le_refl _) ?hBr (HOx.out.alloc _) (some ⟨wx.heap.size,0,none⟩) 1 1 [.int .i64 kb,.int .i64 at_] rfl ((Blk.new _ _ _).reads 1 2 rfl) ?h1 ?c1 ?c2 ?_);case hBr=>have:=aE1.le;first|omega|(simp;omega)
            case h1=>simp[Value.oneCell']
            case c1=>unfold maxLen;omega
            case c2=>omega
            intro v' w8 cF hb8 hg8;have K5:w8.ownsRow w2.heap.size 304 2 v' (cJ ls gap sp (0,false) (dn2++[some kb])).length (cN (cJ ls gap sp (0,false) (dn2++[some kb]))):=by
             rw[HPu.out,EZ,aLy,←HPn.out];exact cF
            have HO9:=aLa K5;have HB8:=aLa hb8;obtain ⟨ad,e,j1,j2⟩:=aB4 (HL.out.bl hb8) hkb;injection e with e;subst e;rw[HW1.out] at j2;have k8:=(w21.bl hb8).all5;clear cF K5 hg8 k1;go_wp2_with fail;exact ⟨⟨dn2++[some kb],r2.drop kl,rfl,by rw[HGo.out];simp,HS2,HP2,by rw[aLy,aLJ];simp;omega,aLa (.inr ⟨by rw[HGo.out],by rw[HGo.out];show 1≤at_+wk;omega⟩),HB8.out,HO9.out⟩,by simp[aB3,ByteArray.size];omega⟩
theorem IR (W H:Nat) (w:World) (hs:aE W H=0) :
 Calls Tryz.prog 34 #[W,H] w fun e w'=>
  ∃g,e=.returned (.tuple #[.agg #[W,H,.slice (some ⟨g,0,none⟩) (W*H) (W*H)],.int .i64 0])∧w.heap.size≤g∧Blk w' g 4 (lD (W*H) fun _=>false)∧Bl w w':=by
 have hz':=aL hs;have hWH:(W:Int)*(H:Int)=((W*H:Nat):Int):=(by simp);have h1:(0:Int)≤(W:Int)*(H:Int):=(by omega);have h2:(W:Int)*(H:Int)≤1048576:=(by omega);have hN:W*H≤1048576:=(by omega);have hmk:=run_make_row' (P:=Tryz.prog) 41 4 (.bool false) 1 Tryz.underlying41 sS rfl .i64 .i64 (W*H) (by omega) (by omega);rw[←hWH] at hmk;have hq:(aE W H != 0)=false:=(by simp[hs]);have HS:=aLa hs;have HWH:=aLa hWH;clear hs hWH
 go_in
 go_wp2_with (go_at_call 102;refine (d9 _ _ _).mono ?_;rintro e w1 ⟨rfl,rfl⟩);rw[U2];refine aL0 (v:=.tuple #[.agg #[W,H,.slice (some ⟨w.heap.size+1,0,none⟩) (W*H) (W*H)],.int .i64 0]) (by simp[results,Tryz.results34,go_sem]) rfl ⟨_,rfl,?_,?_,?_⟩
 ·simp
 ·have hb:=Blk.new (w.alloc (.cells #[W,H,.slice (some ⟨w.heap.size+1,0,none⟩) (W*H) (W*H)] 43)) 4 (lD (W*H) fun _=>false);simpa using hb
 ·repeat' (first|exact Bl.refl _|refine Bl.drew ?_|refine Bl.setCell ?_ (by simp) _|refine Bl.alloc ?_ _)
def E8 (ls:List Ltr) (t:List UInt8):List (Option Nat):=(fT ls t).getD []
def nH (ls:List Ltr) (gap sp:Nat) (t:List UInt8):Nat:=(dT ls gap sp (0,false) (E8 ls t)).1
def jN (ls:List Ltr) (ht gap sp:Nat) (t:List UInt8):Int:=if iC ls t=0 then aE (nH ls gap sp t) ht else iC ls t
def oA (ls:List Ltr) (ht gap sp:Nat) (t:List UInt8):List Bool:=eS (nH ls gap sp t) ht (sO ls (cJ ls gap sp (0,false) (E8 ls t)))
theorem mA {ls:List Ltr} {t:List UInt8} {l:List (Option Nat)} (h:fT ls t=some l):E8 ls t=l:=by unfold E8;rw[h];rfl
theorem E9 {ls : List Ltr} {gap sp : Nat} : ∀ (l : List (Option Nat)) (s : Spot), (∀ k, some k ∈ l → k < ls.length) → ∀ p ∈ cJ ls gap sp s l, p.1 < ls.length
 |[],_,_,p,hp=>by cases hp
 |none :: l,_,h,p,hp=>E9 l _ (fun k hk=>h k (List.mem_cons_of_mem _ hk)) p hp
 |some k :: l,s,h,p,hp=>by
  rcases aLN.1 hp with rfl|hp
  ·exact h k (List.mem_cons_self ..)
  ·exact E9 l _ (fun k hk=>h k (List.mem_cons_of_mem _ hk)) p hp
def SetGRes (ls:List Ltr) (ht gap sp:Nat) (t:List UInt8) (w:World) (e:Ending) (w':World):Prop:=∃a b R m d,e=.returned (.tuple #[.agg #[.int .i64 a,.int .i64 b,.slice R m d],.int .i64 (jN ls ht gap sp t)]) ∧
 Res w.heap.size w' (jN ls ht gap sp t) (nH ls gap sp t) ht ((oA ls ht gap sp t).map .bool) a b R m d∧Bl w w'
theorem aAx (nm:List UInt8) (ht gap sp:Nat) (adl:Addr) (c:Nat) (ls:List Ltr) (t:List UInt8) (w:World) (hL:LtrsAt w (some adl) ls) (hR:Right ht gap sp ls) (htl:t.length≤9223372036854775807) (hv:SubOk w) :
 Calls Tryz.prog 209 #[.agg #[nm,ht,gap,sp,.slice (some adl) ls.length c],t] w (SetGRes ls ht gap sp t w):=by
 let w2:=((w).alloc (.cells #[nm,ht,gap,sp,.slice (some adl) ls.length c] 46)).alloc (.cells #[.int .i64 0,.int .i64 0,.slice none 0 0] 43);obtain ⟨w2b,w21,w22⟩:=aLi (x:=w2) w _ _ _ _ rfl;have lw2:w2.heap.size=w.heap.size+2:=(by simp[w2]);have HL:=aLa (hL.bl w2b);have HR:=aLa hR;have hs:=IQ nm ht gap sp adl c ls t w2 (hL.bl w2b) hR htl (hv.bl w2b);have Hs:=aLa hs;have k1:=w21.all5;have kz:=w22.all3;clear hL hR hs hv
 go_in
 go_wp2_with fail;refine Hs.out.mono ?_;rintro e w3 ⟨R,m,d,wd,err,rfl,aBG,wW,hok,hb3⟩;clear_value w2;have HOk:=aLa hok;have aDK:=aLa aBG;have N2:=hb3.le;clear k1 kz Hs wW hok aBG;by_cases hz:err=0;case neg=>
  have hq:(err != 0)=true:=(by simp[hz]);have hq2:(err==0)=false:=(by simp[hz]);have HZ:=aLa hz;have hse:jN ls ht gap sp t=err:=by
   unfold jN;rw[←aDK.out,if_neg hz]
  have HSe:=aLa hse;have kz:=(w22.bl hb3).all3;clear hz hse;go_wp2_with fail;refine aL0 (v:=.tuple #[.agg #[.int .i64 0,.int .i64 0,.slice none 0 0],err]) (by simp[results,Tryz.results209,go_sem,kz]) rfl ⟨0,0,none,0,0,by rw[HSe.out],by rw[HSe.out];exact Res.zero _ _ _ _ _ HZ.out,?_⟩;exact (((w2b.trans hb3).setCell (by simp) _).setCell (by simp) _).setCell (by simp) _
 case pos=>
  subst hz;obtain ⟨-,l,hl⟩:=IG aDK.out.symm;obtain ⟨rfl,rfl,hmt,hrd⟩:=HOk.out rfl l hl;have hin:=E9 (gap:=gap) (sp:=sp) l (0,false) (OL hl);have BX:=pM (ls:=ls) (gap:=gap) (sp:=sp) l (0,false);obtain ⟨W,hW⟩:=aLt ((dT ls gap sp (0,false) l).1);obtain ⟨pl,hpl⟩:=aLt (cJ ls gap sp (0,false) l);have hwo:nH ls gap sp t=W:=(by unfold nH;rw[mA hl,hW]);have hse:jN ls ht gap sp t=aE W ht:=(by unfold jN;rw[←aDK.out,if_pos rfl,hwo]);have hsc:oA ls ht gap sp t=eS W ht (sO ls pl):=(by unfold oA;rw[hwo,mA hl,hpl]);rw[←hpl] at hrd hin BX hmt ⊢;rw[←hW] at BX ⊢;obtain ⟨HRd,HIn,aJK,HWo,HSe,HSc⟩:=aLe hrd hin BX hwo hse hsc;clear hrd hin BX hwo hse hsc hl hpl hW;have k1:=(w21.bl hb3).all5;by_cases hse:aE (W:Int) (ht:Int)=0;case neg=>
   have hq:(aE (W:Int) (ht:Int) != 0)=true:=(by simp[hse]);have hq2:(aE (W:Int) (ht:Int)==0)=false:=(by simp[hse]);have Hb:=aLa (G0 (W:Int) (ht:Int) w3 hse);have HZ:=aLa hse;clear hse;go_wp2_with fail;refine Hb.out.mono ?_;rintro e w4 ⟨rfl,hb4⟩;clear k1;go_upto_region 5 with fail;obtain ⟨w5,hw5⟩:=aLt (w4.alloc (.cells #[.int .i64 0,.int .i64 0,.slice none 0 0] 43));have aBH:=aLn hw5;rw[←hw5];clear hw5;have hb5:=hb3.trans (hb4.trans aBH);have kz:=(w22.bl hb5).all3;go_wp2_with fail;refine aL0 (v:=.tuple #[.agg #[.int .i64 0,.int .i64 0,.slice none 0 0],.int .i64 (aE (W:Int) (ht:Int))]) (by simp[results,Tryz.results209,go_sem,kz]) rfl ⟨0,0,none,0,0,by rw[HSe.out],by rw[HSe.out];exact Res.zero _ _ _ _ _ HZ.out,?_⟩;exact (((w2b.trans hb5).setCell (by simp) _).setCell (by simp) _).setCell (by simp) _
  case pos=>
   have hsz:=aL hse;have hb:=IR W ht w3 hse;have hWH:W*ht≤1048576:=by
    have h1:=hsz.2.2.2.2;have h2:((W*ht:Nat):Int)=(W:Int)*(ht:Int):=(by simp);omega
   have hW4:1≤W∧W≤4000:=(by omega);have hH4:1≤ht∧ht≤4000:=(by omega);have Hb:=aLa hb;have HZ:=aLa hse;clear hse hb hsz;go_wp2_with fail;refine Hb.out.mono ?_;rintro e w4 ⟨g,rfl,hg3,hbg,hb4⟩;clear k1;go_upto_region 5 with fail;obtain ⟨w5,hw5⟩:=aLt (w4.alloc (.cells #[.int .i64 W,ht,.slice (some ⟨g,0,none⟩) (W*ht) (W*ht)] 43));obtain ⟨p,hp⟩:=aLt w4.heap.size;have bp5:=aLp hw5 hp;have aBH:=aLn hw5;have hpg:p≠g:=(by have:=hbg.lt;omega);have hp3:w3.heap.size≤p:=(by have:=hb4.le;omega);rw[←hw5,←hp];clear hw5 hp;have aF0:=hb4.trans aBH;have bg5:Blk w5 g 4 (lD (W*ht) fun k=>sO ls (pl.take 0) (k % W) (k / W)):=hbg.bl aBH;have HG:=aLa bg5;clear hbg bg5;go_wp2_with fail;go_loopw [36] (fun u wr=>∃i:Nat,i≤pl.length∧u=.int .i64 i∧Bl w3 wr∧Blk wr p 43 #[.int .i64 W,ht,.slice (some ⟨g,0,none⟩) (W*ht) (W*ht)]∧Blk wr g 4 (lD (W*ht) fun k=>sO ls (pl.take i) (k % W) (k / W))) (fun u _=>pl.length-(RowKit.intOf u).toNat);case atStart=>exact ⟨0,Nat.zero_le _,rfl,aF0,bp5,HG.out⟩
   case round=>
    obtain ⟨i,hi,rfl,hbr,hbp,hbg⟩:=hrel;by_cases hlt:i<pl.length
    ·have hgi:pl[i]? = some pl[i]:=aLv hlt;obtain ⟨x,hx⟩:=aLt (pl[i]);rw[←hx] at hgi;obtain ⟨k,at_⟩:=x;have hk:k<ls.length:=HIn.out _ (List.mem_of_getElem? hgi);have hae:at_+eZ ls k≤W:=aJK.out _ (List.mem_of_getElem? hgi);obtain ⟨adp,hR,hcp⟩:=(HRd.out.bl hbr).2 (by omega);subst hR;have c0:=hcp (i*2+0) _ (by rw[IH hgi 0 (by omega)];rfl);have c1:=hcp (i*2+1) _ (by rw[IH hgi 1 (by omega)];rfl);rw[Nat.add_zero] at c0;rw[←cY,Addr.add_succ'] at c1;have htk:pl.take (i+1)=pl.take i++[(k,at_)]:=(by rw[aMc,hgi];rfl);have hcg:lD (W*ht) (aEr (fun j=>sO ls (pl.take i) (j % W) (j / W)) (Q6 ls k) (eZ ls k) ht at_ 0 W)=lD (W*ht) (fun j=>sO ls (pl.take (i+1)) (j % W) (j / W)):=iL fun j hj=>by
      rw[htk,yI,ON];have hjy:j / W<ht:=Nat.div_lt_of_lt_mul hj;show (sO ls (pl.take i) (j % W) (j / W)||(aAk (eZ ls k) ht at_ 0 (j % W) (j / W)&&pix (Q6 ls k) (eZ ls k) (j % W-at_) (j / W-0)))=(sO ls (pl.take i) (j % W) (j / W)||(decide (at_≤j % W)&&(decide (j % W<at_+eZ ls k)&&pix (Q6 ls k) (eZ ls k) (j % W-at_) (j / W))))
      congr 1
      rw[Nat.sub_zero,←Bool.and_assoc]
      congr 1
      unfold aAk;rw[Bool.eq_iff_iff];simp;omega
     obtain ⟨-,-,-,-,-,-,GQ⟩:=aB6 (HL.out.bl hb3) hk;have hwk:=HR.out.wd k hk;rw[HR.out.ms k hk] at GQ;obtain ⟨wk,aCq⟩:=aLt (eZ ls k);obtain ⟨la,hla⟩:=aLt ((ls[k]'hk).A);obtain ⟨lc,hlc⟩:=aLt ((ls[k]'hk).c);rw[←aCq] at GQ hae hcg;rw[←hla] at GQ;have aJL:1≤wk∧wk≤64:=(by rw[aCq];exact hwk.2);have QL:∀wy,Bl w3 wy→Blk wy g 4 (lD (W*ht) fun j=>sO ls (pl.take i) (j % W) (j / W))→Calls Tryz.prog 266 #[.agg #[.int .i64 W,ht,.slice (some ⟨g,0,none⟩) (W*ht) (W*ht)],.agg #[wk,ht,.slice la (wk*ht) lc],at_,.int .i64 0] wy (PutRes w3 g (lD (W*ht) fun j=>sO ls (pl.take (i+1)) (j % W) (j / W)) wy):=fun wy h1 h2=>by
      have h:=aCO W ht wk ht at_ 0 g (W*ht) la lc (Q6 ls k) (fun j=>sO ls (pl.take i) (j % W) (j / W)) w3 wy h1 hg3 h2 GQ hW4.2 hH4.2 hWH hae (by omega) aJL.1;rw[hcg] at h;exact h
     obtain ⟨aJM,HBg,HW2,HLa,HLc⟩:=aLd QL hbg aCq hla hlc;clear hgi hx hcp htk hcg GQ hwk aCq hla hlc QL hbg;go_upto_region 10 with fail;obtain ⟨w6,hw6⟩:=aLt (wr.alloc (.cells #[.int .i64 k,at_] 304));obtain ⟨q,hq⟩:=aLt wr.heap.size;have bq:=aLp hw6 hq;have hb6:=aLn hw6;rw[←hw6,←hq];clear hw6 hq c0 c1;have aGV:=hbr.trans hb6;have aIm:=hbp.bl hb6;have aJN:=aLa (HBg.out.bl hb6);have k1:=(w21.bl (hb3.trans aGV)).all5;have kq:=bq.all2;have k7:=aIm.all3;obtain ⟨ad2,e,-,j2,j3,j4,-⟩:=aB6 (HL.out.bl (hb3.trans aGV)) hk;injection e with e;subst e;rw[(HR.out.wd k hk).1,←HW2.out] at j2;rw[HR.out.hts k hk] at j3;rw[HR.out.ms k hk,←HW2.out,←HLa.out,←HLc.out] at j4;have hkl:(k:Int)<(ls.length:Int):=(by omega);refine aA [(true,0),(true,1),(true,2),(true,3),(true,4),(true,5),(true,6),(true,7),(true,8),(true,9),(false,10)] (fun i=>i==10) (by kernel_rfl) (by kernel_rfl) (by kernel_rfl) (by kernel_rfl) ?_
     iterate 10
      apply Flow.calm2 _ _ rfl rfl
      ·intro a b c d;obtain ⟨e,f⟩:=b.rule;go_simp;(try go_ints);exact d
      ·intro a b;simp only[sqA];exact b
     refine Flow.tail _ rfl ?_;go_wp2_with fail;refine (aJM.out _ aGV.drew aJN.out.drew).mono ?_;rintro e wz ⟨rfl,hz1,hz2,-,hz4⟩;obtain ⟨HZ1,HZ2,HZ4⟩:=aLb hz1 hz2 (hz4 p _ _ hpg aIm.drew);clear hz1 hz2 hz4 k1 kq k7 j2 j3 j4;go_wp2_with fail;exact ⟨⟨i+1,hlt,by go_num,HZ2.out,HZ4.out,HZ1.out⟩,by simp[RowKit.intOf]<;>omega⟩
    ·obtain rfl:i=pl.length:=(by omega);rw[aLC] at hbg;have HBg:=aLa hbg;have k7:=hbp.all3;have kz:=(w22.bl (hb3.trans hbr)).all3;have hpz:¬(p=w.heap.size+1):=(by omega);clear hbg;go_wp2_with fail;refine aL0 (v:=.tuple #[.agg #[.int .i64 W,ht,.slice (some ⟨g,0,none⟩) (W*ht) (W*ht)],.int .i64 0]) (by simp[results,Tryz.results209,go_sem,kz]) rfl ⟨W,ht,_,_,_,by rw[HSe.out,HZ.out],?_,?_⟩
     ·rw[HSe.out,HWo.out,HSc.out];have h:=HBg.out.tabReadsB;have e:(List.range (W*ht)).map (fun k=>sO ls pl (k % W) (k / W))=eS W ht (sO ls pl):=rfl;rw[e] at h;have hn:∀ad,some (⟨g,0,none⟩:Addr)=some ad→w.heap.size+2≤ad.block:=fun ad h=>(by injection h with h;subst h;show w.heap.size+2≤g;omega);refine Res.page HZ.out (((h.store hn (by simp) _).store hn (by simp) _).store hn (by simp) _) ?_;intro ad h;have:=hn ad h;omega
     ·exact (((w2b.trans (hb3.trans hbr)).setCell (by simp) _).setCell (by simp) _).setCell (by simp) _
end Go.Proofs.YtllefinciimffaaGreatDoor
