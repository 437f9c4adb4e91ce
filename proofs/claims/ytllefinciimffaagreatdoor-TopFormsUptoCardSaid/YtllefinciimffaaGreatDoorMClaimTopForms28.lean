import Derived.Test.YtllefinciimffaaGreatDoorMClaimTopForms27
set_option maxHeartbeats 20000000
set_option maxRecDepth 100000
namespace Go.Proofs.YtllefinciimffaaGreatDoor
open Go.RowKit Go.Shelf
def aH5 (n:Nat):Value:=.int .i64 (n:Int)
theorem PH {w:World} {ad:Addr} {m:Nat} {rs:List Nat} {i n:Nat} (h:Reads w 1 (some ad) m (aZ rs)) (hi:rs[i]? = some n):w.cell? (ad.add i)=some (.int .i64 (n:Int)):=by
 have hlt:=(aLw.1 hi).1;have hl:(aZ rs).length=rs.length:=dH rs;have hm:=h.1;obtain ⟨ad',e,hc⟩:=h.2 (by omega);obtain rfl:=aLZ e;refine hc i _ ?_;unfold aZ;rw[aLG,hi];rfl
set_option maxRecDepth 1000000 in
theorem TB (s:List UInt8) (w:World) (hl:s.length≤1048576) (hT:SpOk w) :
 Calls Tryz.prog 329 #[s] w fun e w'=>e=.returned (.tuple #[.string ⟨(nP s).1.toArray⟩,.int .i64 (nP s).2])∧Bl w w':=by
 have HT:=aLa hT;have Hle:=aLa (M4 s w hl);clear hT
 go_in
 go_wp2_with fail;refine Hle.out.mono ?_;rintro e w1 ⟨R,m,d,rfl,wW,AX,hb1⟩;cases hok:lU s with
 |false=>obtain ⟨rfl,rfl⟩:=wW hok;have HR:=aLa (cAb (s:=s) (by unfold BN;rw[hok,if_neg (by decide)]));clear hok wW AX Hle;go_wp2_with fail;exact aL0 (v:=.tuple #[.string ⟨#[]⟩,.int .i64 2]) (by simp[results,Tryz.results329,go_sem]) rfl ⟨by rw[HR.out],hb1⟩
 |true=>
  obtain ⟨hm,hrd,hmd⟩:=AX hok;have aFo:BN s=(GS (rD s)).map txt:=(by unfold BN;rw[hok,if_pos rfl]);obtain ⟨rs,hrs⟩:=aLt (rD s);rw[←hrs] at hm hrd aFo;have cL:=XI s s.length;have hml:m≤1048577:=by
   rw[hm,hrs];unfold rD;rw[aLy,aLR];omega
  obtain ⟨Z3,HRd,HM,HB1⟩:=aLc aFo hrd hm hb1;by_cases h9:m % 10=9
  ·obtain ⟨ad,u0,rfl,-,-⟩:=hrd.at_ (k:=0) (by omega);have hm9:(m:Int) % 10=9:=(by omega);have HM9:=aLa h9;clear wW AX hok hrd aFo hrs cL hm hb1 Hle h9;have hmm:=@run_makeMap Tryz.prog;have hmt:=Tryz.underlying371;go_wp2_with fail;obtain ⟨b0,hb0⟩:=aLt w1.heap.size;have hm0:MapL aCe aH5 (w1.alloc (.map #[] 0)) b0 ([]:List (List UInt8 × Nat)):=(by rw[hb0];exact MapL.new _);have hb2:Bl w1 (w1.alloc (.map #[] 0)):=(Bl.refl _).alloc _;have HB0:=aLa (show w1.heap.size≤b0 by rw[hb0];exact Nat.le_refl _);rw[←hb0];generalize w1.alloc (.map #[] 0)=w2 at hm0 hb2 ⊢;clear hb0 hmm;refine (DJ _ (HT.out.bl (HB1.out.trans hb2))).mono ?_;rintro e w3 ⟨gp,rfl,hr3,hb3⟩;have hm3:=hm0.bl hb3;have HGb:=aLa (show gp≠b0 from by
    obtain ⟨es,c,h1⟩:=hm3.block;exact aCf h1 hr3 (by decide))
   have HSt:=aLa (And.intro (hb2.trans hb3) (And.intro hr3 hm3));clear hm0 hb2 hr3 hb3 hm3;go_wp2_with fail;go_loopw [35] (fun v wr=>∃d:Nat,d≤44∧v=.int .i64 d∧Bl w1 wr∧Reads wr 1 (some ⟨gp,0,none⟩) rH.length (bE rH)∧MapL aCe aH5 wr b0 (aBd d)) (fun v _=>44-(RowKit.intOf v).toNat);case atStart=>exact ⟨0,Nat.zero_le _,rfl,HSt.out.1,HSt.out.2.1,HSt.out.2.2⟩
   case round=>
    rename World=>wr;obtain ⟨k,hk,rfl,hbr,hrr,hmr⟩:=hrel;by_cases hlt:k<44
    ·obtain ⟨ad',ea,c0⟩:=kS hrr (J0 k hlt);obtain rfl:=aLZ ea;rw[iT] at c0;have hkI:(k:Int)<(rH.length:Int):=(by show (k:Int)<44;omega);obtain ⟨w10,hu1,aEg,aDU⟩:=hmr.update (gE (P:=Tryz.prog) Tryz.underlying9) hmt (cI k) k;obtain ⟨P,hP⟩:=aLt (cI k);have hst:aBd (k+1)=(cI k,k) :: aBd k:=rfl;rw[←hst] at aEg;have aKk:(Instr.mapUpdate 371 (.map (some b0)) (.string ⟨P.toArray⟩) (.int .i64 (k:Int))).run Tryz.prog wr=.ok () w10:=(by rw[hP];exact hu1);rw[←hP] at c0;obtain ⟨aHr,aHs,aHt⟩:=aLb aEg (aDU.2.2 w1 hbr HB0.out) (qT hrr (aDU.1 gp HGb.out));clear hu1 aEg aDU hbr hrr hmr hP hst;go_wp2_with fail;exact ⟨⟨k+1,by omega,by go_num,aHs.out,aHt.out,aHr.out⟩,by simp[RowKit.intOf]<;>omega⟩
    ·obtain rfl:k=44:=(by omega);have hkI:¬((44:Int)<(rH.length:Int)):=(by show ¬((44:Int)<44);decide);have HMp:=aLa hmr;have HBr:=aLa hbr;clear hmr hbr hrr;go_wp2_with fail;have aEh:=Tryz.underlying372;go_loopw [9,10] (fun s9 s10 wx=>∃(j:Nat) (ks:List Nat),10*j≤m+1∧s10=.int .i64 ((10*j:Nat):Int)∧vR rs j=some ks∧s9=.string ⟨(txt ks).toArray⟩∧Bl wr wx) (fun _ v _=>m+10-(RowKit.intOf v).toNat);case atStart=>exact ⟨0,[],by omega,rfl,rfl,rfl,Bl.refl _⟩
     case round=>
      rename World=>wx;obtain ⟨j,ks,hj,rfl,hps,rfl,hbx⟩:=hrel;obtain ⟨hkl,aDX⟩:=XO hps;obtain ⟨i,hi⟩:=aLt (10*j);rw[←hi] at hj ⊢;obtain ⟨HPs,HBx,HI,aKv⟩:=aLc hps hbx hi aDX;have htl:=M6 ks;obtain ⟨T,hT⟩:=aLt (txt ks);rw[←hT] at htl ⊢;have HTx:=aLa hT;have hTl:T.length≤1048577:=(by omega);clear hps hbx hT aDX;by_cases hlt:i<m
      ·have hm9:=HM9.out;have hi9:i+9≤m:=(by omega);have hid:i+9≤d:=(by omega);have aGk:(i:Int)<(m:Int):=(by omega);have HKl:=aLa hkl;have HTl:=aLa htl;clear hi hkl htl hm9;go_upto_region 15 with fail;go_wp2_with fail;try rw[show i+9-i=9 from Nat.add_sub_cancel_left _ _]
       go_loopw [11,56] (fun s11 s56 wy=>∃x:Nat,x≤9∧s56=.int .i64 (x:Int)∧s11=.string ⟨(pat ((rs.drop i).take x)).toArray⟩∧((rs.drop i).take x).all (fun n=>n==1||n==3)=true∧Bl wx wy) (fun _ v _=>9-(RowKit.intOf v).toNat);case atStart=>exact ⟨0,Nat.zero_le _,rfl,rfl,rfl,Bl.refl _⟩
       case round=>
        rename World=>wy;obtain ⟨x,hx,rfl,rfl,gA,hby⟩:=hrel;have HAl:=aLa gA;have HBy:=aLa hby
        by_cases hxt:x<9
        ·have aKw:i+x<rs.length:=(by have:=HM.out;omega);obtain ⟨n,hn⟩:∃n,rs[i+x]? = some n:=⟨_,aLv aKw⟩;have hcx:=PH (HRd.out.bl (HBr.out.trans (HBx.out.trans hby))) hn;have hcx2:wy.cell? ((ad.add i).add x)=some (.int .i64 (n:Int)):=(by rw[cY];exact hcx);have hgx:(rs.drop i)[x]? = some n:=(by rw[aLI];exact hn);have HTk:=aLa (show (rs.drop i).take (x+1)=(rs.drop i).take x++[n] by rw[aMc,hgx];rfl);have hpt:pat ((rs.drop i).take (x+1))=pat ((rs.drop i).take x)++[if n=3 then 119 else 110]:=(by rw[HTk.out];unfold pat;rw[aLS];rfl);obtain ⟨M,hM⟩:=aLt (pat ((rs.drop i).take x));have hMl:M.length≤9:=(by rw[hM];unfold pat;rw[aLz,aLA];omega);rw[←hM] at hpt ⊢;have hsM:(⟨M.toArray⟩:ByteArray).size=M.length:=Lib.size_mk M;have HPt:=aLa hpt;have HGx:=aLa hgx;clear hpt hM hn hgx gA hby
         by_cases h1:n=1
         ·obtain rfl:n=1:=h1;have HSt:=aLa (show pat ((rs.drop i).take (x+1))=M++[110] from HPt.out);have aHy:=aLa (show ((rs.drop i).take (x+1)).all (fun n=>n==1||n==3)=true by rw[HTk.out,List.all_append,HAl.out];rfl);have hoM:¬(9223372036854775807<M.length+1):=(by omega);have sP:(⟨M.toArray⟩:ByteArray)++⟨#[110]⟩=⟨(M++[110]).toArray⟩:=cE M [110];clear HPt;go_upto_region 20 with fail;obtain ⟨K,hK⟩:=aLt wy.heap.size;have q0:MapL (fun z:Int=>.int .i64 z) aCe (wy.alloc (.map #[] 0)) K ([]:List (Int × List UInt8)):=(by rw[hK];exact MapL.new _);have q1:Bl wy (wy.alloc (.map #[] 0)):=(Bl.refl _).alloc _;have hKl:wy.heap.size≤K:=(by rw[hK];exact Nat.le_refl _);have hmk:∀t,(Instr.makeMap t none).run Tryz.prog wy=.ok (.map (some K)) (wy.alloc (.map #[] 0)):=fun t=>(by rw[hK];exact run_makeMap t wy);generalize wy.alloc (.map #[] 0)=w20 at q0 q1 hmk;obtain ⟨w21,q2,q3,q4⟩:=q0.update (qL (P:=Tryz.prog) Tryz.underlying3) aEh 1 [110];obtain ⟨w22,q5,q6,q7⟩:=q3.update (qL (P:=Tryz.prog) Tryz.underlying3) aEh 3 [119];have q2':(Instr.mapUpdate 372 (.map (some K)) (.int .i64 1) (.string ⟨#[110]⟩)).run Tryz.prog w20=.ok () w21:=q2;have q5':(Instr.mapUpdate 372 (.map (some K)) (.int .i64 3) (.string ⟨#[119]⟩)).run Tryz.prog w21=.ok () w22:=q5;have q8:=q6.lookup1 (qL (P:=Tryz.prog) Tryz.underlying3) aEh (Tryz.zeroValue9 w22) 1;have q8':(Instr.lookup 372 (.map (some K)) (.int .i64 1) false).run Tryz.prog w22=.ok (.string ⟨#[110]⟩) w22:=q8;have aHz:=aLa (HBy.out.trans (q7.2.2 wy (q4.2.2 wy q1 hKl) hKl));clear q0 q1 q2 q3 q4 q5 q6 q7 q8 hK hKl;go_wp2_with fail;exact ⟨⟨x+1,by omega,by go_num,by rw[HSt.out,←sP],aHy.out,aHz.out⟩,by simp[RowKit.intOf]<;>omega⟩
         ·by_cases h3:n=3
          ·obtain rfl:n=3:=h3;have HSt:=aLa (show pat ((rs.drop i).take (x+1))=M++[119] from HPt.out);have aHy:=aLa (show ((rs.drop i).take (x+1)).all (fun n=>n==1||n==3)=true by rw[HTk.out,List.all_append,HAl.out];rfl);have hoM:¬(9223372036854775807<M.length+1):=(by omega);have sP:(⟨M.toArray⟩:ByteArray)++⟨#[119]⟩=⟨(M++[119]).toArray⟩:=cE M [119];clear HPt;go_upto_region 20 with fail;obtain ⟨K,hK⟩:=aLt wy.heap.size;have q0:MapL (fun z:Int=>.int .i64 z) aCe (wy.alloc (.map #[] 0)) K ([]:List (Int × List UInt8)):=(by rw[hK];exact MapL.new _);have q1:Bl wy (wy.alloc (.map #[] 0)):=(Bl.refl _).alloc _;have hKl:wy.heap.size≤K:=(by rw[hK];exact Nat.le_refl _);have hmk:∀t,(Instr.makeMap t none).run Tryz.prog wy=.ok (.map (some K)) (wy.alloc (.map #[] 0)):=fun t=>(by rw[hK];exact run_makeMap t wy);generalize wy.alloc (.map #[] 0)=w20 at q0 q1 hmk;obtain ⟨w21,q2,q3,q4⟩:=q0.update (qL (P:=Tryz.prog) Tryz.underlying3) aEh 1 [110];obtain ⟨w22,q5,q6,q7⟩:=q3.update (qL (P:=Tryz.prog) Tryz.underlying3) aEh 3 [119];have q2':(Instr.mapUpdate 372 (.map (some K)) (.int .i64 1) (.string ⟨#[110]⟩)).run Tryz.prog w20=.ok () w21:=q2;have q5':(Instr.mapUpdate 372 (.map (some K)) (.int .i64 3) (.string ⟨#[119]⟩)).run Tryz.prog w21=.ok () w22:=q5;have q8:=q6.lookup1 (qL (P:=Tryz.prog) Tryz.underlying3) aEh (Tryz.zeroValue9 w22) 3;have q8':(Instr.lookup 372 (.map (some K)) (.int .i64 3) false).run Tryz.prog w22=.ok (.string ⟨#[119]⟩) w22:=q8;have aHz:=aLa (HBy.out.trans (q7.2.2 wy (q4.2.2 wy q1 hKl) hKl));clear q0 q1 q2 q3 q4 q5 q6 q7 q8 hK hKl;go_wp2_with fail;exact ⟨⟨x+1,by omega,by go_num,by rw[HSt.out,←sP],aHy.out,aHz.out⟩,by simp[RowKit.intOf]<;>omega⟩
          ·have HR:=aLa (cAb (s:=s) (by
            have hg:gP rs j=none:=by
             unfold gP;rw[if_neg];rintro ⟨ha,-⟩;rw[←HI.out] at ha;have hx9:((rs.drop i).take 9)[x]? = some n:=(by rw[aLH hxt];exact HGx.out);have:=aLO.1 ha n (List.mem_of_getElem? hx9);simp[h1,h3] at this
            rw[Z3.out,mW (by rw[←HI.out,←HM.out];exact hlt) hg];rfl))
           have n1:¬((n:Int)=1):=(by omega);have n3:¬((n:Int)=3):=(by omega);have n1b:((n:Int)==1)=false:=(by rw[aLU];exact n1);have n3b:((n:Int)==3)=false:=(by rw[aLU];exact n3);clear HPt;have key:¬(((n:Int) != 1)=false∨((n:Int) != 3)=false):=by
            rintro (h|h)
            ·rw[bne_eq_false_iff_eq] at h;exact n1 h
            ·rw[bne_eq_false_iff_eq] at h;exact n3 h
           have Key:=aLa key;clear key;go_wp2_with fail
           all_goals first
            | (exact aL0 (v:=.tuple #[.string ⟨#[]⟩,.int .i64 2]) (by simp[results,Tryz.results329,go_sem]) rfl ⟨by rw[HR.out],HB1.out.trans (HBr.out.trans (HBx.out.trans HBy.out))⟩)
            | exact absurd (by assumption) Key.out
        ·obtain rfl:x=9:=(by omega);obtain ⟨G,hG⟩:=aLt ((rs.drop i).take 9);rw[←hG] at gA ⊢;have hGl:G.length≤9:=(by rw[hG,aLA];omega);obtain ⟨M,hM⟩:=aLt (pat G);rw[←hM];have QQ:=(HMp.out.bl (HBx.out.trans hby)).lookup2 (gE (P:=Tryz.prog) Tryz.underlying9) hmt (Tryz.zeroValue3 wy) M;rw[XN] at QQ;have hgp:gP rs j=if (G.all fun n=>n==1||n==3)=true∧(i+9<rs.length→rs.getD (i+9) 0=1) then (List.range 44).find? fun k=>cI k==M else none:=by
          unfold gP;rw[←HI.out,←hG,←hM]
         have HGp:=aLa hgp;have HG1:=aLa gA;clear hG hM hgp gA;cases hf:(List.range 44).find? fun k=>cI k==M with
         |none=>
          rw[hf] at QQ;have hlk:(Instr.lookup 371 (.map (some b0)) (.string ⟨M.toArray⟩) true).run Tryz.prog wy=.ok (.tuple #[.int .i64 0,.bool false]) wy:=QQ;have HR:=aLa (cAb (s:=s) (by
           have hg:gP rs j=none:=by
            rw[HGp.out];split
            ·exact hf
            ·rfl
           rw[Z3.out,mW (by rw[←HI.out,←HM.out];exact hlt) hg];rfl))
          clear QQ hf hby
          go_wp2_with fail;exact aL0 (v:=.tuple #[.string ⟨#[]⟩,.int .i64 2]) (by simp[results,Tryz.results329,go_sem]) rfl ⟨by rw[HR.out],HB1.out.trans (HBr.out.trans (HBx.out.trans HBy.out))⟩
         |some k=>
          rw[hf] at QQ;have hlk:(Instr.lookup 371 (.map (some b0)) (.string ⟨M.toArray⟩) true).run Tryz.prog wy=.ok (.tuple #[.int .i64 (k:Int),.bool true]) wy:=QQ;have hk4:=(nC hf).1;have hex:=aEE dG k 44 hk4 (by decide);obtain ⟨X,hX⟩:∃X,X=[dG.getD k 0]:=⟨_,rfl⟩;rw[←hX] at hex;have hX1:X.length=1:=(by rw[hX];rfl);unfold dG at hex;have hsT:(⟨T.toArray⟩:ByteArray).size=T.length:=Lib.size_mk T;have hsX:(⟨X.toArray⟩:ByteArray).size=X.length:=Lib.size_mk X;have hoT:¬(9223372036854775807<T.length+X.length):=(by omega);have sP:=cE T X;have HXt:=aLa (show txt (ks++[k])=T++X by rw[XM,HTx.out,hX]);have HFf:=aLa hf;clear QQ hf hX;by_cases h9:i+9<m
          ·have h9I:(i:Int)+9<(m:Int):=(by omega);have h9d:i+9<d:=(by omega);obtain ⟨n,hn⟩:∃n,rs[i+9]? = some n:=⟨_,aLv (by have:=HM.out;omega)⟩;have hcx:=PH (HRd.out.bl (HBr.out.trans (HBx.out.trans hby))) hn;have hcx3:wy.cell? ⟨ad.block,ad.off+(i+8+1),none⟩=some (.int .i64 (n:Int)):=hcx;have hgn:rs.getD (i+9) 0=n:=(by rw[aLx,hn];rfl);have HGn:=aLa hgn;clear hn hgn hby
           by_cases h1:n=1
           ·subst h1;have HNx:=aLa (zV HPs.out (show gP rs j=some k by rw[HGp.out,if_pos ⟨HG1.out,fun _=>HGn.out⟩];exact HFf.out));go_wp2_with fail;exact ⟨⟨j+1,ks++[k],by have:=HI.out;omega,by rw[show (10*(j+1):Nat)=i+10 by rw[HI.out];omega];simp,HNx.out,by rw[HXt.out,←sP],HBx.out.trans HBy.out⟩,by simp[RowKit.intOf]<;>omega⟩
           ·have HR:=aLa (cAb (s:=s) (by
             have hg:gP rs j=none:=by
              rw[HGp.out,if_neg];rintro ⟨-,hb⟩;exact h1 (HGn.out.symm.trans (hb (by have:=HM.out;omega)))
             rw[Z3.out,mW (by rw[←HI.out,←HM.out];exact hlt) hg];rfl))
            have n1:¬((n:Int)=1):=(by omega);have n1b:((n:Int)==1)=false:=(by rw[aLU];exact n1);go_wp2_with fail;exact aL0 (v:=.tuple #[.string ⟨#[]⟩,.int .i64 2]) (by simp[results,Tryz.results329,go_sem]) rfl ⟨by rw[HR.out],HB1.out.trans (HBr.out.trans (HBx.out.trans HBy.out))⟩
          ·have h9I:¬((i:Int)+9<(m:Int)):=(by omega);have HNx:=aLa (zV HPs.out (show gP rs j=some k by rw[HGp.out,if_pos ⟨HG1.out,fun h=>absurd h (by have:=HM.out;omega)⟩];exact HFf.out));have h9m:i+9=m:=(by omega);have H9:=aLa h9m;clear h9 hby h9m;go_wp2_with fail;exact ⟨⟨j+1,ks++[k],by have:=HI.out;have:=H9.out;omega,by rw[show (10*(j+1):Nat)=i+10 by rw[HI.out];omega];simp,HNx.out,by rw[HXt.out,←sP],HBx.out.trans HBy.out⟩,by simp[RowKit.intOf]<;>omega⟩
      ·have hjm:10*j=m+1:=(by have:=HM9.out;omega);have hdk:GS rs=some ks:=by
        unfold GS;rw[←HM.out,if_pos HM9.out,show (m+1) / 10=j by omega];exact HPs.out
       have aBN:BN s=some T:=(by rw[Z3.out,hdk,HTx.out];rfl);have hTm:∀c∈T,c∈dG:=(by rw[HTx.out];exact aDn aKv.out);have HO:=aLa aBN;have HTm:=aLa hTm;have aGk:¬((i:Int)<(m:Int)):=(by omega);have hsT:(⟨T.toArray⟩:ByteArray).size=T.length:=Lib.size_mk T;have hD:DN T=(decide (4≤T.length)&&(decide (T.length≤43)&&(T.getD 0 0==42&&(T.getD (T.length-1) 0==42&&!(xO T).contains 42)))):=rfl;have HD:=aLa hD;clear hjm hdk aBN hTm hi hkl htl hj hD;by_cases h4:4≤T.length
       ·by_cases h43:T.length≤43
        ·obtain ⟨n,hn⟩:∃n,T.length=n+3:=⟨T.length-3,by omega⟩;have aDD:(T.length:Int)-3=(n:Int):=(by omega);have hn1:¬((n:Int)<1):=(by omega);have hn40:¬((40:Int)<(n:Int)):=(by omega);have hn1N:¬(n=0):=(by omega);have hn40N:¬(40<n):=(by omega);obtain ⟨a,ha⟩:∃a,T[0]? = some a:=⟨_,aLv (by omega)⟩;obtain ⟨L,hL⟩:=aLt (T.length-1);obtain ⟨z,hz⟩:∃z,T[L]? = some z:=⟨_,aLv (by omega)⟩;have hLI:(T.length:Int)-1=(L:Int):=(by omega);have hLs:(L:Int)<(T.length:Int):=(by omega);obtain ⟨a1,a2⟩:=dS ha;obtain ⟨z1,z2⟩:=dS hz;have hga:T.getD 0 0=a:=(by rw[aLx,ha];rfl);have hgz:T.getD (T.length-1) 0=z:=(by rw[←hL,aLx,hz];rfl);have HD2:=aLa (show DN T=(a==42&&(z==42&&!(xO T).contains 42)) by rw[HD.out,aLX h4,aLX h43,hga,hgz];rfl);have HC3:=aLa (fun (h1:a=42) (h2:z=42)=>M7 h4 (hga.trans h1) (hgz.trans h2));have aFp:(⟨T.toArray⟩:ByteArray).extract 1 (1+n)=⟨(kZ T).toArray⟩:=by
          rw[kC];unfold kZ;rw[show 1+n-1=T.length-3 by omega]
         have aGl:(⟨T.toArray⟩:ByteArray).extract (1+n) (2+n)=⟨(F2 T).toArray⟩:=by
          rw[kC];unfold F2;rw[show 2+n-(1+n)=1 by omega,show 1+n=T.length-2 by omega]
         obtain ⟨HN,HLn,H43⟩:=aLb hn hL (And.intro h4 h43);clear hga hgz ha hz hL h4 h43 HD hn;cases h42:(a==42) with
         |false=>
          have aKx:¬((a.toNat:Int)=42):=fun e=>by
           have:a=42:=UInt8.toNat_inj.1 (by have:(42:UInt8).toNat=42:=rfl;omega);rw[this] at h42;cases h42
          have hab:((a.toNat:Int)==42)=false:=(by rw[aLU];exact aKx);have HR:=aLa (oI HO.out (by rw[HD2.out,h42];rfl));clear h42 aFp aGl;go_wp2_with fail;exact aL0 (v:=.tuple #[.string ⟨#[]⟩,.int .i64 2]) (by simp[results,Tryz.results329,go_sem]) rfl ⟨by rw[HR.out],HB1.out.trans (HBr.out.trans HBx.out)⟩
         |true=>
          have hae:a=42:=(by simpa using h42);cases hz2:(z==42) with
          |false=>
           have aKy:¬((z.toNat:Int)=42):=fun e=>by
            have:z=42:=UInt8.toNat_inj.1 (by have:(42:UInt8).toNat=42:=rfl;omega);rw[this] at hz2;cases hz2
           have hzb:((z.toNat:Int)==42)=false:=(by rw[aLU];exact aKy);have HR:=aLa (oI HO.out (by rw[HD2.out,h42,hz2];rfl));clear h42 hz2 aFp aGl;subst hae;go_wp2_with fail;exact aL0 (v:=.tuple #[.string ⟨#[]⟩,.int .i64 2]) (by simp[results,Tryz.results329,go_sem]) rfl ⟨by rw[HR.out],HB1.out.trans (HBr.out.trans HBx.out)⟩
          |true=>
           have hze:z=42:=(by simpa using hz2);have hc3:=HC3.out hae hze;have HCt:=aLa (fun wx=>aA8 T 42 wx);obtain ⟨cn,hcn⟩:=aLt (Lib.countByte T 42);rw[←hcn] at hc3 HCt;by_cases hq:cn=2
           ·have aFq:=hc3.1 hq;have hsh:DN T=true:=(by rw[HD2.out,h42,hz2,aFq];rfl);have hbo:=aDo HTm.out hsh;have hrd:=M5 HO.out hsh;have hcl:=fun wx=>wN (kZ T) wx (by have:=hbo.2.2.1;omega);rw[hbo.2.2.2] at hcl;obtain ⟨V,hV⟩:=aLt (kN (kZ T));obtain ⟨Z,hZ⟩:=aLt (F2 T);obtain ⟨Bd,hBd⟩:=aLt (kZ T);rw[←hV,←hZ,←hBd] at hrd;rw[←hZ] at aGl;rw[←hBd] at aFp;rw[←hV,←hBd] at hcl;have HCl:=aLa hcl;have HRd:=aLa hrd;subst hq;clear h42 hz2 hc3 aFq hsh hbo hrd hcl hV hZ hBd hcn;subst hae;subst hze;go_wp2_with fail;refine (HCt.out _).mono ?_;rintro e w' ⟨rfl,hw⟩;subst hw;go_wp2_with fail;refine (HCl.out _).mono ?_;rintro e w7 ⟨rfl,hb7⟩;have HB7:=aLa ((HB1.out.trans (HBr.out.trans HBx.out)).trans hb7);clear hb7;cases hvz:(V==Z) with
            |true=>have HR:=aLa (HRd.out.trans (if_pos (by simpa using hvz)));go_wp2_with fail;exact aL0 (v:=.tuple #[Bd,.int .i64 0]) (by simp[results,Tryz.results329,go_sem];exact aFp) rfl ⟨by rw[HR.out],HB7.out⟩
            |false=>have HR:=aLa (HRd.out.trans (if_neg (by simpa using hvz)));go_wp2_with fail;exact aL0 (v:=.tuple #[.string ⟨#[]⟩,.int .i64 14]) (by simp[results,Tryz.results329,go_sem]) rfl ⟨by rw[HR.out],HB7.out⟩
           ·have aFq:(xO T).contains 42=true:=by
             cases hx:(xO T).contains 42 with
             |true=>rfl
             |false=>exact absurd (hc3.2 hx) hq
            have HR:=aLa (oI HO.out (by rw[HD2.out,h42,hz2,aFq];rfl));have hq1:¬((cn:Int)=2):=(by omega);have hqb:((cn:Int)==2)=false:=(by rw[aLU];exact hq1);clear h42 hz2 aFp aGl hc3 aFq hcn;subst hae;subst hze;go_wp2_with fail;refine (HCt.out _).mono ?_;rintro e w' ⟨rfl,hw⟩;subst hw;go_wp2_with fail;exact aL0 (v:=.tuple #[.string ⟨#[]⟩,.int .i64 2]) (by simp[results,Tryz.results329,go_sem]) rfl ⟨by rw[HR.out],HB1.out.trans (HBr.out.trans HBx.out)⟩
        ·have HR:=aLa (oI HO.out (by rw[HD.out,aLW h43,Bool.false_and,Bool.and_false]));have h1:¬((T.length:Int)-3<1):=(by omega);have h2:(40:Int)<(T.length:Int)-3:=(by omega);clear h4 h43 HD;go_wp2_with fail;exact aL0 (v:=.tuple #[.string ⟨#[]⟩,.int .i64 2]) (by simp[results,Tryz.results329,go_sem]) rfl ⟨by rw[HR.out],HB1.out.trans (HBr.out.trans HBx.out)⟩
       ·have HR:=aLa (oI HO.out (by rw[HD.out,aLW h4,Bool.false_and]));have h1:(T.length:Int)-3<1:=(by omega);clear h4 HD;go_wp2_with fail;exact aL0 (v:=.tuple #[.string ⟨#[]⟩,.int .i64 2]) (by simp[results,Tryz.results329,go_sem]) rfl ⟨by rw[HR.out],HB1.out.trans (HBr.out.trans HBx.out)⟩
  ·have hdn:GS rs=none:=(by unfold GS;rw[←hm,if_neg h9]);have HR:=aLa (cAb (s:=s) (by rw[aFo,hdn];rfl));obtain ⟨q,hq⟩:=aLt (m % 10);have hqm:(m:Int) % 10=(q:Int):=(by omega);have hq9:¬((q:Int)=9):=(by omega);have hq9b:((q:Int)==9)=false:=(by rw[aLU];exact hq9);clear hok wW AX Hle hdn aFo hrs cL hm hrd hq h9;go_wp2_with fail;exact aL0 (v:=.tuple #[.string ⟨#[]⟩,.int .i64 2]) (by simp[results,Tryz.results329,go_sem]) rfl ⟨by rw[HR.out],HB1.out⟩
end Go.Proofs.YtllefinciimffaaGreatDoor
namespace Go.Proofs.YtllefinciimffaaGreatDoor
open Go.RowKit Go.Shelf Go.Sort
def t39 (s:List UInt8):List UInt8 × Bool:=match BN s with
 |none=>([],false)
 |some t=>if DN t=true then (xO t,true) else ([],false)
theorem aBe {s:List UInt8} (h:BN s=none):t39 s=([],false):=by unfold t39;rw[h]
theorem XP {s t:List UInt8} (h:BN s=some t) (hs:DN t=false):t39 s=([],false):=by unfold t39;rw[h];simp only[hs];rfl
def hit (m:List UInt8) (i k:Nat):Bool:=Lib.hasPrefix (m.drop i) (jQ k)&&(decide (i+15=m.length)||(m.getD (i+15) 0==48))
end Go.Proofs.YtllefinciimffaaGreatDoor
namespace Go.Proofs.YtllefinciimffaaGreatDoor
open Go.RowKit Go.Shelf
theorem M8 (g : Nat) (rd : List UInt8 → List UInt8 × Int) (eg : ∀ args w, (callFunc g args).run Tryz.prog w = .ok (.enter g args) w) (M : Nat) (hM : M ≤ 9223372036854775807)
 (w:World) (hr:∀(m:List UInt8) (W:World),m.length≤M→Bl w W→Calls Tryz.prog g #[m] W fun e w'=>e=.returned (.tuple #[.string ⟨(rd m).1.toArray⟩,.int .i64 (rd m).2])∧Bl W w')
 (m:List UInt8) (hl:m.length≤M) :
 Calls Tryz.prog 327 #[m,.func (.func g) #[] #[]] w fun e w'=>e=.returned (.tuple #[.string ⟨(aN rd m).1.toArray⟩,.int .i64 (aN rd m).2])∧Bl w w':=by
 have H1:=aLa (hr m);have H2:=aLa (hr m.reverse);have hb:=fun wx=>kW m wx (by omega);unfold FlipRes at hb;have Hb:=aLa hb;obtain ⟨a,ha⟩:=aLt ((rd m).1);obtain ⟨e1,he1⟩:=aLt ((rd m).2);rw[←ha,←he1] at H1;obtain ⟨b,hb2⟩:=aLt ((rd m.reverse).1);obtain ⟨e2,he2⟩:=aLt ((rd m.reverse).2);rw[←hb2,←he2] at H2;obtain ⟨r,hrv⟩:=aLt m.reverse;have hrl:r.length≤M:=(by rw[hrv,aL3];exact hl);by_cases hq:e1=2
 ·have hE:aN rd m=rd m.reverse:=(by unfold aN;rw[←he1,if_pos hq]);have HA:=aLa (show (aN rd m).1=b from by rw[hE,hb2]);have HB:=aLa (show (aN rd m).2=e2 from by rw[hE,he2]);rw[←hrv] at Hb H2;subst hq;clear hE ha he1 hb2 he2 hb hr hrv
  go_in
  go_wp2_with fail;refine (H1.out _ hl (Bl.refl _)).mono ?_;rintro e w1 ⟨rfl,hb1⟩;go_wp2_with fail;refine (Hb.out _).mono ?_;rintro e w2 ⟨rfl,hb2⟩;go_wp2_with fail;refine (H2.out _ hrl (hb1.trans hb2)).mono ?_;rintro e w3 ⟨rfl,hb3⟩;go_wp2_with fail;exact aL0 (v:=.tuple #[b,e2]) (by simp[results,Tryz.results327,go_sem]) rfl ⟨by rw[HA.out,HB.out],(hb1.trans hb2).trans hb3⟩
 ·have hE:aN rd m=rd m:=(by unfold aN;rw[←he1,if_neg hq]);have HA:=aLa (show (aN rd m).1=a from by rw[hE,ha]);have HB:=aLa (show (aN rd m).2=e1 from by rw[hE,he1]);have hqb:(e1==2)=false:=(by rw[aLU];exact hq);clear hE ha he1 hb2 he2 hb hr hrv hq
  go_in
  go_wp2_with fail;refine (H1.out _ hl (Bl.refl _)).mono ?_;rintro e w1 ⟨rfl,hb1⟩;go_wp2_with fail;exact aL0 (v:=.tuple #[.string ⟨a.toArray⟩,e1]) (by simp[results,Tryz.results327,go_sem]) rfl ⟨by rw[HA.out,HB.out],hb1⟩
theorem sF (m:List UInt8) (w:World) (hl:m.length≤1048576) (hT:SpOk w) :
 Calls Tryz.prog 286 #[.string ⟨m.toArray⟩] w fun e w'=>e=.returned (.tuple #[.string ⟨(aN nP m).1.toArray⟩,.int .i64 (aN nP m).2])∧Bl w w':=by
 have H:=aLa (M8 329 nP (pD Tryz.func329 (by kernel_rfl) rfl) 1048576 (by decide) w (fun m W h hb=>TB m W h (hT.bl hb)) m hl);obtain ⟨a,ha⟩:=aLt ((aN nP m).1);obtain ⟨e1,he1⟩:=aLt ((aN nP m).2);rw[←ha,←he1] at H ⊢;clear ha he1 hT
 go_in
 go_wp2_with fail;refine H.out.mono ?_;rintro e w1 ⟨rfl,hb1⟩;go_wp2_with fail;exact aL0 (v:=.tuple #[.string ⟨a.toArray⟩,e1]) (by simp[results,Tryz.results286,go_sem]) rfl ⟨rfl,hb1⟩
theorem zW (s:List UInt8):(∃T,BN s=some T∧DN T=true)∨(t39 s=([],false)∧nP s=([],2)):=by
 cases h:BN s with
 |none=>exact .inr ⟨aBe h,cAb h⟩
 |some T=>
  cases hs:DN T with
  |true=>exact .inl ⟨T,rfl,hs⟩
  |false=>exact .inr ⟨XP h hs,oI h hs⟩
theorem XQ {T:List UInt8} (h:DN T=true):4≤T.length∧T.length≤43:=by
 unfold DN at h;simp only[aLV,decide_eq_true_eq] at h;exact ⟨h.1,h.2.1⟩
theorem M9 {s:List UInt8} (h:(nP s).2≠2):aN nP s=nP s:=by unfold aN;rw[if_neg h]
end Go.Proofs.YtllefinciimffaaGreatDoor
namespace Go.Proofs.YtllefinciimffaaGreatDoor
open Go.RowKit
theorem J2:∀k<44,aM (jQ k) [48,49]=true:=by decide +kernel
theorem aBf {a b cs:List UInt8} (h1:aM a cs=true) (h2:aM b cs=true):aM (a++b) cs=true:=by
 unfold aM at h1 h2 ⊢;rw[List.all_append,h1,h2];rfl
theorem vA : ∀ {ks : List Nat}, (∀ k ∈ ks, k < 44) → aM (fS ks) [48, 49] = true
 |[],_=>rfl
 |[k],h=>J2 k (h k (List.mem_cons_self ..))
 |k :: k' :: ks,h=>by
  have ih:=vA (ks:=k' :: ks) (fun x hx=>h x (List.mem_cons_of_mem _ hx));show aM (jQ k++48 :: fS (k' :: ks)) [48,49]=true;exact aBf (J2 k (h k (List.mem_cons_self ..))) (by
   show (([48,49]:List UInt8).contains 48&&aM (fS (k' :: ks)) [48,49])=true;rw[ih];rfl)
theorem PI:∀c∈dG,dG.getD (nO c) 0=c:=by decide +kernel
theorem XR {l:List UInt8} (h:aT l=true):txt (ksL l)=gX l:=by
 unfold txt ksL;rw[aMg];conv=>rhs;rw[←List.map_id (gX l)]
 exact List.map_congr_left fun c hc=>PI c (tR h c hc)
theorem aEI (l:List UInt8):ksL l≠[]:=by unfold ksL gX;simp
theorem XT {l:List UInt8} (h:aT l=true):BN (mO l)=some (gX l):=by
 show BN (fS (ksL l))=_;rw[zT (vA (DL h))];rw[pL (aEI l) (DL h),←XR h];rfl
theorem XU {l:List UInt8} (h:aT l=true):(42:UInt8)∉l++GU l:=by
 have hs:(42:UInt8)∉jH:=(by decide);intro hm;rcases aLM.1 hm with hm|hm
 ·have:=aLO.1 h _ hm;unfold zQ at this;exact hs (by simpa using this)
 ·unfold GU at hm;have:∀r<43,dG.getD r 0≠42:=(by decide +kernel);exact this _ (Nat.mod_lt (S6 l l.length) (by decide)) (aLQ.1 hm).symm
theorem zX (l:List UInt8):xO (gX l)=l++GU l∧kZ (gX l)=l∧F2 (gX l)=GU l∧(gX l).getD 0 0=42∧(gX l).getD ((gX l).length-1) 0=42:=by
 have hl:=pX l;obtain ⟨x,hx⟩:∃x,GU l=[x]:=⟨_,rfl⟩;have hw:gX l=42 :: (l++[x]++[42]):=(by unfold gX;rw[hx]);refine ⟨?_,?_,?_,rfl,?_⟩
 ·unfold xO;rw[hl,hw,hx];show (l++[x]++[42]).take (l.length+3-2)=_;rw[aL2 (by simp)]
 ·unfold kZ;rw[hl,hw];show (l++[x]++[42]).take (l.length+3-3)=_;rw[aLL,aL2 (by simp)]
 ·unfold F2;rw[hl,hw,hx,show l.length+3-2=l.length+1 by omega];show ((l++[x]++[42]).drop l.length).take 1=_;rw[aLL,List.drop_left' rfl];rfl
 ·rw[hl,hw,aLx,show l.length+3-1=(l++[x]).length+1 by simp];rw[List.getElem?_cons_succ,aLD (Nat.le_refl _),Nat.sub_self];rfl
theorem zY {l:List UInt8} (h:fE l=0):aT l=true∧1≤l.length∧l.length≤40:=by
 unfold fE at h;by_cases a:l=[]
 ·rw[if_pos a] at h;cases h
 ·rw[if_neg a] at h;by_cases b:40<l.length
  ·rw[if_pos b] at h;cases h
  ·rw[if_neg b] at h;refine ⟨?_,List.length_pos_iff.2 a,by omega⟩;cases hx:aT l with
   |true=>rfl
   |false=>rw[hx] at h;cases h
theorem XV {l:List UInt8} (h:fE l=0):DN (gX l)=true:=by
 obtain ⟨hok,h1,h40⟩:=zY h;obtain ⟨p1,p2,p3,p4,p5⟩:=zX l;unfold DN;rw[p1,p4,p5,pX,aLX (by omega),aLX (by omega)];have:(l++GU l).contains 42=false:=by
  have:=XU hok;simpa using this
 rw[this];rfl
theorem aDp {l:List UInt8} (h:fE l=0):nP (mO l)=(l,0):=by
 obtain ⟨hok,h1,h40⟩:=zY h;obtain ⟨p1,p2,p3,p4,p5⟩:=zX l;rw[M5 (XT hok) (XV h),p2,p3];unfold kN;rw[if_pos h,if_pos rfl]
theorem XW:(jQ 43).reverse=jQ 25:=by decide +kernel
end Go.Proofs.YtllefinciimffaaGreatDoor
