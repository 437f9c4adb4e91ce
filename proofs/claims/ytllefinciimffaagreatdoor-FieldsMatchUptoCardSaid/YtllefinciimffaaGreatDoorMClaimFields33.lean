import Derived.Test.YtllefinciimffaaGreatDoorMClaimFields32
set_option maxHeartbeats 20000000
namespace Go.Proofs.YtllefinciimffaaGreatDoor
open Go.RowKit Go.Shelf
def aFb (n:Nat):Value:=.int .i64 (n:Int)
theorem NJ {w:World} {ad:Addr} {m:Nat} {rs:List Nat} {i n:Nat} (h:Reads w 1 (some ad) m (aT rs)) (hi:rs[i]? = some n):w.cell? (ad.add i)=some (.int .i64 (n:Int)):=by
 have hlt:=(aH3.1 hi).1;have hl:(aT rs).length=rs.length:=cY rs;have hm:=h.1;obtain ⟨ad',e,hc⟩:=h.2 (by omega);obtain rfl:=aIw e;refine hc i _ ?_;unfold aT;rw[aId,hi];rfl
set_option maxRecDepth 1000000 in
theorem QQ (s:List UInt8) (w:World) (hl:s.length≤1048576) (hT:SpOk w) :
 Calls Tryz.prog 329 #[s] w fun e w'=>e=.returned (.tuple #[.string ⟨(m7 s).1.toArray⟩,.int .i64 (m7 s).2])∧Bl w w':=by
 have HT:=aHH hT;have Hle:=aHH (K0 s w hl);clear hT
 go_in
 go_wp2_with fail;refine Hle.out.mono ?_;rintro e w1 ⟨R,m,d,rfl,mK,LX,hb1⟩;cases hok:kZ s with
 |false=>obtain ⟨rfl,rfl⟩:=mK hok;have HR:=aHH (tR (s:=s) (by unfold yN;rw[hok,if_neg (by decide)]));clear hok mK LX Hle;go_wp2_with fail;exact aIx (v:=.tuple #[.string ⟨#[]⟩,.int .i64 2]) (by simp[results,Tryz.results329,go_sem]) rfl ⟨by rw[HR.out],hb1⟩
 |true=>
  obtain ⟨hm,hrd,hmd⟩:=LX hok;have aCs:yN s=(EX (qR s)).map txt:=(by unfold yN;rw[hok,if_pos rfl]);obtain ⟨rs,hrs⟩:=aH0 (qR s);rw[←hrs] at hm hrd aCs;have cT:=UL s s.length;have hml:m≤1048577:=by
   rw[hm,hrs];unfold qR;rw[aH5,aIo];omega
  obtain ⟨zH,HRd,HM,HB1⟩:=aHJ aCs hrd hm hb1;by_cases h9:m % 10=9
  ·obtain ⟨ad,u0,rfl,-,-⟩:=hrd.at_ (k:=0) (by omega);have hm9:(m:Int) % 10=9:=(by omega);have HM9:=aHH h9;clear mK LX hok hrd aCs hrs cT hm hb1 Hle h9;have hmm:=@run_makeMap Tryz.prog;have hmt:=Tryz.underlying371;go_wp2_with fail;obtain ⟨b0,hb0⟩:=aH0 w1.heap.size;have hm0:MapL ZA aFb (w1.alloc (.map #[] 0)) b0 ([]:List (List UInt8 × Nat)):=(by rw[hb0];exact MapL.new _);have hb2:Bl w1 (w1.alloc (.map #[] 0)):=(Bl.refl _).alloc _;have HB0:=aHH (show w1.heap.size≤b0 by rw[hb0];exact Nat.le_refl _);rw[←hb0];generalize w1.alloc (.map #[] 0)=w2 at hm0 hb2 ⊢;clear hb0 hmm;refine (QM _ (HT.out.bl (HB1.out.trans hb2))).mono ?_;rintro e w3 ⟨gp,rfl,hr3,hb3⟩;have hm3:=hm0.bl hb3;have HGb:=aHH (show gp≠b0 from by
    obtain ⟨es,c,h1⟩:=hm3.block;exact ZB h1 hr3 (by decide))
   have HSt:=aHH (And.intro (hb2.trans hb3) (And.intro hr3 hm3));clear hm0 hb2 hr3 hb3 hm3;go_wp2_with fail;go_loopw [35] (fun v wr=>∃d:Nat,d≤44∧v=.int .i64 d∧Bl w1 wr∧Reads wr 1 (some ⟨gp,0,none⟩) nZ.length (bR nZ)∧MapL ZA aFb wr b0 (XR d)) (fun v _=>44-(RowKit.intOf v).toNat);case atStart=>exact ⟨0,Nat.zero_le _,rfl,HSt.out.1,HSt.out.2.1,HSt.out.2.2⟩
   case round=>
    rename World=>wr;obtain ⟨k,hk,rfl,hbr,hrr,hmr⟩:=hrel;by_cases hlt:k<44
    ·obtain ⟨ad',ea,c0⟩:=pX hrr (IK k hlt);obtain rfl:=aIw ea;rw[jY] at c0;have hkI:(k:Int)<(nZ.length:Int):=(by show (k:Int)<44;omega);obtain ⟨w10,hu1,aBj,aAR⟩:=hmr.update (fY (P:=Tryz.prog) Tryz.underlying9) hmt (eD k) k;obtain ⟨P,hP⟩:=aH0 (eD k);have hst:XR (k+1)=(eD k,k) :: XR k:=rfl;rw[←hst] at aBj;have aG3:(Instr.mapUpdate 371 (.map (some b0)) (.string ⟨P.toArray⟩) (.int .i64 (k:Int))).run Tryz.prog wr=.ok () w10:=(by rw[hP];exact hu1);rw[←hP] at c0;obtain ⟨aEn,aEo,aEp⟩:=aHI aBj (aAR.2.2 w1 hbr HB0.out) (pH hrr (aAR.1 gp HGb.out));clear hu1 aBj aAR hbr hrr hmr hP hst;go_wp2_with fail;exact ⟨⟨k+1,by omega,by go_num,aEo.out,aEp.out,aEn.out⟩,by simp[RowKit.intOf]<;>omega⟩
    ·obtain rfl:k=44:=(by omega);have hkI:¬((44:Int)<(nZ.length:Int)):=(by show ¬((44:Int)<44);decide);have HMp:=aHH hmr;have HBr:=aHH hbr;clear hmr hbr hrr;go_wp2_with fail;have aBl:=Tryz.underlying372;go_loopw [9,10] (fun s9 s10 wx=>∃(j:Nat) (ks:List Nat),10*j≤m+1∧s10=.int .i64 ((10*j:Nat):Int)∧uF rs j=some ks∧s9=.string ⟨(txt ks).toArray⟩∧Bl wr wx) (fun _ v _=>m+10-(RowKit.intOf v).toNat);case atStart=>exact ⟨0,[],by omega,rfl,rfl,rfl,Bl.refl _⟩
     case round=>
      rename World=>wx;obtain ⟨j,ks,hj,rfl,hps,rfl,hbx⟩:=hrel;obtain ⟨hkl,VV⟩:=UU hps;obtain ⟨i,hi⟩:=aH0 (10*j);rw[←hi] at hj ⊢;obtain ⟨HPs,HBx,HI,aFS⟩:=aHJ hps hbx hi VV;have htl:=K2 ks;obtain ⟨T,hT⟩:=aH0 (txt ks);rw[←hT] at htl ⊢;have HTx:=aHH hT;have hTl:T.length≤1048577:=(by omega);clear hps hbx hT VV;by_cases hlt:i<m
      ·have hm9:=HM9.out;have hi9:i+9≤m:=(by omega);have hid:i+9≤d:=(by omega);have aC8:(i:Int)<(m:Int):=(by omega);have HKl:=aHH hkl;have HTl:=aHH htl;clear hi hkl htl hm9;go_upto_region 15 with fail;go_wp2_with fail;try rw[show i+9-i=9 from Nat.add_sub_cancel_left _ _]
       go_loopw [11,56] (fun s11 s56 wy=>∃x:Nat,x≤9∧s56=.int .i64 (x:Int)∧s11=.string ⟨(pat ((rs.drop i).take x)).toArray⟩∧((rs.drop i).take x).all (fun n=>n==1||n==3)=true∧Bl wx wy) (fun _ v _=>9-(RowKit.intOf v).toNat);case atStart=>exact ⟨0,Nat.zero_le _,rfl,rfl,rfl,Bl.refl _⟩
       case round=>
        rename World=>wy;obtain ⟨x,hx,rfl,rfl,iG,hby⟩:=hrel;have HAl:=aHH iG;have HBy:=aHH hby
        by_cases hxt:x<9
        ·have aHb:i+x<rs.length:=(by have:=HM.out;omega);obtain ⟨n,hn⟩:∃n,rs[i+x]? = some n:=⟨_,aH2 aHb⟩;have hcx:=NJ (HRd.out.bl (HBr.out.trans (HBx.out.trans hby))) hn;have hcx2:wy.cell? ((ad.add i).add x)=some (.int .i64 (n:Int)):=(by rw[dZ];exact hcx);have hgx:(rs.drop i)[x]? = some n:=(by rw[aIf];exact hn);have HTk:=aHH (show (rs.drop i).take (x+1)=(rs.drop i).take x++[n] by rw[aIJ,hgx];rfl);have hpt:pat ((rs.drop i).take (x+1))=pat ((rs.drop i).take x)++[if n=3 then 119 else 110]:=(by rw[HTk.out];unfold pat;rw[aIp];rfl);obtain ⟨M,hM⟩:=aH0 (pat ((rs.drop i).take x));have hMl:M.length≤9:=(by rw[hM];unfold pat;rw[aH6,aH7];omega);rw[←hM] at hpt ⊢;have hsM:(⟨M.toArray⟩:ByteArray).size=M.length:=Lib.size_mk M;have HPt:=aHH hpt;have HGx:=aHH hgx;clear hpt hM hn hgx iG hby
         by_cases h1:n=1
         ·obtain rfl:n=1:=h1;have HSt:=aHH (show pat ((rs.drop i).take (x+1))=M++[110] from HPt.out);have aEA:=aHH (show ((rs.drop i).take (x+1)).all (fun n=>n==1||n==3)=true by rw[HTk.out,List.all_append,HAl.out];rfl);have hoM:¬(9223372036854775807<M.length+1):=(by omega);have kN:(⟨M.toArray⟩:ByteArray)++⟨#[110]⟩=⟨(M++[110]).toArray⟩:=dK M [110];clear HPt;go_upto_region 20 with fail;obtain ⟨K,hK⟩:=aH0 wy.heap.size;have q0:MapL (fun z:Int=>.int .i64 z) ZA (wy.alloc (.map #[] 0)) K ([]:List (Int × List UInt8)):=(by rw[hK];exact MapL.new _);have q1:Bl wy (wy.alloc (.map #[] 0)):=(Bl.refl _).alloc _;have hKl:wy.heap.size≤K:=(by rw[hK];exact Nat.le_refl _);have hmk:∀t,(Instr.makeMap t none).run Tryz.prog wy=.ok (.map (some K)) (wy.alloc (.map #[] 0)):=fun t=>(by rw[hK];exact run_makeMap t wy);generalize wy.alloc (.map #[] 0)=w20 at q0 q1 hmk;obtain ⟨w21,q2,q3,q4⟩:=q0.update (pA (P:=Tryz.prog) Tryz.underlying3) aBl 1 [110];obtain ⟨w22,q5,q6,q7⟩:=q3.update (pA (P:=Tryz.prog) Tryz.underlying3) aBl 3 [119];have q2':(Instr.mapUpdate 372 (.map (some K)) (.int .i64 1) (.string ⟨#[110]⟩)).run Tryz.prog w20=.ok () w21:=q2;have q5':(Instr.mapUpdate 372 (.map (some K)) (.int .i64 3) (.string ⟨#[119]⟩)).run Tryz.prog w21=.ok () w22:=q5;have q8:=q6.lookup1 (pA (P:=Tryz.prog) Tryz.underlying3) aBl (Tryz.zeroValue9 w22) 1;have q8':(Instr.lookup 372 (.map (some K)) (.int .i64 1) false).run Tryz.prog w22=.ok (.string ⟨#[110]⟩) w22:=q8;have aEB:=aHH (HBy.out.trans (q7.2.2 wy (q4.2.2 wy q1 hKl) hKl));clear q0 q1 q2 q3 q4 q5 q6 q7 q8 hK hKl;go_wp2_with fail;exact ⟨⟨x+1,by omega,by go_num,by rw[HSt.out,←kN],aEA.out,aEB.out⟩,by simp[RowKit.intOf]<;>omega⟩
         ·by_cases h3:n=3
          ·obtain rfl:n=3:=h3;have HSt:=aHH (show pat ((rs.drop i).take (x+1))=M++[119] from HPt.out);have aEA:=aHH (show ((rs.drop i).take (x+1)).all (fun n=>n==1||n==3)=true by rw[HTk.out,List.all_append,HAl.out];rfl);have hoM:¬(9223372036854775807<M.length+1):=(by omega);have kN:(⟨M.toArray⟩:ByteArray)++⟨#[119]⟩=⟨(M++[119]).toArray⟩:=dK M [119];clear HPt;go_upto_region 20 with fail;obtain ⟨K,hK⟩:=aH0 wy.heap.size;have q0:MapL (fun z:Int=>.int .i64 z) ZA (wy.alloc (.map #[] 0)) K ([]:List (Int × List UInt8)):=(by rw[hK];exact MapL.new _);have q1:Bl wy (wy.alloc (.map #[] 0)):=(Bl.refl _).alloc _;have hKl:wy.heap.size≤K:=(by rw[hK];exact Nat.le_refl _);have hmk:∀t,(Instr.makeMap t none).run Tryz.prog wy=.ok (.map (some K)) (wy.alloc (.map #[] 0)):=fun t=>(by rw[hK];exact run_makeMap t wy);generalize wy.alloc (.map #[] 0)=w20 at q0 q1 hmk;obtain ⟨w21,q2,q3,q4⟩:=q0.update (pA (P:=Tryz.prog) Tryz.underlying3) aBl 1 [110];obtain ⟨w22,q5,q6,q7⟩:=q3.update (pA (P:=Tryz.prog) Tryz.underlying3) aBl 3 [119];have q2':(Instr.mapUpdate 372 (.map (some K)) (.int .i64 1) (.string ⟨#[110]⟩)).run Tryz.prog w20=.ok () w21:=q2;have q5':(Instr.mapUpdate 372 (.map (some K)) (.int .i64 3) (.string ⟨#[119]⟩)).run Tryz.prog w21=.ok () w22:=q5;have q8:=q6.lookup1 (pA (P:=Tryz.prog) Tryz.underlying3) aBl (Tryz.zeroValue9 w22) 3;have q8':(Instr.lookup 372 (.map (some K)) (.int .i64 3) false).run Tryz.prog w22=.ok (.string ⟨#[119]⟩) w22:=q8;have aEB:=aHH (HBy.out.trans (q7.2.2 wy (q4.2.2 wy q1 hKl) hKl));clear q0 q1 q2 q3 q4 q5 q6 q7 q8 hK hKl;go_wp2_with fail;exact ⟨⟨x+1,by omega,by go_num,by rw[HSt.out,←kN],aEA.out,aEB.out⟩,by simp[RowKit.intOf]<;>omega⟩
          ·have HR:=aHH (tR (s:=s) (by
            have hg:gP rs j=none:=by
             unfold gP;rw[if_neg];rintro ⟨ha,-⟩;rw[←HI.out] at ha;have hx9:((rs.drop i).take 9)[x]? = some n:=(by rw[aIe hxt];exact HGx.out);have:=aIl.1 ha n (List.mem_of_getElem? hx9);simp[h1,h3] at this
            rw[zH.out,mG (by rw[←HI.out,←HM.out];exact hlt) hg];rfl))
           have n1:¬((n:Int)=1):=(by omega);have n3:¬((n:Int)=3):=(by omega);have n1b:((n:Int)==1)=false:=(by rw[aIr];exact n1);have n3b:((n:Int)==3)=false:=(by rw[aIr];exact n3);clear HPt;have key:¬(((n:Int) != 1)=false∨((n:Int) != 3)=false):=by
            rintro (h|h)
            ·rw[bne_eq_false_iff_eq] at h;exact n1 h
            ·rw[bne_eq_false_iff_eq] at h;exact n3 h
           have Key:=aHH key;clear key;go_wp2_with fail
           all_goals first
            | (exact aIx (v:=.tuple #[.string ⟨#[]⟩,.int .i64 2]) (by simp[results,Tryz.results329,go_sem]) rfl ⟨by rw[HR.out],HB1.out.trans (HBr.out.trans (HBx.out.trans HBy.out))⟩)
            | exact absurd (by assumption) Key.out
        ·obtain rfl:x=9:=(by omega);obtain ⟨G,hG⟩:=aH0 ((rs.drop i).take 9);rw[←hG] at iG ⊢;have hGl:G.length≤9:=(by rw[hG,aH7];omega);obtain ⟨M,hM⟩:=aH0 (pat G);rw[←hM];have N4:=(HMp.out.bl (HBx.out.trans hby)).lookup2 (fY (P:=Tryz.prog) Tryz.underlying9) hmt (Tryz.zeroValue3 wy) M;rw[UT] at N4;have hgp:gP rs j=if (G.all fun n=>n==1||n==3)=true∧(i+9<rs.length→rs.getD (i+9) 0=1) then (List.range 44).find? fun k=>eD k==M else none:=by
          unfold gP;rw[←HI.out,←hG,←hM]
         have HGp:=aHH hgp;have HG1:=aHH iG;clear hG hM hgp iG;cases hf:(List.range 44).find? fun k=>eD k==M with
         |none=>
          rw[hf] at N4;have hlk:(Instr.lookup 371 (.map (some b0)) (.string ⟨M.toArray⟩) true).run Tryz.prog wy=.ok (.tuple #[.int .i64 0,.bool false]) wy:=N4;have HR:=aHH (tR (s:=s) (by
           have hg:gP rs j=none:=by
            rw[HGp.out];split
            ·exact hf
            ·rfl
           rw[zH.out,mG (by rw[←HI.out,←HM.out];exact hlt) hg];rfl))
          clear N4 hf hby
          go_wp2_with fail;exact aIx (v:=.tuple #[.string ⟨#[]⟩,.int .i64 2]) (by simp[results,Tryz.results329,go_sem]) rfl ⟨by rw[HR.out],HB1.out.trans (HBr.out.trans (HBx.out.trans HBy.out))⟩
         |some k=>
          rw[hf] at N4;have hlk:(Instr.lookup 371 (.map (some b0)) (.string ⟨M.toArray⟩) true).run Tryz.prog wy=.ok (.tuple #[.int .i64 (k:Int),.bool true]) wy:=N4;have hk4:=(kJ hf).1;have hex:=XN eU k 44 hk4 (by decide);obtain ⟨X,hX⟩:∃X,X=[eU.getD k 0]:=⟨_,rfl⟩;rw[←hX] at hex;have hX1:X.length=1:=(by rw[hX];rfl);unfold eU at hex;have hsT:(⟨T.toArray⟩:ByteArray).size=T.length:=Lib.size_mk T;have hsX:(⟨X.toArray⟩:ByteArray).size=X.length:=Lib.size_mk X;have hoT:¬(9223372036854775807<T.length+X.length):=(by omega);have kN:=dK T X;have HXt:=aHH (show txt (ks++[k])=T++X by rw[UQ,HTx.out,hX]);have HFf:=aHH hf;clear N4 hf hX;by_cases h9:i+9<m
          ·have h9I:(i:Int)+9<(m:Int):=(by omega);have h9d:i+9<d:=(by omega);obtain ⟨n,hn⟩:∃n,rs[i+9]? = some n:=⟨_,aH2 (by have:=HM.out;omega)⟩;have hcx:=NJ (HRd.out.bl (HBr.out.trans (HBx.out.trans hby))) hn;have hcx3:wy.cell? ⟨ad.block,ad.off+(i+8+1),none⟩=some (.int .i64 (n:Int)):=hcx;have hgn:rs.getD (i+9) 0=n:=(by rw[aH4,hn];rfl);have HGn:=aHH hgn;clear hn hgn hby
           by_cases h1:n=1
           ·subst h1;have HNx:=aHH (yP HPs.out (show gP rs j=some k by rw[HGp.out,if_pos ⟨HG1.out,fun _=>HGn.out⟩];exact HFf.out));go_wp2_with fail;exact ⟨⟨j+1,ks++[k],by have:=HI.out;omega,by rw[show (10*(j+1):Nat)=i+10 by rw[HI.out];omega];simp,HNx.out,by rw[HXt.out,←kN],HBx.out.trans HBy.out⟩,by simp[RowKit.intOf]<;>omega⟩
           ·have HR:=aHH (tR (s:=s) (by
             have hg:gP rs j=none:=by
              rw[HGp.out,if_neg];rintro ⟨-,hb⟩;exact h1 (HGn.out.symm.trans (hb (by have:=HM.out;omega)))
             rw[zH.out,mG (by rw[←HI.out,←HM.out];exact hlt) hg];rfl))
            have n1:¬((n:Int)=1):=(by omega);have n1b:((n:Int)==1)=false:=(by rw[aIr];exact n1);go_wp2_with fail;exact aIx (v:=.tuple #[.string ⟨#[]⟩,.int .i64 2]) (by simp[results,Tryz.results329,go_sem]) rfl ⟨by rw[HR.out],HB1.out.trans (HBr.out.trans (HBx.out.trans HBy.out))⟩
          ·have h9I:¬((i:Int)+9<(m:Int)):=(by omega);have HNx:=aHH (yP HPs.out (show gP rs j=some k by rw[HGp.out,if_pos ⟨HG1.out,fun h=>absurd h (by have:=HM.out;omega)⟩];exact HFf.out));have h9m:i+9=m:=(by omega);have H9:=aHH h9m;clear h9 hby h9m;go_wp2_with fail;exact ⟨⟨j+1,ks++[k],by have:=HI.out;have:=H9.out;omega,by rw[show (10*(j+1):Nat)=i+10 by rw[HI.out];omega];simp,HNx.out,by rw[HXt.out,←kN],HBx.out.trans HBy.out⟩,by simp[RowKit.intOf]<;>omega⟩
      ·have hjm:10*j=m+1:=(by have:=HM9.out;omega);have hdk:EX rs=some ks:=by
        unfold EX;rw[←HM.out,if_pos HM9.out,show (m+1) / 10=j by omega];exact HPs.out
       have CJ:yN s=some T:=(by rw[zH.out,hdk,HTx.out];rfl);have hTm:∀c∈T,c∈eU:=(by rw[HTx.out];exact UR aFS.out);have HO:=aHH CJ;have HTm:=aHH hTm;have aC8:¬((i:Int)<(m:Int)):=(by omega);have hsT:(⟨T.toArray⟩:ByteArray).size=T.length:=Lib.size_mk T;have hD:ED T=(decide (4≤T.length)&&(decide (T.length≤43)&&(T.getD 0 0==42&&(T.getD (T.length-1) 0==42&&!(qC T).contains 42)))):=rfl;have HD:=aHH hD;clear hjm hdk CJ hTm hi hkl htl hj hD;by_cases h4:4≤T.length
       ·by_cases h43:T.length≤43
        ·obtain ⟨n,hn⟩:∃n,T.length=n+3:=⟨T.length-3,by omega⟩;have aDy:(T.length:Int)-3=(n:Int):=(by omega);have hn1:¬((n:Int)<1):=(by omega);have aFT:¬((40:Int)<(n:Int)):=(by omega);have hn1N:¬(n=0):=(by omega);have hn40N:¬(40<n):=(by omega);obtain ⟨a,ha⟩:∃a,T[0]? = some a:=⟨_,aH2 (by omega)⟩;obtain ⟨L,hL⟩:=aH0 (T.length-1);obtain ⟨z,hz⟩:∃z,T[L]? = some z:=⟨_,aH2 (by omega)⟩;have hLI:(T.length:Int)-1=(L:Int):=(by omega);have hLs:(L:Int)<(T.length:Int):=(by omega);obtain ⟨a1,a2⟩:=e9 ha;obtain ⟨z1,z2⟩:=e9 hz;have hga:T.getD 0 0=a:=(by rw[aH4,ha];rfl);have hgz:T.getD (T.length-1) 0=z:=(by rw[←hL,aH4,hz];rfl);have HD2:=aHH (show ED T=(a==42&&(z==42&&!(qC T).contains 42)) by rw[HD.out,aIu h4,aIu h43,hga,hgz];rfl);have HC3:=aHH (fun (h1:a=42) (h2:z=42)=>K3 h4 (hga.trans h1) (hgz.trans h2));have V9:(⟨T.toArray⟩:ByteArray).extract 1 (1+n)=⟨(jV T).toArray⟩:=by
          rw[eO];unfold jV;rw[show 1+n-1=T.length-3 by omega]
         have aC9:(⟨T.toArray⟩:ByteArray).extract (1+n) (2+n)=⟨(EC T).toArray⟩:=by
          rw[eO];unfold EC;rw[show 2+n-(1+n)=1 by omega,show 1+n=T.length-2 by omega]
         obtain ⟨HN,HLn,H43⟩:=aHI hn hL (And.intro h4 h43);clear hga hgz ha hz hL h4 h43 HD hn;cases h42:(a==42) with
         |false=>
          have aEC:¬((a.toNat:Int)=42):=fun e=>by
           have:a=42:=UInt8.toNat_inj.1 (by have:(42:UInt8).toNat=42:=rfl;omega);rw[this] at h42;cases h42
          have hab:((a.toNat:Int)==42)=false:=(by rw[aIr];exact aEC);have HR:=aHH (pI HO.out (by rw[HD2.out,h42];rfl));clear h42 V9 aC9;go_wp2_with fail;exact aIx (v:=.tuple #[.string ⟨#[]⟩,.int .i64 2]) (by simp[results,Tryz.results329,go_sem]) rfl ⟨by rw[HR.out],HB1.out.trans (HBr.out.trans HBx.out)⟩
         |true=>
          have hae:a=42:=(by simpa using h42);cases hz2:(z==42) with
          |false=>
           have aED:¬((z.toNat:Int)=42):=fun e=>by
            have:z=42:=UInt8.toNat_inj.1 (by have:(42:UInt8).toNat=42:=rfl;omega);rw[this] at hz2;cases hz2
           have hzb:((z.toNat:Int)==42)=false:=(by rw[aIr];exact aED);have HR:=aHH (pI HO.out (by rw[HD2.out,h42,hz2];rfl));clear h42 hz2 V9 aC9;subst hae;go_wp2_with fail;exact aIx (v:=.tuple #[.string ⟨#[]⟩,.int .i64 2]) (by simp[results,Tryz.results329,go_sem]) rfl ⟨by rw[HR.out],HB1.out.trans (HBr.out.trans HBx.out)⟩
          |true=>
           have hze:z=42:=(by simpa using hz2);have hc3:=HC3.out hae hze;have HCt:=aHH (fun wx=>XK T 42 wx);obtain ⟨cn,hcn⟩:=aH0 (Lib.countByte T 42);rw[←hcn] at hc3 HCt;by_cases hq:cn=2
           ·have aCt:=hc3.1 hq;have hsh:ED T=true:=(by rw[HD2.out,h42,hz2,aCt];rfl);have hbo:=US HTm.out hsh;have hrd:=K1 HO.out hsh;have hcl:=fun wx=>II (jV T) wx (by have:=hbo.2.2.1;omega);rw[hbo.2.2.2] at hcl;obtain ⟨V,hV⟩:=aH0 (l8 (jV T));obtain ⟨Z,hZ⟩:=aH0 (EC T);obtain ⟨Bd,hBd⟩:=aH0 (jV T);rw[←hV,←hZ,←hBd] at hrd;rw[←hZ] at aC9;rw[←hBd] at V9;rw[←hV,←hBd] at hcl;have HCl:=aHH hcl;have HRd:=aHH hrd;subst hq;clear h42 hz2 hc3 aCt hsh hbo hrd hcl hV hZ hBd hcn;subst hae;subst hze;go_wp2_with fail;refine (HCt.out _).mono ?_;rintro e w' ⟨rfl,hw⟩;subst hw;go_wp2_with fail;refine (HCl.out _).mono ?_;rintro e w7 ⟨rfl,hb7⟩;have HB7:=aHH ((HB1.out.trans (HBr.out.trans HBx.out)).trans hb7);clear hb7;cases hvz:(V==Z) with
            |true=>have HR:=aHH (HRd.out.trans (if_pos (by simpa using hvz)));go_wp2_with fail;exact aIx (v:=.tuple #[Bd,.int .i64 0]) (by simp[results,Tryz.results329,go_sem];exact V9) rfl ⟨by rw[HR.out],HB7.out⟩
            |false=>have HR:=aHH (HRd.out.trans (if_neg (by simpa using hvz)));go_wp2_with fail;exact aIx (v:=.tuple #[.string ⟨#[]⟩,.int .i64 14]) (by simp[results,Tryz.results329,go_sem]) rfl ⟨by rw[HR.out],HB7.out⟩
           ·have aCt:(qC T).contains 42=true:=by
             cases hx:(qC T).contains 42 with
             |true=>rfl
             |false=>exact absurd (hc3.2 hx) hq
            have HR:=aHH (pI HO.out (by rw[HD2.out,h42,hz2,aCt];rfl));have hq1:¬((cn:Int)=2):=(by omega);have hqb:((cn:Int)==2)=false:=(by rw[aIr];exact hq1);clear h42 hz2 V9 aC9 hc3 aCt hcn;subst hae;subst hze;go_wp2_with fail;refine (HCt.out _).mono ?_;rintro e w' ⟨rfl,hw⟩;subst hw;go_wp2_with fail;exact aIx (v:=.tuple #[.string ⟨#[]⟩,.int .i64 2]) (by simp[results,Tryz.results329,go_sem]) rfl ⟨by rw[HR.out],HB1.out.trans (HBr.out.trans HBx.out)⟩
        ·have HR:=aHH (pI HO.out (by rw[HD.out,aIt h43,Bool.false_and,Bool.and_false]));have h1:¬((T.length:Int)-3<1):=(by omega);have h2:(40:Int)<(T.length:Int)-3:=(by omega);clear h4 h43 HD;go_wp2_with fail;exact aIx (v:=.tuple #[.string ⟨#[]⟩,.int .i64 2]) (by simp[results,Tryz.results329,go_sem]) rfl ⟨by rw[HR.out],HB1.out.trans (HBr.out.trans HBx.out)⟩
       ·have HR:=aHH (pI HO.out (by rw[HD.out,aIt h4,Bool.false_and]));have h1:(T.length:Int)-3<1:=(by omega);clear h4 HD;go_wp2_with fail;exact aIx (v:=.tuple #[.string ⟨#[]⟩,.int .i64 2]) (by simp[results,Tryz.results329,go_sem]) rfl ⟨by rw[HR.out],HB1.out.trans (HBr.out.trans HBx.out)⟩
  ·have hdn:EX rs=none:=(by unfold EX;rw[←hm,if_neg h9]);have HR:=aHH (tR (s:=s) (by rw[aCs,hdn];rfl));obtain ⟨q,hq⟩:=aH0 (m % 10);have hqm:(m:Int) % 10=(q:Int):=(by omega);have hq9:¬((q:Int)=9):=(by omega);have hq9b:((q:Int)==9)=false:=(by rw[aIr];exact hq9);clear hok mK LX Hle hdn aCs hrs cT hm hrd hq h9;go_wp2_with fail;exact aIx (v:=.tuple #[.string ⟨#[]⟩,.int .i64 2]) (by simp[results,Tryz.results329,go_sem]) rfl ⟨by rw[HR.out],HB1.out⟩
end Go.Proofs.YtllefinciimffaaGreatDoor
namespace Go.Proofs.YtllefinciimffaaGreatDoor
open Go.RowKit Go.Shelf Go.Sort
def t39 (s:List UInt8):List UInt8 × Bool:=match yN s with
 |none=>([],false)
 |some t=>if ED t=true then (qC t,true) else ([],false)
theorem wA {s:List UInt8} (h:yN s=none):t39 s=([],false):=by unfold t39;rw[h]
theorem m8 {s t:List UInt8} (h:yN s=some t) (hs:ED t=false):t39 s=([],false):=by unfold t39;rw[h];simp only[hs];rfl
theorem NK {s t:List UInt8} (h:yN s=some t) (hs:ED t=true):t39 s=(qC t,true):=by unfold t39;rw[h];simp only[hs];rfl
def hit (m:List UInt8) (i k:Nat):Bool:=Lib.hasPrefix (m.drop i) (qG k)&&(decide (i+15=m.length)||(m.getD (i+15) 0==48))
def fnd (m : List UInt8) (i : Nat) : Nat → Int × Int
 |0=>(-1,0)
 |n+1=>if hit m i n=true then ((n:Int),15) else fnd m i n
theorem K4 {l p:List UInt8} {n:Nat} (hp:p.length=n):Lib.hasPrefix l p=true↔l.take n=p:=by
 unfold Lib.hasPrefix;rw[List.isPrefixOf_iff_prefix];constructor
 ·rintro ⟨r,rfl⟩;rw[aIz hp]
 ·intro h;rw[←h];exact List.take_prefix _ _
theorem EE {m:List UInt8} {j k:Nat} (hk:k<44):hit m (16*j) k=true↔(m.length=16*j+15∨m[16*j+15]? = some 48)∧(m.drop (16*j)).take 15=qG k:=by
 unfold hit;rw[aIs,K4 (eZ k hk).1,Bool.or_eq_true,decide_eq_true_eq,beq_iff_eq];constructor
 ·rintro ⟨h1,h2⟩;refine ⟨?_,h1⟩;rcases h2 with h2|h2
  ·exact .inl h2.symm
  ·refine .inr ?_;have:16*j+15<m.length:=by
    rcases Nat.lt_or_ge (16*j+15) m.length with h|h
    ·exact h
    ·rw[aH4,aIC h] at h2;cases h2
   rw[aH4,aH2 this] at h2;rw[aH2 this];exact congrArg some h2
 ·rintro ⟨h1,h2⟩;refine ⟨h2,?_⟩;rcases h1 with h1|h1
  ·exact .inl h1.symm
  ·refine .inr ?_;rw[aH4,h1];rfl
theorem NL (m : List UInt8) (j : Nat) : ∀ n, n ≤ 44 → fnd m (16 * j) n = match (List.range n).find? (fun k => hit m (16 * j) k) with | some k => ((k : Int), 15) | none => (-1, 0)
 |0,_=>rfl
 |n+1,hn=>by
  have ih:=NL m j n (by omega);rw[List.range_succ,List.find?_append];unfold fnd;by_cases h:hit m (16*j) n=true
  ·rw[if_pos h];have hno:(List.range n).find? (fun k=>hit m (16*j) k)=none:=by
    rw[List.find?_eq_none];intro k hk hh;have hk':=List.mem_range.1 hk;have h1:=((EE (m:=m) (j:=j) (show k<44 by omega)).1 hh).2;have h2:=((EE (m:=m) (j:=j) (show n<44 by omega)).1 h).2;have:=MB k (by omega) n (by omega) (h1.symm.trans h2);omega
   rw[hno,Option.none_or,List.find?_cons_of_pos h]
  ·rw[if_neg h,ih];cases (List.range n).find? (fun k=>hit m (16*j) k) with
   |some k=>rfl
   |none=>rw[Option.none_or,List.find?_cons_of_neg h];rfl
theorem aBI (m:List UInt8) (j:Nat):fnd m (16*j) 44=match gR m j with|some k=>((k:Int),15)|none=>(-1,0):=by
 rw[NL m j 44 (Nat.le_refl _)];cases hf:(List.range 44).find? (fun k=>hit m (16*j) k) with
 |some k=>obtain ⟨h1,h2⟩:=kJ hf;obtain ⟨h3,h4⟩:=(EE h1).1 h2;rw[(oM m j k).2 ⟨h3,h1,h4⟩]
 |none=>
  cases hg:gR m j with
  |none=>rfl
  |some k=>obtain ⟨h3,h1,h4⟩:=(oM m j k).1 hg;have:=List.find?_eq_none.1 hf k (List.mem_range.2 h1);exact absurd ((EE h1).2 ⟨h3,h4⟩) this
theorem K5 {m:List UInt8} {j:Nat} {ks:List Nat} {k:Nat} (h:uE m j=some ks) (hg:gR m j=some k):uE m (j+1)=some (ks++[k]):=by
 rw[oK] at h ⊢;exact nK h hg
theorem UV {m:List UInt8} {j:Nat} {ks:List Nat} (h:uE m j=some ks):ks.length=j∧∀k∈ks,k<44:=by
 rw[oK,o8] at h;refine ⟨h.1,fun k hk => ?_⟩;obtain ⟨i,hi,rfl⟩:=aIB hk;exact ((oM _ _ _).1 (h.2 i _ (aH2 hi))).2.1
theorem UW {m:List UInt8} {j:Nat} (hj:16*j<m.length∨j=0) (hg:gR m j=none):FK m=none:=by
 unfold FK;by_cases h:(m.length+1) % 16=0
 ·rw[if_pos h,oK];exact pW (by omega) hg
 ·rw[if_neg h]
theorem XT {m:List UInt8} {j:Nat} (hj:m.length=16*j):FK m=none:=by
 unfold FK;rw[if_neg (by omega)]
set_option maxRecDepth 1000000 in
theorem BY (s:List UInt8) (w:World) (hl:s.length≤1048576) (hT:SpOk w) :
 Calls Tryz.prog 258 #[s] w fun e w'=>e=.returned (.tuple #[.string ⟨(t39 s).1.toArray⟩,.bool (t39 s).2])∧Bl w w':=by
 have HT:=aHH hT;have Ht:=aHH (vT s [48,49] w (by omega) (by decide) (by
  intro j b h;have:∀b∈([48,49]:List UInt8),b.toNat<128:=(by decide);exact this b (List.mem_of_getElem? h)))
 have hsz:(⟨s.toArray⟩:ByteArray).size=s.length:=Lib.size_mk s;clear hT
 go_in
 cases hmd:cZ s [48,49] with
 |false=>have htr:(Lib.trimS s [48,49]).isEmpty=false:=(by rw[kU,hmd]);have HR:=aHH (wA (XQ hmd));clear hmd;go_wp2_with fail;refine Ht.out.mono ?_;rintro e w1 ⟨rfl,hb1⟩;go_wp2_with fail;exact aIx (v:=.tuple #[.string ⟨#[]⟩,.bool false]) (by simp[results,Tryz.results258,go_sem]) rfl ⟨by rw[HR.out],hb1⟩
 |true=>
  have htr:(Lib.trimS s [48,49]).isEmpty=true:=(by rw[kU,hmd]);have HO:=aHH (UP hmd);clear hmd;go_wp2_with fail;refine Ht.out.mono ?_;rintro e w1 ⟨rfl,hb1⟩;have HB1:=aHH hb1;clear hb1 Ht;go_wp2_with fail;go_loopw [4,5] (fun s4 s5 wr=>∃(j:Nat) (ks:List Nat),(16*j<s.length∨j=0)∧s5=.int .i64 ((16*j:Nat):Int)∧uE s j=some ks∧s4=.string ⟨(txt ks).toArray⟩∧Bl w1 wr) (fun _ v _=>s.length+16-(RowKit.intOf v).toNat);case atStart=>exact ⟨0,[],.inr rfl,rfl,rfl,rfl,Bl.refl _⟩
  case round=>
   rename World=>wr;obtain ⟨j,ks,hj,rfl,hps,rfl,hbr⟩:=hrel;obtain ⟨hkl,VV⟩:=UV hps;obtain ⟨i,hi⟩:=aH0 (16*j);have his:i≤s.length:=(by omega);have LS:=aBI s j;rw[←hi] at hj LS ⊢;obtain ⟨HPs,HBr,HI,aFS,Q9,HJ⟩:=aHL hps hbr hi VV LS hj;have htl:=K2 ks;obtain ⟨T,hTx⟩:=aH0 (txt ks);rw[←hTx] at htl ⊢;have HTx:=aHH hTx;have hTl:T.length≤1048576:=(by omega);clear hps hbr hTx VV LS hj hi hkl htl;have Hw:=aHH (QN wr (HT.out.bl (HB1.out.trans HBr.out)));go_wp2_with fail;refine Hw.out.mono ?_;rintro e w2 ⟨gp,rfl,hr2,hb2⟩;have HR2:=aHH hr2;have HB2:=aHH hb2;clear hr2 hb2 Hw;go_wp2_with fail;go_loopw [6,7,19] (fun s6 s7 s19 wx=>∃n:Nat,n≤44∧s19=.int .i64 (n:Int)∧s6=.int .i64 (fnd s i n).1∧s7=.int .i64 (fnd s i n).2∧Bl w2 wx) (fun _ _ v _=>44-(RowKit.intOf v).toNat);case atStart=>exact ⟨0,Nat.zero_le _,rfl,rfl,rfl,Bl.refl _⟩
   case round=>
    rename World=>w5;obtain ⟨k,hk,rfl,rfl,rfl,hb5⟩:=hrel;by_cases VV:k<44
    ·obtain ⟨q,hq⟩:=aH0 (eD k);have HQ:=aHH hq;obtain ⟨adp,eap,cp0⟩:=pX (HR2.out.bl hb5) (hq ▸ IK k VV);obtain rfl:=aIw eap;rw[jY] at cp0;have hkI:(k:Int)<(nZ.length:Int):=(by show (k:Int)<44;omega);have hst:fnd s i (k+1)=if hit s i k=true then ((k:Int),15) else fnd s i k:=rfl;obtain ⟨f1,hf1⟩:=aH0 ((fnd s i k).1);obtain ⟨f2,hf2⟩:=aH0 ((fnd s i k).2);rw[←hf1,←hf2];obtain ⟨HF1,HF2,HSf,HB5⟩:=aHJ hf1 hf2 hst hb5;clear hq hst hf1 hf2;go_upto_region 12 with fail;have hsq:(⟨q.toArray⟩:ByteArray).size=9:=(by rw[Lib.size_mk,HQ.out];exact (eZ k VV).2.2.2);obtain ⟨K,hK⟩:=aH0 w5.heap.size;obtain ⟨w6,hw6⟩:=aH0 (w5.iter ⟨q.toArray⟩ 0);have hit:w6.heap[K]? = some (.stringIter ⟨q.toArray⟩ 0):=by
      rw[hw6,hK];exact heap_alloc_new w5 (.stringIter ⟨q.toArray⟩ 0)
     have hb6:Bl w5 w6:=(by rw[hw6];exact (Bl.refl w5).alloc _);rw[←hw6];try rw[←hK]
     have HK:=aHH hK;have ZQ:=aHH (And.intro hit hb6);clear hw6 hK hit hb6;go_wp2_with fail;go_loopw [10] (fun s6 wi=>∃j:Nat,j≤9∧s6=.string ⟨(fX 0 (q.take j)).toArray⟩∧wi.heap[K]? = some (.stringIter ⟨q.toArray⟩ j)∧Bl w5 wi) (fun _ wi=>9-wi.iterPos K);case atStart=>exact ⟨0,Nat.zero_le _,rfl,ZQ.out⟩
     case round=>
      rename World=>wi;obtain ⟨j,hj,rfl,hit,hbi⟩:=hrel;by_cases hjt:j<9
      ·have hjh:j<(⟨q.toArray⟩:ByteArray).size:=(by rw[hsq];exact hjt);have hgj:=Lib.getElem_mk q j hjh;obtain ⟨p,hp⟩:=aH0 ((⟨q.toArray⟩:ByteArray)[j]'hjh);rw[←hp] at hgj;obtain ⟨p',hp',hp2⟩:=XO VV hjt;rw[←HQ.out,hgj] at hp';obtain rfl:=aIw hp';have ET:=fun ty=>Lib.run_next_ascii_at (P:=Tryz.prog) wi K ⟨q.toArray⟩ j ty hit hjh (by rw[←hp];rcases hp2 with rfl|rfl<;>decide);have h7b:Bl w5 (wi.iterAt K ⟨q.toArray⟩ (j+1)):=Lib.below_iterAt hbi (k:=K) (by have:=HK.out;omega) _ _;have h7i:=Lib.iterAt_heap wi K ⟨q.toArray⟩ j (j+1) hit;rw[←hp] at ET;generalize wi.iterAt K ⟨q.toArray⟩ (j+1)=w7 at ET h7b h7i;have hnx:∀ty,(Instr.next (.pointer (some ⟨K,0,none⟩)) true ty).run Tryz.prog wi=.ok (.tuple #[.bool true,.int .i64 (j:Int),.int .i32 (p.toNat:Int)]) w7:=ET;have hms:=IJ hgj;have hml:=yM (q.take j) 0;rw[aH7] at hml;obtain ⟨M,hM⟩:=aH0 (fX 0 (q.take j));rw[←hM] at hms hml ⊢;have hMl:M.length≤27:=(by omega);have hsM:(⟨M.toArray⟩:ByteArray).size=M.length:=Lib.size_mk M;obtain ⟨HMs,HN,Hit⟩:=aHI hms (And.intro h7i h7b) hit;have ht0:=aGj;have ht1:=aGk;clear hms hM hml hp ET h7b h7i hit hbi hgj hp';by_cases aFU:j % 2=0
       ·rcases hp2 with rfl|rfl
        ·have HB:=aHH (show d9 j=49 by unfold d9;rw[if_pos aFU]);have hmr:(j:Int) % 2=0:=(by omega);have lJ:=fun wx=>cK 49 (.inr rfl) 3 (by decide) (by decide) wx;obtain ⟨rp,hrp⟩:=aH0 (List.replicate 3 (49:UInt8));have hrl:rp.length=3:=(by rw[hrp];rfl);simp only[←hrp] at lJ;have aEE:=aHH lJ;have HRp:=aHH hrp;have hsR:(⟨rp.toArray⟩:ByteArray).size=rp.length:=Lib.size_mk rp;have hoR:¬(9223372036854775807<M.length+rp.length):=(by omega);have kN:=dK M rp;clear lJ hrp;go_wp2_with fail;refine (aEE.out _).mono ?_;rintro e w8 ⟨rfl,hb8⟩;have hkl:K<w7.heap.size:=(aIy.1 HN.out.1).1;have HN8:=aHH (show w8.heap[K]? = some (.stringIter ⟨q.toArray⟩ (j+1)) from (Below.block hb8 K hkl).trans HN.out.1);have HB8:=aHH (HN.out.2.trans hb8);clear hb8 hkl;go_wp2_with fail;exact ⟨⟨j+1,by omega,by rw[HMs.out,HB.out,show lK 119=3 from rfl,←HRp.out,←kN],HN8.out,HB8.out⟩,by simp only[World.iterPos,HN8.out,Hit.out];omega⟩
        ·have HB:=aHH (show d9 j=49 by unfold d9;rw[if_pos aFU]);have hmr:(j:Int) % 2=0:=(by omega);have hoR:¬(9223372036854775807<M.length+1):=(by omega);have kN:(⟨M.toArray⟩:ByteArray)++⟨#[49]⟩=⟨(M++[49]).toArray⟩:=dK M [49];go_wp2_with fail;exact ⟨⟨j+1,by omega,by rw[HMs.out,HB.out,show List.replicate (lK 110) (49:UInt8)=[49] from rfl,←kN],HN.out.1,HN.out.2⟩,by simp only[World.iterPos,HN.out.1,Hit.out];omega⟩
       ·rcases hp2 with rfl|rfl
        ·have HB:=aHH (show d9 j=48 by unfold d9;rw[if_neg (by omega)]);have hmr:(j:Int) % 2=1:=(by omega);have lJ:=fun wx=>cK 48 (.inl rfl) 3 (by decide) (by decide) wx;obtain ⟨rp,hrp⟩:=aH0 (List.replicate 3 (48:UInt8));have hrl:rp.length=3:=(by rw[hrp];rfl);simp only[←hrp] at lJ;have aEE:=aHH lJ;have HRp:=aHH hrp;have hsR:(⟨rp.toArray⟩:ByteArray).size=rp.length:=Lib.size_mk rp;have hoR:¬(9223372036854775807<M.length+rp.length):=(by omega);have kN:=dK M rp;clear lJ hrp;go_wp2_with fail;refine (aEE.out _).mono ?_;rintro e w8 ⟨rfl,hb8⟩;have hkl:K<w7.heap.size:=(aIy.1 HN.out.1).1;have HN8:=aHH (show w8.heap[K]? = some (.stringIter ⟨q.toArray⟩ (j+1)) from (Below.block hb8 K hkl).trans HN.out.1);have HB8:=aHH (HN.out.2.trans hb8);clear hb8 hkl;go_wp2_with fail;exact ⟨⟨j+1,by omega,by rw[HMs.out,HB.out,show lK 119=3 from rfl,←HRp.out,←kN],HN8.out,HB8.out⟩,by simp only[World.iterPos,HN8.out,Hit.out];omega⟩
        ·have HB:=aHH (show d9 j=48 by unfold d9;rw[if_neg (by omega)]);have hmr:(j:Int) % 2=1:=(by omega);have hoR:¬(9223372036854775807<M.length+1):=(by omega);have kN:(⟨M.toArray⟩:ByteArray)++⟨#[48]⟩=⟨(M++[48]).toArray⟩:=dK M [48];go_wp2_with fail;exact ⟨⟨j+1,by omega,by rw[HMs.out,HB.out,show List.replicate (lK 110) (48:UInt8)=[48] from rfl,←kN],HN.out.1,HN.out.2⟩,by simp only[World.iterPos,HN.out.1,Hit.out];omega⟩
      ·obtain rfl:j=9:=(by omega);have hnx:∀ty,(Instr.next (.pointer (some ⟨K,0,none⟩)) true ty).run Tryz.prog wi=.ok (.tuple #[.bool false]) wi:=fun ty=>Lib.run_next_end_at wi K ⟨q.toArray⟩ 9 ty hit (by rw[hsq];omega);have hm9:fX 0 (q.take 9)=qG k:=by
        rw[HQ.out,aID (by rw[(eZ k VV).2.2.2];omega)];rfl
       rw[hm9];have HBi:=aHH (HB5.out.trans hbi);clear hm9 hit hbi;obtain ⟨M,hM⟩:=aH0 (qG k);have aHc:M.length=15:=(by rw[hM];exact (eZ k VV).1);have hM15I:(M.length:Int)=15:=(by omega);have hsM:(⟨M.toArray⟩:ByteArray).size=M.length:=Lib.size_mk M;have aEF:hit s i k=(Lib.hasPrefix (s.drop i) M&&(decide (i+15=s.length)||(s.getD (i+15) 0==48))):=(by rw[hM];rfl);rw[←hM];have hex:=iA s i;obtain ⟨D,hD⟩:=aH0 (s.drop i);rw[←hD] at hex aEF;have hiI:(i:Int)≤(s.length:Int):=(by omega);obtain ⟨Hpf,aDa,HDd⟩:=aHI (fun wx=>dE D M wx) aEF hD;clear hM aEF hD aHc;cases hpf:Lib.hasPrefix D M with
       |false=>have HN:=aHH (HSf.out.trans (if_neg (by rw[aDa.out,hpf];simp)));rw[hpf] at Hpf;clear hpf;go_wp2_with fail;refine (Hpf.out _).mono ?_;rintro e w' ⟨rfl,hw⟩;subst hw;go_wp2_with fail;exact ⟨⟨k+1,by omega,by go_num,by rw[HN.out,HF1.out],by rw[HN.out,HF2.out],HBi.out⟩,by simp[RowKit.intOf]<;>omega⟩
       |true=>
        have hpl:i+15≤s.length:=by
         unfold Lib.hasPrefix at hpf;have h1:=(List.isPrefixOf_iff_prefix.1 hpf).length_le;rw[HDd.out,aIg] at h1;omega
        rw[hpf] at Hpf;by_cases he:i+15=s.length
        ·have HN:=aHH (HSf.out.trans (if_pos (by rw[aDa.out,hpf,aIu he];rfl)));have heI:(i:Int)+15=(s.length:Int):=(by omega);have heb:((i:Int)+15==(s.length:Int))=true:=(by rw[beq_iff_eq];exact heI);clear hpf he;go_wp2_with fail;refine (Hpf.out _).mono ?_;rintro e w' ⟨rfl,hw⟩;subst hw;go_wp2_with fail;exact ⟨⟨k+1,by omega,by go_num,by rw[HN.out],by rw[HN.out],HBi.out⟩,by simp[RowKit.intOf]<;>omega⟩
        ·have hil:i+15<s.length:=(by omega);obtain ⟨c,hc⟩:∃c,s[i+15]? = some c:=⟨_,aH2 hil⟩;obtain ⟨c1,c2⟩:=e9 hc;have hgc:s.getD (i+15) 0=c:=(by rw[aH4,hc];rfl);have heI:¬((i:Int)+15=(s.length:Int)):=(by omega);have heb:((i:Int)+15==(s.length:Int))=false:=(by rw[aIr];exact heI);have hilI:(i:Int)+15<(s.length:Int):=(by omega);cases h48:(c==48) with
         |true=>have HN:=aHH (HSf.out.trans (if_pos (by rw[aDa.out,hpf,hgc,h48];simp)));have hce:c=48:=(by simpa using h48);clear hpf hgc hc h48;subst hce;go_wp2_with fail;refine (Hpf.out _).mono ?_;rintro e w' ⟨rfl,hw⟩;subst hw;go_wp2_with fail;exact ⟨⟨k+1,by omega,by go_num,by rw[HN.out],by rw[HN.out],HBi.out⟩,by simp[RowKit.intOf]<;>omega⟩
         |false=>
          have HN:=aHH (HSf.out.trans (if_neg (by rw[aDa.out,hpf,hgc,h48,aIt he];simp)));have hcn:¬((c.toNat:Int)=48):=fun e=>by
           have:c=48:=UInt8.toNat_inj.1 (by have:(48:UInt8).toNat=48:=rfl;omega);rw[this] at h48;cases h48
          have hcb:((c.toNat:Int)==48)=false:=(by rw[aIr];exact hcn);clear hpf hgc hc h48 he;go_wp2_with fail;refine (Hpf.out _).mono ?_;rintro e w' ⟨rfl,hw⟩;subst hw;go_wp2_with fail;exact ⟨⟨k+1,by omega,by go_num,by rw[HN.out,HF1.out],by rw[HN.out,HF2.out],HBi.out⟩,by simp[RowKit.intOf]<;>omega⟩
    ·obtain rfl:k=44:=(by omega);have HB5:=aHH hb5;clear hb5;cases hg:gR s j with
     |none=>
      have HR:=aHH (wA (s:=s) (by
       rw[HO.out,UW (j:=j) (by have:=HJ.out;rw[←HI.out];exact this) hg];rfl))
      have hfe:=Q9.out;rw[hg] at hfe;rw[hfe];clear hfe hg;go_wp2_with fail;exact aIx (v:=.tuple #[.string ⟨#[]⟩,.bool false]) (by simp[results,Tryz.results258,go_sem]) rfl ⟨by rw[HR.out],HB1.out.trans (HBr.out.trans (HB2.out.trans HB5.out))⟩
     |some n=>
      have hfe:=Q9.out;rw[hg] at hfe;rw[hfe];obtain ⟨hg1,aHd,-⟩:=(oM s j n).1 hg;rw[←HI.out] at hg1;have hpl:i+15≤s.length:=by
       rcases hg1 with h|h
       ·omega
       ·have:=(aH3.1 h).1;omega
      have hex:=XN eU n 44 aHd (by decide);obtain ⟨X,hX⟩:∃X,X=[eU.getD n 0]:=⟨_,rfl⟩;rw[←hX] at hex;have hX1:X.length=1:=(by rw[hX];rfl);unfold eU at hex;have hsT:(⟨T.toArray⟩:ByteArray).size=T.length:=Lib.size_mk T;have hsX:(⟨X.toArray⟩:ByteArray).size=X.length:=Lib.size_mk X;have hoT:¬(9223372036854775807<T.length+X.length):=(by omega);have kN:=dK T X;have HXt:=aHH (show txt (ks++[n])=T++X by rw[UQ,HTx.out,hX]);have HNx:=aHH (K5 HPs.out hg);have hnI:(n:Int)+1≤44:=(by omega);clear hfe hg hX hg1;by_cases he:i+15=s.length
      ·have heI:(i:Int)+15=(s.length:Int):=(by omega);have heb:((i:Int)+15==(s.length:Int))=true:=(by rw[beq_iff_eq];exact heI);have CJ:yN s=some (T++X):=by
        rw[HO.out,←HXt.out];unfold FK;rw[if_pos (by have:=HI.out;omega),show (s.length+1) / 16=j+1 by have:=HI.out;omega,HNx.out];rfl
       obtain ⟨U,hU⟩:=aH0 (T++X);rw[←hU] at CJ kN;have zH:=aHH CJ;clear CJ hU HXt HNx he hTl;have hsU:(⟨U.toArray⟩:ByteArray).size=U.length:=Lib.size_mk U;go_upto_region 29 with fail;have hD:ED U=(decide (4≤U.length)&&(decide (U.length≤43)&&(U.getD 0 0==42&&(U.getD (U.length-1) 0==42&&!(qC U).contains 42)))):=rfl;have HD:=aHH hD;clear hD;by_cases h4:4≤U.length
       ·have h4I:¬((U.length:Int)<4):=(by omega);have h4N:¬(U.length<4):=(by omega);by_cases h43:U.length≤43
        ·have h43I:¬((43:Int)<(U.length:Int)):=(by omega);have h43N:¬(43<U.length):=(by omega);obtain ⟨a,ha⟩:∃a,U[0]? = some a:=⟨_,aH2 (by omega)⟩;obtain ⟨L,hL⟩:=aH0 (U.length-1);obtain ⟨z,hz⟩:∃z,U[L]? = some z:=⟨_,aH2 (by omega)⟩;have hLI:(U.length:Int)-1=(L:Int):=(by omega);have hLs:(L:Int)<(U.length:Int):=(by omega);have hL1:(1:Int)≤(L:Int):=(by omega);obtain ⟨a1,a2⟩:=e9 ha;obtain ⟨z1,z2⟩:=e9 hz;have hga:U.getD 0 0=a:=(by rw[aH4,ha];rfl);have hgz:U.getD (U.length-1) 0=z:=(by rw[←hL,aH4,hz];rfl);have HD2:=aHH (show ED U=(a==42&&(z==42&&!(qC U).contains 42)) by rw[HD.out,aIu h4,aIu h43,hga,hgz];rfl);have V9:(⟨U.toArray⟩:ByteArray).extract 1 L=⟨(qC U).toArray⟩:=by
          rw[eO];unfold qC;rw[show L-1=U.length-2 by omega]
         have HLn:=aHH hL;clear hga hgz ha hz hL h4 h43 HD;cases h42:(a==42) with
         |false=>
          have aEC:¬((a.toNat:Int)=42):=fun e=>by
           have:a=42:=UInt8.toNat_inj.1 (by have:(42:UInt8).toNat=42:=rfl;omega);rw[this] at h42;cases h42
          have hab:((a.toNat:Int)==42)=false:=(by rw[aIr];exact aEC);have HR:=aHH (m8 zH.out (by rw[HD2.out,h42];rfl));clear h42 V9;go_wp2_with fail;exact aIx (v:=.tuple #[.string ⟨#[]⟩,.bool false]) (by simp[results,Tryz.results258,go_sem]) rfl ⟨by rw[HR.out],HB1.out.trans (HBr.out.trans (HB2.out.trans HB5.out))⟩
         |true=>
          have hae:a=42:=(by simpa using h42);cases hz2:(z==42) with
          |false=>
           have aED:¬((z.toNat:Int)=42):=fun e=>by
            have:z=42:=UInt8.toNat_inj.1 (by have:(42:UInt8).toNat=42:=rfl;omega);rw[this] at hz2;cases hz2
           have hzb:((z.toNat:Int)==42)=false:=(by rw[aIr];exact aED);have HR:=aHH (m8 zH.out (by rw[HD2.out,h42,hz2];rfl));clear h42 hz2 V9;subst hae;go_wp2_with fail;exact aIx (v:=.tuple #[.string ⟨#[]⟩,.bool false]) (by simp[results,Tryz.results258,go_sem]) rfl ⟨by rw[HR.out],HB1.out.trans (HBr.out.trans (HB2.out.trans HB5.out))⟩
          |true=>
           have hze:z=42:=(by simpa using hz2);have hcn:=fun wx=>XL (qC U) 42 wx;have hcd:decide (0≤Lib.indexByte (qC U) 42)=(qC U).contains 42:=by
            rw[Bool.eq_iff_iff,decide_eq_true_eq,UI];simp
           simp only[hcd] at hcn;obtain ⟨Y,hY⟩:=aH0 (qC U);rw[←hY] at hcn V9;cases hct:Y.contains 42 with
           |true=>have HR:=aHH (m8 zH.out (by rw[HD2.out,h42,hz2,←hY,hct];rfl));simp only[hct] at hcn;have Hcn:=aHH hcn;clear h42 hz2 hcn hcd hY hct;subst hae;subst hze;go_wp2_with fail;refine (Hcn.out _).mono ?_;rintro e w' ⟨rfl,hw⟩;subst hw;go_wp2_with fail;exact aIx (v:=.tuple #[.string ⟨#[]⟩,.bool false]) (by simp[results,Tryz.results258,go_sem]) rfl ⟨by rw[HR.out],HB1.out.trans (HBr.out.trans (HB2.out.trans HB5.out))⟩
           |false=>have HR:=aHH ((NK zH.out (by rw[HD2.out,h42,hz2,←hY,hct];rfl)).trans (by rw[←hY]));simp only[hct] at hcn;have Hcn:=aHH hcn;clear h42 hz2 hcn hcd hY hct;subst hae;subst hze;go_wp2_with fail;refine (Hcn.out _).mono ?_;rintro e w' ⟨rfl,hw⟩;subst hw;go_wp2_with fail;exact aIx (v:=.tuple #[.string ⟨Y.toArray⟩,.bool true]) (by simp[results,Tryz.results258,go_sem];try exact V9) rfl ⟨by rw[HR.out],HB1.out.trans (HBr.out.trans (HB2.out.trans HB5.out))⟩
        ·have HR:=aHH (m8 zH.out (by rw[HD.out,aIt h43,Bool.false_and,Bool.and_false]));have h2:(43:Int)<(U.length:Int):=(by omega);have h2N:43<U.length:=(by omega);clear h4 h43 HD;go_wp2_with fail;exact aIx (v:=.tuple #[.string ⟨#[]⟩,.bool false]) (by simp[results,Tryz.results258,go_sem]) rfl ⟨by rw[HR.out],HB1.out.trans (HBr.out.trans (HB2.out.trans HB5.out))⟩
       ·have HR:=aHH (m8 zH.out (by rw[HD.out,aIt h4,Bool.false_and]));have h1:(U.length:Int)<4:=(by omega);have h1N:U.length<4:=(by omega);clear h4 HD;go_wp2_with fail;exact aIx (v:=.tuple #[.string ⟨#[]⟩,.bool false]) (by simp[results,Tryz.results258,go_sem]) rfl ⟨by rw[HR.out],HB1.out.trans (HBr.out.trans (HB2.out.trans HB5.out))⟩
      ·have heI:¬((i:Int)+15=(s.length:Int)):=(by omega);have heb:((i:Int)+15==(s.length:Int))=false:=(by rw[aIr];exact heI);by_cases he2:i+16=s.length
       ·have HR:=aHH (wA (s:=s) (by
         rw[HO.out,XT (j:=j+1) (by have:=HI.out;omega)];rfl))
        have aEG:(i:Int)+15+1=(s.length:Int):=(by omega);have aHe:((i:Int)+15+1==(s.length:Int))=true:=(by rw[beq_iff_eq];exact aEG);clear he he2;go_wp2_with fail;exact aIx (v:=.tuple #[.string ⟨#[]⟩,.bool false]) (by simp[results,Tryz.results258,go_sem]) rfl ⟨by rw[HR.out],HB1.out.trans (HBr.out.trans (HB2.out.trans HB5.out))⟩
       ·have aEG:¬((i:Int)+15+1=(s.length:Int)):=(by omega);have aHe:((i:Int)+15+1==(s.length:Int))=false:=(by rw[aIr];exact aEG);have HL:=aHH (show i+16<s.length by omega);clear he he2;go_wp2_with fail;exact ⟨⟨j+1,ks++[n],by have:=HI.out;have:=HL.out;omega,by rw[show (16*(j+1):Nat)=i+16 by rw[HI.out];omega];simp;omega,HNx.out,by rw[HXt.out,←kN],HBr.out.trans (HB2.out.trans HB5.out)⟩,by have:=HL.out;simp[RowKit.intOf]<;>omega⟩
end Go.Proofs.YtllefinciimffaaGreatDoor
