import Derived.Test.YtllefinciimffaaGreatDoorMClaimTopForms24
set_option maxHeartbeats 20000000
set_option maxRecDepth 100000
namespace Go.Proofs.YtllefinciimffaaGreatDoor
open Go.RowKit Go.Shelf
def aCe (s:List UInt8):Value:=.string ⟨s.toArray⟩
theorem zP {α β : Type} [BEq α] [LawfulBEq α] (x : α) : ∀ l : List (α × β), l.lookup x = (l.find? fun e => e.1 == x).map (·.2)
 |[]=>rfl
 |(k,v) :: l=>by
   rw[List.lookup,List.find?_cons];by_cases h:x=k
   ·subst h;simp
   ·have h1:(x==k)=false:=(by simpa using h);have h2:(k==x)=false:=(by simpa using fun e=>h e.symm);rw[h1];simp only[h2];exact zP x l
theorem FZ (x:List UInt8):(ZU 10).lookup x=uS x:=zP x (ZU 10)
theorem W8 {m:List UInt8} {n:Nat} {ps:List (UInt8 × List UInt8)} (h:dI m n=some ps):(lS ps).length=n∧(rB ps).length=n:=by
 have hl:=jB h;refine ⟨?_,by unfold rB;rw[aLz,hl]⟩;have key:∀qs:List (UInt8 × List UInt8),(∀p∈qs,p.2.length=1)→(lS qs).length=qs.length:=by
  intro qs;induction qs with
  |nil=>intro _;rfl
  |cons q qs ih=>intro hq;have e:lS (q :: qs)=q.2++lS qs:=(by unfold lS;rw[aMi]);rw[e,aLy,hq q (List.mem_cons_self ..),ih fun p hp=>hq p (List.mem_cons_of_mem _ hp),aLB];omega
 rw[key ps fun p hp => ?_,hl];obtain ⟨i,hi,rfl⟩:=aL4 hp;have hd:=mD h i _ (aLv hi);obtain ⟨d,-,-,hn,-,-⟩:=uT (k:=ps[i].1) (n:=ps[i].2) hd;rw[hn];rfl
theorem nM {ps:List (UInt8 × List UInt8)} (k:UInt8) (n:List UInt8):lS (ps++[(k,n)])=lS ps++n∧rB (ps++[(k,n)])=rB ps++[k]:=by
 unfold lS rB;rw[aMh,aLS];exact ⟨by simp,rfl⟩
theorem jG {m:List UInt8} (h:jV m=none):jL m=([],2):=by unfold jL;rw[h]
theorem qS {m:List UInt8} (h:jA m=false):jV m=none:=by unfold jV;rw[if_neg (by rw[h];decide)]
theorem M2 (a b:List UInt8):decide (a=b)=(a==b):=by rw[Bool.eq_iff_iff];simp
theorem qT {w w':World} {g n:Nat} {xs:List Value} (h:Reads w 1 (some ⟨g,0,none⟩) n xs) (hb:w'.heap[g]? = w.heap[g]?):Reads w' 1 (some ⟨g,0,none⟩) n xs:=
 ⟨h.1,fun hn=>by
  obtain ⟨ad,e,hc⟩:=h.2 hn;obtain rfl:=aLZ e;refine ⟨_,rfl,fun j u hu => ?_⟩;have h1:=hc j u hu;rw[iT] at h1 ⊢;unfold World.cell? at h1 ⊢;rw[hb];exact h1⟩
theorem aCf {w:World} {b g n:Nat} {xs:List Value} {es:Array MapEntry} {c:Nat} (hm:w.heap[b]? = some (.map es c)) (h:Reads w 1 (some ⟨g,0,none⟩) n xs) (hn:0<n):g≠b:=fun e=>by
 subst e;obtain ⟨ad,u,e1,hu,hc⟩:=h.at_ hn;obtain rfl:=aLZ e1;rw[iT] at hc;unfold World.cell? at hc;rw[hm] at hc;cases hc
theorem PA (w:World) (g cap d:Nat) (hd:d<10) (hc:w.cell? ⟨g,0,none⟩=some (.int .u8 (48+(d:Int)))) :
 (convert 92 9 (.slice (some ⟨g,0,none⟩) 1 cap)).run Tryz.prog w=.ok (.string ⟨[UInt8.ofNat (48+d)].toArray⟩) w:=by
 have h8:((UInt8.ofNat (48+d)).toNat:Int)=48+(d:Int):=by
  have:∀d<10,(UInt8.ofNat (48+d)).toNat=48+d:=(by decide);rw[this d hd];omega
 exact run_convert_bytes_back (P:=Tryz.prog) w 92 9 5 ⟨g,0,none⟩ cap [UInt8.ofNat (48+d)] Tryz.underlying92 Tryz.underlying5 Tryz.underlying9 (fun j hj=>by
  have hj0:j=0:=(by simp at hj;omega);subst hj0;show w.cell? ((⟨g,0,none⟩:Addr).add 0)=_;rw[show (⟨g,0,none⟩:Addr).add 0=⟨g,0,none⟩ by (unfold Addr.add;simp),hc];show _=some (Value.int .u8 ((UInt8.ofNat (48+d)).toNat:Int));rw[h8])
theorem W9 (W:World) (v:Value):(W.alloc (.cells #[v] 5)).cell? ⟨W.heap.size,0,none⟩=some v:=by
 have h:=Blk.new W 5 #[v];obtain ⟨ad,e,hc⟩:=(h.reads 1 1 rfl).2 (by decide);obtain rfl:=aLZ e;exact hc 0 _ rfl
theorem XA {l:List UInt8} (cL:l.length=13) (hm:aM l bJ=true):uR (l.take 12) 12=true:=by
 unfold uR;rw[aLX (by rw[aLA];omega)];unfold aM at hm ⊢;rw[aLO] at hm;show ((l.take 12).all fun b=>bJ.contains b)=true;rw[aLO];exact fun b hb=>hm b (List.mem_of_mem_take hb)
theorem aDj {m:List UInt8} {ps:List (UInt8 × List UInt8)} {P R X:List UInt8} (hh:jA m=true) (hp:dI m 12=some ps) (hP:P=lS ps) (hR:R=rB ps) (hX:X=R.take 6):jV m=(mR X).map fun f=>UInt8.ofNat (48+f) :: P:=by
 unfold jV;rw[if_pos hh,hX,hR,hP];simp only[hp]
def aEC (X:List UInt8):Int:=match mR X with|some k=>(k:Int)|none => -1
theorem JW (X:List UInt8) (g:Nat) (w:World) (hr:Reads w 1 (some ⟨g,0,none⟩) dL.length (bE dL)) :
 Calls Tryz.prog 166 #[.slice (some ⟨g,0,none⟩) dL.length dL.length,X] w fun e w'=>e=.returned (.int .i64 (aEC X))∧w=w':=
 JV g dL X w hr (by decide)
theorem M3 (m:List UInt8) (w:World) (hl:m.length≤9223372036854775807) :
 Calls Tryz.prog 328 #[m] w fun e w'=>e=.returned (.tuple #[.string ⟨(jL m).1.toArray⟩,.int .i64 (jL m).2])∧Bl w w':=by
 have Ht:=aLa (tI m [48,49] w hl (by decide) (by
  intro j b h;have:∀b∈([48,49]:List UInt8),b.toNat<128:=(by decide);exact this b (List.mem_of_getElem? h)))
 have hsz:(⟨m.toArray⟩:ByteArray).size=m.length:=Lib.size_mk m
 go_in
 by_cases h95:m.length=95
 ·have aKi:((m.length:Int)==95)=true:=(by rw[beq_iff_eq];omega);have hlI:(m.length:Int)=95:=(by omega);cases hmd:aM m [48,49] with
  |false=>have HR:=aLa (jG (VY hmd));have htr:(Lib.trimS m [48,49]).isEmpty=false:=(by rw[kG,hmd]);clear hmd;go_wp2_with fail;refine Ht.out.mono ?_;rintro e w1 ⟨rfl,hb1⟩;go_wp2_with fail;exact aL0 (v:=.tuple #[.string ⟨#[]⟩,.int .i64 2]) (by simp[results,Tryz.results328,go_sem]) rfl ⟨by rw[HR.out],hb1⟩
  |true=>
   have htr:(Lib.trimS m [48,49]).isEmpty=true:=(by rw[kG,hmd]);have HMd:=aLa hmd;clear hmd;have hx3:(⟨m.toArray⟩:ByteArray).extract 0 3=⟨(m.take 3).toArray⟩:=kC m 0 3;have hx5:(⟨m.toArray⟩:ByteArray).extract 45 50=⟨((m.drop 45).take 5).toArray⟩:=kC m 45 50;have hx9:(⟨m.toArray⟩:ByteArray).extract 92 m.length=⟨(m.drop 92).toArray⟩:=l9 m 92;have UI:jA m=((m.take 3==wX)&&(((m.drop 45).take 5==IU)&&(m.drop 92==wX))):=by
    unfold jA;rw[aLX h95,Bool.true_and,M2,M2,M2]
   obtain ⟨X3,hX3⟩:=aLt (m.take 3);obtain ⟨X5,hX5⟩:=aLt ((m.drop 45).take 5);obtain ⟨X9,hX9⟩:=aLt (m.drop 92);rw[←hX3] at hx3 UI;rw[←hX5] at hx5 UI;rw[←hX9] at hx9 UI;unfold wX IU at UI;have HHd:=aLa UI;have HL:=aLa h95;clear UI hX3 hX5 hX9 h95;cases h3:(X3==[49,48,49]) with
   |true=>
    cases h5:(X5==[48,49,48,49,48]) with
    |true=>
     cases h9:(X9==[49,48,49]) with
     |true=>
      have HH:=aLa (show jA m=true by rw[HHd.out,h3,h5,h9];rfl);clear HHd;have hmm:=@run_makeMap Tryz.prog;have hmt:=Tryz.underlying368;go_wp2_with fail;refine Ht.out.mono ?_;rintro e w1 ⟨rfl,hb1⟩;clear Ht;go_wp2_with fail;clear hmm;obtain ⟨b0,hb0⟩:=aLt w1.heap.size;have hm0:MapL aCe aCe (w1.alloc (.map #[] 0)) b0 ([]:List (List UInt8 × List UInt8)):=(by rw[hb0];exact MapL.new _);have hb2:Bl w (w1.alloc (.map #[] 0)):=hb1.alloc _;have HB0:=aLa (show w.heap.size≤b0 by rw[hb0];exact hb1.le);rw[←hb0];generalize w1.alloc (.map #[] 0)=w2 at hm0 hb2 ⊢;clear hb0 hb1;refine (kY _).mono ?_;rintro e w3 ⟨g,rfl,hr3,hb3⟩;have hm3:=hm0.bl hb3;have HGb:=aLa (show g≠b0 from by
       obtain ⟨es,c,h1⟩:=hm3.block;exact aCf h1 hr3 (by decide))
      have HSt:=aLa (And.intro (hb2.trans hb3) (And.intro hr3 hm3));clear hm0 hb2 hr3 hb3 hm3;go_wp2_with fail;go_loopw [47] (fun v wr=>∃d:Nat,d≤10∧v=.int .i64 d∧Bl w wr∧Reads wr 1 (some ⟨g,0,none⟩) fA.length (bE fA)∧MapL aCe aCe wr b0 (ZU d)) (fun v _=>10-(RowKit.intOf v).toNat);case atStart=>exact ⟨0,Nat.zero_le _,rfl,HSt.out.1,HSt.out.2.1,HSt.out.2.2⟩
      case round=>
       rename World=>wr;obtain ⟨d,hd,rfl,hbr,hrr,hmr⟩:=hrel;by_cases hlt:d<10
       ·obtain ⟨ad,ea,c0⟩:=kS hrr (O8 d hlt);obtain rfl:=aLZ ea;rw[iT] at c0;have hL7:=nI 76 d hlt;rw[zO] at hL7;have hE7:=aCd d hlt;have hF7:(exB (fA.getD d [])).reverse.length=7:=(by rw[aL3];exact hE7);have hcE:=fun wx=>tP d hlt wx;have hcF:=fun wx=>kW (exB (fA.getD d [])) wx (by omega);unfold FlipRes at hcF;obtain ⟨N,hN⟩:∃N,N=[UInt8.ofNat (48+d)]:=⟨_,rfl⟩;have hst:ZU (d+1)=(71 :: (exB (fA.getD d [])).reverse,N) :: (82 :: exB (fA.getD d []),N) :: (76 :: fA.getD d [],N) :: ZU d:=(by rw[hN];rfl);obtain ⟨E,hE⟩:=aLt (exB (fA.getD d []));obtain ⟨F,hF⟩:=aLt E.reverse;rw[←hE] at hE7 hF7 hcE hcF hst;rw[←hF] at hF7 hcF hst;obtain ⟨L,hL⟩:=aLt (fA.getD d []);rw[←hL] at hL7 hcE c0 hst;obtain ⟨HcE,HcF,aFj⟩:=aLb hcE hcF hst;have hsL:(⟨L.toArray⟩:ByteArray).size=L.length:=Lib.size_mk L;have hsE:(⟨E.toArray⟩:ByteArray).size=E.length:=Lib.size_mk E;have hsF:(⟨F.toArray⟩:ByteArray).size=F.length:=Lib.size_mk F;have hoL:¬(9223372036854775807<1+L.length):=(by omega);have hoE:¬(9223372036854775807<1+E.length):=(by omega);have hoF:¬(9223372036854775807<1+F.length):=(by omega);have hkL:(⟨#[76]⟩:ByteArray)++⟨L.toArray⟩=⟨(76 :: L).toArray⟩:=cE [76] L;have hkE:(⟨#[82]⟩:ByteArray)++⟨E.toArray⟩=⟨(82 :: E).toArray⟩:=cE [82] E;have hkF:(⟨#[71]⟩:ByteArray)++⟨F.toArray⟩=⟨(71 :: F).toArray⟩:=cE [71] F;obtain ⟨KL,hKL⟩:=aLt (76 :: L);obtain ⟨KE,hKE⟩:=aLt (82 :: E);obtain ⟨KF,hKF⟩:=aLt (71 :: F);rw[←hKL] at hkL;rw[←hKE] at hkE;rw[←hKF] at hkF;have HK:=aLa (show ZU (d+1)=(KF,N) :: (KE,N) :: (KL,N) :: ZU d by rw[aFj.out,hKL,hKE,hKF]);have aKj:=PA (wr.alloc (.cells #[.int .u8 (48+(d:Int))] 5)) wr.heap.size 1 d hlt (by
         have h:=Blk.new wr 5 #[.int .u8 (48+(d:Int))];exact (h.reads 1 1 rfl).2 (by decide) |>.elim fun ad h=>by
          obtain ⟨e,hc⟩:=h;obtain rfl:=aLZ e;exact hc 0 _ rfl)
        rw[←hN] at aKj;have Hb6:=aLa (Bl.alloc (Bl.refl wr) (.cells #[.int .u8 (48+(d:Int))] 5));have HRd:=aLa (And.intro hbr (And.intro hrr hmr));clear hN hst hE hF hL hKL hKE hKF hcE hcF aFj hbr hrr hmr;go_upto_region 7 with fail;go_wp2_with fail;generalize wr.alloc (.cells #[.int .u8 (48+(d:Int))] 5)=w6 at Hb6 ⊢;refine (HcE.out _).mono ?_;rintro e w7 ⟨rfl,hb7⟩;go_wp2_with fail;refine (HcE.out _).mono ?_;rintro e w8 ⟨rfl,hb8⟩;go_wp2_with fail;refine (HcF.out _).mono ?_;rintro e w9 ⟨rfl,hb9⟩;have aGh:=Bl.trans (Bl.trans (Bl.trans Hb6.out hb7) hb8) hb9;have hm9:=HRd.out.2.2.bl aGh;obtain ⟨w10,hu1,aEg,aDU⟩:=hm9.update (gE (P:=Tryz.prog) Tryz.underlying9) hmt KL N;obtain ⟨w11,hu2,aII,aHp⟩:=aEg.update (gE (P:=Tryz.prog) Tryz.underlying9) hmt KE N;obtain ⟨w12,hu3,aHq,aDV⟩:=aII.update (gE (P:=Tryz.prog) Tryz.underlying9) hmt KF N;have aKk:(Instr.mapUpdate 368 (.map (some b0)) (.string ⟨KL.toArray⟩) (.string ⟨N.toArray⟩)).run Tryz.prog w9=.ok () w10:=hu1;have hu2':(Instr.mapUpdate 368 (.map (some b0)) (.string ⟨KE.toArray⟩) (.string ⟨N.toArray⟩)).run Tryz.prog w10=.ok () w11:=hu2;have hu3':(Instr.mapUpdate 368 (.map (some b0)) (.string ⟨KF.toArray⟩) (.string ⟨N.toArray⟩)).run Tryz.prog w11=.ok () w12:=hu3;rw[←HK.out] at aHq;obtain ⟨aHr,aHs,aHt⟩:=aLb aHq (aDV.2.2 w (aHp.2.2 w (aDU.2.2 w (HRd.out.1.trans aGh) HB0.out) HB0.out) HB0.out) (qT (qT (qT (HRd.out.2.1.bl aGh) (aDU.1 g HGb.out)) (aHp.1 g HGb.out)) (aDV.1 g HGb.out));clear hu1 hu2 hu3 hm9 aEg aII aHq aDU aHp aDV aGh hb7 hb8 hb9 Hb6 HcE HcF HRd HK;go_wp2_with fail;exact ⟨⟨d+1,by omega,by go_num,aHs.out,aHt.out,aHr.out⟩,by simp[RowKit.intOf]<;>omega⟩
       ·obtain rfl:d=10:=(by omega);have HM:=aLa hmr;have HBr:=aLa hbr;clear hmr hbr hrr;go_wp2_with fail;have HS0:=aLa (And.intro HBr.out HM.out);go_loopw [8,9,73] (fun s8 s9 s73 wx=>∃(i:Nat) (ps:List (UInt8 × List UInt8)),i≤12∧s73=.int .i64 (i:Int)∧dI m i=some ps∧s8=.string ⟨(lS ps).toArray⟩∧s9=.string ⟨(rB ps).toArray⟩∧Bl wr wx) (fun _ _ v _=>12-(RowKit.intOf v).toNat);case atStart=>exact ⟨0,[],Nat.zero_le _,rfl,rfl,rfl,rfl,Bl.refl _⟩
        case round=>
         rename World=>wx;obtain ⟨i,ps,hi,rfl,hps,rfl,rfl,hbx⟩:=hrel;obtain ⟨hol,hrl⟩:=W8 hps;by_cases hlt:i<12
         ·have HPs:=aLa hps;have HBx:=aLa hbx;have hi12:(i:Int)<12:=(by omega);have aIJ:dI m (i+1)=(match qN i (gAt m i) with|none=>none|some p=>some (ps++[p])):=by
           show (match dI m i with|none=>none|some ps=>match qN i (gAt m i) with|none=>none|some p=>some (ps++[p]))=_;rw[hps]
          have aFk:=aLa aIJ;obtain ⟨P,hP⟩:=aLt (lS ps);obtain ⟨R,hRw⟩:=aLt (rB ps);rw[←hP] at hol ⊢;rw[←hRw] at hrl ⊢;have HP:=aLa hP;have HRw:=aLa hRw;have hsP:(⟨P.toArray⟩:ByteArray).size=P.length:=Lib.size_mk P;have hsR:(⟨R.toArray⟩:ByteArray).size=R.length:=Lib.size_mk R;clear hps hbx aIJ hP hRw;by_cases h6:i<6
          ·have h6I:(i:Int)<6:=(by omega);go_upto_region 20 with fail;obtain ⟨a,ha⟩:=aLt (wY i:Nat);have hai:(3:Int)+7*(i:Int)=(a:Int):=(by rw[ha];unfold wY;rw[if_neg (by omega)];omega);have ha7:(a:Int)+7≤95:=(by omega);rw[hai];obtain ⟨s,hs⟩:=aLt (gAt m i);have hex:(⟨m.toArray⟩:ByteArray).extract a (a+7)=⟨s.toArray⟩:=by
            rw[kC,hs,show a+7-a=7 by omega];unfold gAt;rw[ha]
           have hs7:s.length=7:=by
            rw[hs];unfold gAt;rw[aLA,aLJ,←ha,HL.out];omega
           have hss:(⟨s.toArray⟩:ByteArray).size=s.length:=Lib.size_mk s;have hos:¬(9223372036854775807<1+s.length):=(by omega);have hoR:¬(9223372036854775807<R.length+1):=(by omega);rw[←hs] at aFk;have HSg:=aLa hs;clear hai ha hs;have hbk:=Blk.new wx 9 #[.string ⟨#[76]⟩,.string ⟨#[71]⟩];have hb5:Bl wr (wx.alloc (.cells #[.string ⟨#[76]⟩,.string ⟨#[71]⟩] 9)):=Bl.alloc HBx.out _;have hkc:=hbk.all2;obtain ⟨kb,hkb⟩:=aLt wx.heap.size;rw[←hkb] at hkc ⊢;generalize wx.alloc (.cells #[.string ⟨#[76]⟩,.string ⟨#[71]⟩] 9)=w5 at hkc hb5 ⊢;have HB5:=aLa hb5;have hkL:(⟨#[76]⟩:ByteArray)++⟨s.toArray⟩=⟨(76 :: s).toArray⟩:=cE [76] s;have Z1:=(HM.out.bl hb5).lookup2 (gE (P:=Tryz.prog) Tryz.underlying9) hmt (Tryz.zeroValue9 w5) (76 :: s);rw[FZ] at Z1;obtain ⟨KL,hKL⟩:=aLt (76 :: s);have hkG:(⟨#[71]⟩:ByteArray)++⟨s.toArray⟩=⟨(71 :: s).toArray⟩:=cE [71] s;have Z2:=(HM.out.bl hb5).lookup2 (gE (P:=Tryz.prog) Tryz.underlying9) hmt (Tryz.zeroValue9 w5) (71 :: s);rw[FZ] at Z2;obtain ⟨KG,hKG⟩:=aLt (71 :: s);rw[←hKL] at hkL;rw[←hKG] at hkG;cases hL:uS (76 :: s) with
           |some n=>
            have hG:=aAD hL;have hlL:(Instr.lookup 368 (.map (some b0)) (.string ⟨KL.toArray⟩) true).run Tryz.prog w5=.ok (.tuple #[n,.bool true]) w5:=(by rw[hKL];rw[hL] at Z1;exact Z1);have hlG:(Instr.lookup 368 (.map (some b0)) (.string ⟨KG.toArray⟩) true).run Tryz.prog w5=.ok (.tuple #[.string ⟨#[]⟩,.bool false]) w5:=(by rw[hKG];rw[hG] at Z2;exact Z2);have hn1:n.length=1:=by
             obtain ⟨d,-,-,hn⟩:=mC hL;rw[hn];rfl
            have hsn:(⟨n.toArray⟩:ByteArray).size=n.length:=Lib.size_mk n;have hon:¬(9223372036854775807<P.length+n.length):=(by omega);have hcn:=cE P n;have hcr:(⟨R.toArray⟩:ByteArray)++⟨#[76]⟩=⟨(R++[76]).toArray⟩:=cE R [76];have HNx:=aLa (show dI m (i+1)=some (ps++[(76,n)]) by rw[aFk.out,show qN i s=some (76,n) from by unfold qN;rw[if_neg (by omega),hL]]);clear Z1 Z2 hL hG hKL hKG hbk hkb hb5;go_wp2_with fail;refine wp_loop_rounds 3 ?_;rw[rounds_succ];go_wp2_with fail;rw[rounds_succ];go_wp2_with fail;rw[rounds_succ];go_wp2_with fail;exact ⟨⟨i+1,ps++[(76,n)],by omega,by go_num,HNx.out,by rw[(nM _ _).1,←HP.out,←hcn],by rw[(nM _ _).2,←HRw.out,←hcr],HB5.out⟩,by simp[RowKit.intOf]<;>omega⟩
           |none=>
            cases hG:uS (71 :: s) with
            |some n=>
             have hlL:(Instr.lookup 368 (.map (some b0)) (.string ⟨KL.toArray⟩) true).run Tryz.prog w5=.ok (.tuple #[.string ⟨#[]⟩,.bool false]) w5:=(by rw[hKL];rw[hL] at Z1;exact Z1);have hlG:(Instr.lookup 368 (.map (some b0)) (.string ⟨KG.toArray⟩) true).run Tryz.prog w5=.ok (.tuple #[n,.bool true]) w5:=(by rw[hKG];rw[hG] at Z2;exact Z2);have hn1:n.length=1:=by
              obtain ⟨d,-,-,hn⟩:=mC hG;rw[hn];rfl
             have hsn:(⟨n.toArray⟩:ByteArray).size=n.length:=Lib.size_mk n;have hon:¬(9223372036854775807<P.length+n.length):=(by omega);have hcn:=cE P n;have hcr:(⟨R.toArray⟩:ByteArray)++⟨#[71]⟩=⟨(R++[71]).toArray⟩:=cE R [71];have HNx:=aLa (show dI m (i+1)=some (ps++[(71,n)]) by rw[aFk.out,show qN i s=some (71,n) from by unfold qN;rw[if_neg (by omega),hL,hG];rfl]);clear Z1 Z2 hL hG hKL hKG hbk hkb hb5;go_wp2_with fail;refine wp_loop_rounds 3 ?_;rw[rounds_succ];go_wp2_with fail;rw[rounds_succ];go_wp2_with fail;rw[rounds_succ];go_wp2_with fail;exact ⟨⟨i+1,ps++[(71,n)],by omega,by go_num,HNx.out,by rw[(nM _ _).1,←HP.out,←hcn],by rw[(nM _ _).2,←HRw.out,←hcr],HB5.out⟩,by simp[RowKit.intOf]<;>omega⟩
            |none=>have hlL:(Instr.lookup 368 (.map (some b0)) (.string ⟨KL.toArray⟩) true).run Tryz.prog w5=.ok (.tuple #[.string ⟨#[]⟩,.bool false]) w5:=(by rw[hKL];rw[hL] at Z1;exact Z1);have hlG:(Instr.lookup 368 (.map (some b0)) (.string ⟨KG.toArray⟩) true).run Tryz.prog w5=.ok (.tuple #[.string ⟨#[]⟩,.bool false]) w5:=(by rw[hKG];rw[hG] at Z2;exact Z2);have HRd:=aLa (show jL m=([],2) from jG (by unfold jV;rw[if_pos HH.out,wB hlt (show qN i (gAt m i)=none by rw[←HSg.out];unfold qN;rw[if_neg (by omega),hL,hG];rfl)]));clear Z1 Z2 hL hG hKL hKG hbk hkb hb5;go_wp2_with fail;refine wp_loop_rounds 3 ?_;rw[rounds_succ];go_wp2_with fail;rw[rounds_succ];go_wp2_with fail;rw[rounds_succ];go_wp2_with fail;exact aL0 (v:=.tuple #[.string ⟨#[]⟩,.int .i64 2]) (by simp[results,Tryz.results328,go_sem]) rfl ⟨by rw[HRd.out],HBr.out.trans HB5.out⟩
          ·have h6I:(6:Int)≤(i:Int):=(by omega);go_upto_region 20 with fail;obtain ⟨a,ha⟩:=aLt (wY i:Nat);have hai:(3:Int)+7*(i:Int)+5=(a:Int):=(by rw[ha];unfold wY;rw[if_pos (by omega)];omega);have ha7:(a:Int)+7≤95:=(by omega);rw[hai];obtain ⟨s,hs⟩:=aLt (gAt m i);have hex:(⟨m.toArray⟩:ByteArray).extract a (a+7)=⟨s.toArray⟩:=by
            rw[kC,hs,show a+7-a=7 by omega];unfold gAt;rw[ha]
           have hs7:s.length=7:=by
            rw[hs];unfold gAt;rw[aLA,aLJ,←ha,HL.out];omega
           have hss:(⟨s.toArray⟩:ByteArray).size=s.length:=Lib.size_mk s;have hos:¬(9223372036854775807<1+s.length):=(by omega);have hoR:¬(9223372036854775807<R.length+1):=(by omega);rw[←hs] at aFk;have HSg:=aLa hs;clear hai ha hs;have hs4:(wx.alloc (.cells #[.string ⟨#[76]⟩,.string ⟨#[71]⟩] 9)).heap.size=wx.heap.size+1:=World.size_alloc _ _;have hb4:Bl wr (wx.alloc (.cells #[.string ⟨#[76]⟩,.string ⟨#[71]⟩] 9)):=Bl.alloc HBx.out _;rw[←hs4];generalize wx.alloc (.cells #[.string ⟨#[76]⟩,.string ⟨#[71]⟩] 9)=w4 at hb4 ⊢;clear hs4;have hbk:=Blk.new w4 9 #[.string ⟨#[82]⟩];have hb5:Bl wr (w4.alloc (.cells #[.string ⟨#[82]⟩] 9)):=Bl.alloc hb4 _;have hkc:=hbk.all1;obtain ⟨kb,hkb⟩:=aLt w4.heap.size;rw[←hkb] at hkc ⊢;generalize w4.alloc (.cells #[.string ⟨#[82]⟩] 9)=w5 at hkc hb5 ⊢;have HB5:=aLa hb5;have hkR:(⟨#[82]⟩:ByteArray)++⟨s.toArray⟩=⟨(82 :: s).toArray⟩:=cE [82] s;have aDW:=(HM.out.bl hb5).lookup2 (gE (P:=Tryz.prog) Tryz.underlying9) hmt (Tryz.zeroValue9 w5) (82 :: s);rw[FZ] at aDW;obtain ⟨KR,hKR⟩:=aLt (82 :: s);rw[←hKR] at hkR;cases hR:uS (82 :: s) with
           |some n=>
            have hlR:(Instr.lookup 368 (.map (some b0)) (.string ⟨KR.toArray⟩) true).run Tryz.prog w5=.ok (.tuple #[n,.bool true]) w5:=(by rw[hKR];rw[hR] at aDW;exact aDW);have hn1:n.length=1:=by
             obtain ⟨d,-,-,hn⟩:=mC hR;rw[hn];rfl
            have hsn:(⟨n.toArray⟩:ByteArray).size=n.length:=Lib.size_mk n;have hon:¬(9223372036854775807<P.length+n.length):=(by omega);have hcn:=cE P n;have hcr:(⟨R.toArray⟩:ByteArray)++⟨#[82]⟩=⟨(R++[82]).toArray⟩:=cE R [82];have HNx:=aLa (show dI m (i+1)=some (ps++[(82,n)]) by rw[aFk.out,show qN i s=some (82,n) from by unfold qN;rw[if_pos (by omega),hR];rfl]);clear aDW hR hKR hbk hkb hb5 hb4;go_wp2_with fail;refine wp_loop_rounds 2 ?_;rw[rounds_succ];go_wp2_with fail;rw[rounds_succ];go_wp2_with fail;exact ⟨⟨i+1,ps++[(82,n)],by omega,by go_num,HNx.out,by rw[(nM _ _).1,←HP.out,←hcn],by rw[(nM _ _).2,←HRw.out,←hcr],HB5.out⟩,by simp[RowKit.intOf]<;>omega⟩
           |none=>have hlR:(Instr.lookup 368 (.map (some b0)) (.string ⟨KR.toArray⟩) true).run Tryz.prog w5=.ok (.tuple #[.string ⟨#[]⟩,.bool false]) w5:=(by rw[hKR];rw[hR] at aDW;exact aDW);have HRd:=aLa (show jL m=([],2) from jG (by unfold jV;rw[if_pos HH.out,wB hlt (show qN i (gAt m i)=none by rw[←HSg.out];unfold qN;rw[if_pos (by omega),hR];rfl)]));clear aDW hR hKR hbk hkb hb5 hb4;go_wp2_with fail;refine wp_loop_rounds 2 ?_;rw[rounds_succ];go_wp2_with fail;rw[rounds_succ];go_wp2_with fail;exact aL0 (v:=.tuple #[.string ⟨#[]⟩,.int .i64 2]) (by simp[results,Tryz.results328,go_sem]) rfl ⟨by rw[HRd.out],HBr.out.trans HB5.out⟩
         ·obtain rfl:i=12:=(by omega);obtain ⟨P,hP⟩:=aLt (lS ps);obtain ⟨R,hRw⟩:=aLt (rB ps);obtain ⟨X,hX⟩:=aLt (R.take 6);have HDg:=aLa (aDj HH.out hps hP hRw hX);rw[←hP] at hol ⊢;rw[←hRw] at hrl ⊢;have hsR:(⟨R.toArray⟩:ByteArray).size=R.length:=Lib.size_mk R;have hx6:(⟨R.toArray⟩:ByteArray).extract 0 6=⟨(R.take 6).toArray⟩:=kC R 0 6;rw[←hX] at hx6;have HBx:=aLa hbx;have HIx:=aLa (JW X);clear hps hP hRw hbx hX;cases hf:mR X with
          |none=>
           have hV:aEC X = -1:=(by unfold aEC;rw[hf]);rw[hV] at HIx;have HRd:=aLa (jG (HDg.out.trans (by rw[hf];rfl)));clear hV hf;go_upto_region 32 with fail;refine aLs [aLq 1,aLq 2,aLr 0,aLr 3,aLq 4] (by kernel_rfl) ?_;apply Flow.mv _ rfl
           ·intro a b;simp only[sqA,Act.eval,sqC];exact b
           apply Flow.calm2 _ _ rfl rfl
           ·intro a b c d;obtain ⟨e,f⟩:=b.rule;go_simp;(try go_ints);exact d
           ·intro a b;simp only[sqA];exact b
           apply Flow.move rfl;go_wp2_with fail;refine (mU _).mono ?_;rintro e w5 ⟨g5,rfl,hr5,HB1⟩;go_wp2_with fail;refine ⟨fun _=>(by first|exact HB1|exact Bl.refl _),?_⟩;apply Flow.move rfl;go_wp2_with fail;refine (HIx.out g5 w5 hr5).mono ?_;rintro e w6 ⟨rfl,hw6⟩;subst hw6;have HB2:=HB1;go_wp2_with fail;refine ⟨fun _=>(by first|exact HB2|exact Bl.refl _),?_⟩;apply Flow.asg _ rfl
           ·intro a b;simp only[sqA,Act.eval,sqC];exact b
           refine Flow.done ?_;have HB5:=aLa (HBx.out.trans (Bl.ofDrew HB1));clear hr5 HB1 HB2 HBx;go_wp2_with fail;exact aL0 (v:=.tuple #[.string ⟨#[]⟩,.int .i64 2]) (by simp[results,Tryz.results328,go_sem]) rfl ⟨by rw[HRd.out],HBr.out.trans HB5.out⟩
          |some f=>
           have hV:aEC X=(f:Int):=(by unfold aEC;rw[hf]);rw[hV] at HIx;have aGX:f<10:=by
            unfold mR at hf;exact (List.findIdx?_eq_some_iff_findIdx_eq.1 hf).1
           have hdg:jV m=some (UInt8.ofNat (48+f) :: P):=HDg.out.trans (by rw[hf];rfl);have hcv:=fun (W:World)=>PA (W.alloc (.cells #[.int .u8 (48+(f:Int))] 5)) W.heap.size 1 f aGX (W9 W _);obtain ⟨N,hN⟩:∃N,N=[UInt8.ofNat (48+f)]:=⟨_,rfl⟩;rw[←hN] at hcv;have hlN:N.length=1:=(by rw[hN];rfl);have hsN:(⟨N.toArray⟩:ByteArray).size=N.length:=Lib.size_mk N;have sP:=cE N P;have hsPP:(⟨P.toArray⟩:ByteArray).size=P.length:=Lib.size_mk P;have hoN:¬(9223372036854775807<N.length+P.length):=(by omega);obtain ⟨D,hD⟩:=aLt (N++P);rw[←hD] at sP;have hdD:jV m=some D:=(by rw[hdg,hD,hN];rfl);obtain ⟨aKl,hDm⟩:=L9 hdD;have hsD:(⟨D.toArray⟩:ByteArray).size=D.length:=Lib.size_mk D;have hD13I:(D.length:Int)=13:=(by omega);have hck:=fun wx=>rJ (D.take 12) wx (by rw[aLA];omega);rw[XA aKl hDm] at hck;simp only[if_true] at hck;have hex12:(⟨D.toArray⟩:ByteArray).extract 0 12=⟨(D.take 12).toArray⟩:=kC D 0 12;obtain ⟨b12,aFh,aDT,aHn⟩:=qR hDm (i:=12) (by omega);obtain ⟨k1,k2⟩:=dS aFh;have hrd:jL m=if i8 (D.take 12)=aS D 12 then (D,0) else ([],14):=(by unfold jL;rw[hdD]);obtain ⟨ck,aFi⟩:=aLt (i8 (D.take 12));obtain ⟨d12,ZP⟩:=aLt (aS D 12);rw[←aFi] at hck hrd;rw[←ZP] at aDT aHn hrd;have Hck:=aLa hck;have HRd:=aLa hrd;clear hV hf hdg hN hD hdD hDm aFh aFi ZP hck hrd HDg;go_upto_region 32 with fail;refine aLs [aLq 1,aLq 2,aLr 0,aLr 3,aLq 4] (by kernel_rfl) ?_;apply Flow.mv _ rfl
           ·intro a b;simp only[sqA,Act.eval,sqC];exact b
           apply Flow.calm2 _ _ rfl rfl
           ·intro a b c d;obtain ⟨e,f⟩:=b.rule;go_simp;(try go_ints);exact d
           ·intro a b;simp only[sqA];exact b
           apply Flow.move rfl;go_wp2_with fail;refine (mU _).mono ?_;rintro e w5 ⟨g5,rfl,hr5,HB1⟩;go_wp2_with fail;refine ⟨fun _=>(by first|exact HB1|exact Bl.refl _),?_⟩;apply Flow.move rfl;go_wp2_with fail;refine (HIx.out g5 w5 hr5).mono ?_;rintro e w6 ⟨rfl,hw6⟩;subst hw6;have HB2:=HB1;go_wp2_with fail;refine ⟨fun _=>(by first|exact HB2|exact Bl.refl _),?_⟩;apply Flow.asg _ rfl
           ·intro a b;simp only[sqA,Act.eval,sqC];exact b
           refine Flow.done ?_;have HB5:=aLa (HBx.out.trans (Bl.ofDrew HB1));clear hr5 HB1 HB2 HBx;go_wp2_with fail;refine (Hck.out _).mono ?_;rintro e w7 ⟨rfl,hb7⟩;have HB7:=aLa ((HBr.out.trans (HB5.out.alloc _)).trans hb7);clear hb7 hcv;by_cases hq:ck=d12
           ·have HR2:=aLa (HRd.out.trans (if_pos hq));subst hq;clear HRd;go_wp2_with fail;exact aL0 (v:=.tuple #[.string ⟨D.toArray⟩,.int .i64 0]) (by simp[results,Tryz.results328,go_sem]) rfl ⟨by rw[HR2.out],HB7.out⟩
           ·have HR2:=aLa (HRd.out.trans (if_neg hq));have hq':(ck:Int)≠(d12:Int):=(by omega);clear HRd hq;go_wp2_with fail;exact aL0 (v:=.tuple #[.string ⟨#[]⟩,.int .i64 14]) (by simp[results,Tryz.results328,go_sem]) rfl ⟨by rw[HR2.out],HB7.out⟩
     |false=>have HR:=aLa (jG (qS (m:=m) (by rw[HHd.out,h3,h5,h9];rfl)));clear HHd;go_wp2_with fail;refine Ht.out.mono ?_;rintro e w1 ⟨rfl,hb1⟩;go_wp2_with fail;exact aL0 (v:=.tuple #[.string ⟨#[]⟩,.int .i64 2]) (by simp[results,Tryz.results328,go_sem]) rfl ⟨by rw[HR.out],hb1⟩
    |false=>have HR:=aLa (jG (qS (m:=m) (by rw[HHd.out,h3,h5];rfl)));clear HHd;go_wp2_with fail;refine Ht.out.mono ?_;rintro e w1 ⟨rfl,hb1⟩;go_wp2_with fail;exact aL0 (v:=.tuple #[.string ⟨#[]⟩,.int .i64 2]) (by simp[results,Tryz.results328,go_sem]) rfl ⟨by rw[HR.out],hb1⟩
   |false=>have HR:=aLa (jG (qS (m:=m) (by rw[HHd.out,h3];rfl)));clear HHd;go_wp2_with fail;refine Ht.out.mono ?_;rintro e w1 ⟨rfl,hb1⟩;go_wp2_with fail;exact aL0 (v:=.tuple #[.string ⟨#[]⟩,.int .i64 2]) (by simp[results,Tryz.results328,go_sem]) rfl ⟨by rw[HR.out],hb1⟩
 ·have aKi:((m.length:Int)==95)=false:=(by rw[aLU];omega);have hlI:(m.length:Int)≠95:=(by omega);have HR:=aLa (jG (qS (m:=m) (by unfold jA;rw[aLW h95];rfl)));clear h95;go_wp2_with fail;exact aL0 (v:=.tuple #[.string ⟨#[]⟩,.int .i64 2]) (by simp[results,Tryz.results328,go_sem]) rfl ⟨by rw[HR.out],Bl.refl _⟩
def aN (rd:List UInt8→List UInt8 × Int) (m:List UInt8):List UInt8 × Int:=if (rd m).2=2 then rd m.reverse else rd m
theorem S3 (g : Nat) (rd : List UInt8 → List UInt8 × Int) (eg : ∀ args w, (callFunc g args).run Tryz.prog w = .ok (.enter g args) w) (M : Nat) (hM : M ≤ 9223372036854775807)
 (hr:∀(m:List UInt8) (W:World),m.length≤M→Calls Tryz.prog g #[m] W fun e w'=>e=.returned (.tuple #[.string ⟨(rd m).1.toArray⟩,.int .i64 (rd m).2])∧Bl W w')
 (m:List UInt8) (hl:m.length≤M) (w:World) :
 Calls Tryz.prog 327 #[m,.func (.func g) #[] #[]] w fun e w'=>e=.returned (.tuple #[.string ⟨(aN rd m).1.toArray⟩,.int .i64 (aN rd m).2])∧Bl w w':=by
 have H1:=aLa (hr m);have H2:=aLa (hr m.reverse);have hb:=fun wx=>kW m wx (by omega);unfold FlipRes at hb;have Hb:=aLa hb;obtain ⟨a,ha⟩:=aLt ((rd m).1);obtain ⟨e1,he1⟩:=aLt ((rd m).2);rw[←ha,←he1] at H1;obtain ⟨b,hb2⟩:=aLt ((rd m.reverse).1);obtain ⟨e2,he2⟩:=aLt ((rd m.reverse).2);rw[←hb2,←he2] at H2;obtain ⟨r,hrv⟩:=aLt m.reverse;have hrl:r.length≤M:=(by rw[hrv,aL3];exact hl);by_cases hq:e1=2
 ·have hE:aN rd m=rd m.reverse:=(by unfold aN;rw[←he1,if_pos hq]);have HA:=aLa (show (aN rd m).1=b from by rw[hE,hb2]);have HB:=aLa (show (aN rd m).2=e2 from by rw[hE,he2]);rw[←hrv] at Hb H2;subst hq;clear hE ha he1 hb2 he2 hb hr hrv
  go_in
  go_wp2_with fail;refine (H1.out _ hl).mono ?_;rintro e w1 ⟨rfl,hb1⟩;go_wp2_with fail;refine (Hb.out _).mono ?_;rintro e w2 ⟨rfl,hb2⟩;go_wp2_with fail;refine (H2.out _ hrl).mono ?_;rintro e w3 ⟨rfl,hb3⟩;go_wp2_with fail;exact aL0 (v:=.tuple #[b,e2]) (by simp[results,Tryz.results327,go_sem]) rfl ⟨by rw[HA.out,HB.out],(hb1.trans hb2).trans hb3⟩
 ·have hE:aN rd m=rd m:=(by unfold aN;rw[←he1,if_neg hq]);have HA:=aLa (show (aN rd m).1=a from by rw[hE,ha]);have HB:=aLa (show (aN rd m).2=e1 from by rw[hE,he1]);have hqb:(e1==2)=false:=(by rw[aLU];exact hq);clear hE ha he1 hb2 he2 hb hr hrv hq
  go_in
  go_wp2_with fail;refine (H1.out _ hl).mono ?_;rintro e w1 ⟨rfl,hb1⟩;go_wp2_with fail;exact aL0 (v:=.tuple #[.string ⟨a.toArray⟩,e1]) (by simp[results,Tryz.results327,go_sem]) rfl ⟨by rw[HA.out,HB.out],hb1⟩
theorem JX (m:List UInt8) (w:World) (hl:m.length≤9223372036854775807) :
 Calls Tryz.prog 285 #[.string ⟨m.toArray⟩] w fun e w'=>e=.returned (.tuple #[.string ⟨(aN jL m).1.toArray⟩,.int .i64 (aN jL m).2])∧Bl w w':=by
 have H:=aLa (S3 328 jL (pD Tryz.func328 (by kernel_rfl) rfl) 9223372036854775807 (Nat.le_refl _) (fun m W h=>M3 m W h) m hl w);obtain ⟨a,ha⟩:=aLt ((aN jL m).1);obtain ⟨e1,he1⟩:=aLt ((aN jL m).2);rw[←ha,←he1] at H ⊢;clear ha he1
 go_in
 go_wp2_with fail;refine H.out.mono ?_;rintro e w1 ⟨rfl,hb1⟩;go_wp2_with fail;exact aL0 (v:=.tuple #[.string ⟨a.toArray⟩,e1]) (by simp[results,Tryz.results285,go_sem]) rfl ⟨rfl,hb1⟩
end Go.Proofs.YtllefinciimffaaGreatDoor
