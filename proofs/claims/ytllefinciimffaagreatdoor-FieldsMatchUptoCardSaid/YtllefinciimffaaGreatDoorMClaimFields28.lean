import Derived.Test.YtllefinciimffaaGreatDoorMClaimFields26
set_option maxHeartbeats 20000000
set_option maxRecDepth 100000
namespace Go.Proofs.YtllefinciimffaaGreatDoor
open Go.RowKit Go.Shelf
def ZA (s:List UInt8):Value:=.string ⟨s.toArray⟩
theorem yI {α β : Type} [BEq α] [LawfulBEq α] (x : α) : ∀ l : List (α × β), l.lookup x = (l.find? fun e => e.1 == x).map (·.2)
 |[]=>rfl
 |(k,v) :: l=>by
   rw[List.lookup,List.find?_cons];by_cases h:x=k
   ·subst h;simp
   ·have h1:(x==k)=false:=(by simpa using h);have h2:(k==x)=false:=(by simpa using fun e=>h e.symm);rw[h1];simp only[h2];exact yI x l
theorem D8 (x:List UInt8):(V2 10).lookup x=tG x:=yI x (V2 10)
theorem IB {m:List UInt8} {n:Nat} {ps:List (UInt8 × List UInt8)} (h:eE m n=some ps):(fI ps).length=n∧(mE ps).length=n:=by
 have hl:=mU h;refine ⟨?_,by unfold mE;rw[aH6,hl]⟩;have key:∀qs:List (UInt8 × List UInt8),(∀p∈qs,p.2.length=1)→(fI qs).length=qs.length:=by
  intro qs;induction qs with
  |nil=>intro _;rfl
  |cons q qs ih=>intro hq;have e:fI (q :: qs)=q.2++fI qs:=(by unfold fI;rw[aIM]);rw[e,aH5,hq q (List.mem_cons_self ..),ih fun p hp=>hq p (List.mem_cons_of_mem _ hp),aH8];omega
 rw[key ps fun p hp => ?_,hl];obtain ⟨i,hi,rfl⟩:=aIB hp;have hd:=rY h i _ (aH2 hi);obtain ⟨d,-,-,hn,-,-⟩:=xR (k:=ps[i].1) (n:=ps[i].2) hd;rw[hn];rfl
theorem dL {ps:List (UInt8 × List UInt8)} (k:UInt8) (n:List UInt8):fI (ps++[(k,n)])=fI ps++n∧mE (ps++[(k,n)])=mE ps++[k]:=by
 unfold fI mE;rw[aIL,aIp];exact ⟨by simp,rfl⟩
theorem gO {m:List UInt8} (h:jT m=none):fZ m=([],2):=by unfold fZ;rw[h]
theorem iD {m:List UInt8} (h:jW m=false):jT m=none:=by unfold jT;rw[if_neg (by rw[h];decide)]
theorem tP (a b:List UInt8):decide (a=b)=(a==b):=by rw[Bool.eq_iff_iff];simp
theorem pH {w w':World} {g n:Nat} {xs:List Value} (h:Reads w 1 (some ⟨g,0,none⟩) n xs) (hb:w'.heap[g]? = w.heap[g]?):Reads w' 1 (some ⟨g,0,none⟩) n xs:=
 ⟨h.1,fun hn=>by
  obtain ⟨ad,e,hc⟩:=h.2 hn;obtain rfl:=aIw e;refine ⟨_,rfl,fun j u hu => ?_⟩;have h1:=hc j u hu;rw[jY] at h1 ⊢;unfold World.cell? at h1 ⊢;rw[hb];exact h1⟩
theorem ZB {w:World} {b g n:Nat} {xs:List Value} {es:Array MapEntry} {c:Nat} (hm:w.heap[b]? = some (.map es c)) (h:Reads w 1 (some ⟨g,0,none⟩) n xs) (hn:0<n):g≠b:=fun e=>by
 subst e;obtain ⟨ad,u,e1,hu,hc⟩:=h.at_ hn;obtain rfl:=aIw e1;rw[jY] at hc;unfold World.cell? at hc;rw[hm] at hc;cases hc
theorem ND (w:World) (g cap d:Nat) (hd:d<10) (hc:w.cell? ⟨g,0,none⟩=some (.int .u8 (48+(d:Int)))) :
 (convert 92 9 (.slice (some ⟨g,0,none⟩) 1 cap)).run Tryz.prog w=.ok (.string ⟨[UInt8.ofNat (48+d)].toArray⟩) w:=by
 have h8:((UInt8.ofNat (48+d)).toNat:Int)=48+(d:Int):=by
  have:∀d<10,(UInt8.ofNat (48+d)).toNat=48+d:=(by decide);rw[this d hd];omega
 exact run_convert_bytes_back (P:=Tryz.prog) w 92 9 5 ⟨g,0,none⟩ cap [UInt8.ofNat (48+d)] Tryz.underlying92 Tryz.underlying5 Tryz.underlying9 (fun j hj=>by
  have hj0:j=0:=(by simp at hj;omega);subst hj0;show w.cell? ((⟨g,0,none⟩:Addr).add 0)=_;rw[show (⟨g,0,none⟩:Addr).add 0=⟨g,0,none⟩ by (unfold Addr.add;simp),hc];show _=some (Value.int .u8 ((UInt8.ofNat (48+d)).toNat:Int));rw[h8])
theorem UD (W:World) (v:Value):(W.alloc (.cells #[v] 5)).cell? ⟨W.heap.size,0,none⟩=some v:=by
 have h:=Blk.new W 5 #[v];obtain ⟨ad,e,hc⟩:=(h.reads 1 1 rfl).2 (by decide);obtain rfl:=aIw e;exact hc 0 _ rfl
theorem UE {l:List UInt8} (cT:l.length=13) (hm:cZ l eL=true):S6 (l.take 12) 12=true:=by
 unfold S6;rw[aIu (by rw[aH7];omega)];unfold cZ at hm ⊢;rw[aIl] at hm;show ((l.take 12).all fun b=>eL.contains b)=true;rw[aIl];exact fun b hb=>hm b (List.mem_of_mem_take hb)
theorem UF {m:List UInt8} {ps:List (UInt8 × List UInt8)} {P R X:List UInt8} (hh:jW m=true) (hp:eE m 12=some ps) (hP:P=fI ps) (hR:R=mE ps) (hX:X=R.take 6):jT m=(oT X).map fun f=>UInt8.ofNat (48+f) :: P:=by
 unfold jT;rw[if_pos hh,hX,hR,hP];simp only[hp]
def XI (X:List UInt8):Int:=match oT X with|some k=>(k:Int)|none => -1
theorem uV (X:List UInt8) (g:Nat) (w:World) (hr:Reads w 1 (some ⟨g,0,none⟩) p6.length (bR p6)) :
 Calls Tryz.prog 166 #[.slice (some ⟨g,0,none⟩) p6.length p6.length,X] w fun e w'=>e=.returned (.int .i64 (XI X))∧w=w':=
 H8 g p6 X w hr (by decide)
theorem KY (m:List UInt8) (w:World) (hl:m.length≤9223372036854775807) :
 Calls Tryz.prog 328 #[m] w fun e w'=>e=.returned (.tuple #[.string ⟨(fZ m).1.toArray⟩,.int .i64 (fZ m).2])∧Bl w w':=by
 have Ht:=aHH (vT m [48,49] w hl (by decide) (by
  intro j b h;have:∀b∈([48,49]:List UInt8),b.toNat<128:=(by decide);exact this b (List.mem_of_getElem? h)))
 have hsz:(⟨m.toArray⟩:ByteArray).size=m.length:=Lib.size_mk m
 go_in
 by_cases h95:m.length=95
 ·have aEj:((m.length:Int)==95)=true:=(by rw[beq_iff_eq];omega);have hlI:(m.length:Int)=95:=(by omega);cases hmd:cZ m [48,49] with
  |false=>have HR:=aHH (gO (TB hmd));have htr:(Lib.trimS m [48,49]).isEmpty=false:=(by rw[kU,hmd]);clear hmd;go_wp2_with fail;refine Ht.out.mono ?_;rintro e w1 ⟨rfl,hb1⟩;go_wp2_with fail;exact aIx (v:=.tuple #[.string ⟨#[]⟩,.int .i64 2]) (by simp[results,Tryz.results328,go_sem]) rfl ⟨by rw[HR.out],hb1⟩
  |true=>
   have htr:(Lib.trimS m [48,49]).isEmpty=true:=(by rw[kU,hmd]);have HMd:=aHH hmd;clear hmd;have hx3:(⟨m.toArray⟩:ByteArray).extract 0 3=⟨(m.take 3).toArray⟩:=eO m 0 3;have hx5:(⟨m.toArray⟩:ByteArray).extract 45 50=⟨((m.drop 45).take 5).toArray⟩:=eO m 45 50;have hx9:(⟨m.toArray⟩:ByteArray).extract 92 m.length=⟨(m.drop 92).toArray⟩:=iA m 92;have t7:jW m=((m.take 3==V1)&&(((m.drop 45).take 5==aBb)&&(m.drop 92==V1))):=by
    unfold jW;rw[aIu h95,Bool.true_and,tP,tP,tP]
   obtain ⟨X3,hX3⟩:=aH0 (m.take 3);obtain ⟨X5,hX5⟩:=aH0 ((m.drop 45).take 5);obtain ⟨X9,hX9⟩:=aH0 (m.drop 92);rw[←hX3] at hx3 t7;rw[←hX5] at hx5 t7;rw[←hX9] at hx9 t7;unfold V1 aBb at t7;have HHd:=aHH t7;have HL:=aHH h95;clear t7 hX3 hX5 hX9 h95;cases h3:(X3==[49,48,49]) with
   |true=>
    cases h5:(X5==[48,49,48,49,48]) with
    |true=>
     cases h9:(X9==[49,48,49]) with
     |true=>
      have HH:=aHH (show jW m=true by rw[HHd.out,h3,h5,h9];rfl);clear HHd;have hmm:=@run_makeMap Tryz.prog;have hmt:=Tryz.underlying368;go_wp2_with fail;refine Ht.out.mono ?_;rintro e w1 ⟨rfl,hb1⟩;clear Ht;go_wp2_with fail;clear hmm;obtain ⟨b0,hb0⟩:=aH0 w1.heap.size;have hm0:MapL ZA ZA (w1.alloc (.map #[] 0)) b0 ([]:List (List UInt8 × List UInt8)):=(by rw[hb0];exact MapL.new _);have hb2:Bl w (w1.alloc (.map #[] 0)):=hb1.alloc _;have HB0:=aHH (show w.heap.size≤b0 by rw[hb0];exact hb1.le);rw[←hb0];generalize w1.alloc (.map #[] 0)=w2 at hm0 hb2 ⊢;clear hb0 hb1;refine (D6 _).mono ?_;rintro e w3 ⟨g,rfl,hr3,hb3⟩;have hm3:=hm0.bl hb3;have HGb:=aHH (show g≠b0 from by
       obtain ⟨es,c,h1⟩:=hm3.block;exact ZB h1 hr3 (by decide))
      have HSt:=aHH (And.intro (hb2.trans hb3) (And.intro hr3 hm3));clear hm0 hb2 hr3 hb3 hm3;go_wp2_with fail;go_loopw [47] (fun v wr=>∃d:Nat,d≤10∧v=.int .i64 d∧Bl w wr∧Reads wr 1 (some ⟨g,0,none⟩) dS.length (bR dS)∧MapL ZA ZA wr b0 (V2 d)) (fun v _=>10-(RowKit.intOf v).toNat);case atStart=>exact ⟨0,Nat.zero_le _,rfl,HSt.out.1,HSt.out.2.1,HSt.out.2.2⟩
      case round=>
       rename World=>wr;obtain ⟨d,hd,rfl,hbr,hrr,hmr⟩:=hrel;by_cases hlt:d<10
       ·obtain ⟨ad,ea,c0⟩:=pX hrr (D7 d hlt);obtain rfl:=aIw ea;rw[jY] at c0;have hL7:=BC 76 d hlt;rw[yH] at hL7;have hE7:=UC d hlt;have hF7:(exB (dS.getD d [])).reverse.length=7:=(by rw[aIA];exact hE7);have hcE:=fun wx=>D5 d hlt wx;have hcF:=fun wx=>nT (exB (dS.getD d [])) wx (by omega);unfold FlipRes at hcF;obtain ⟨N,hN⟩:∃N,N=[UInt8.ofNat (48+d)]:=⟨_,rfl⟩;have hst:V2 (d+1)=(71 :: (exB (dS.getD d [])).reverse,N) :: (82 :: exB (dS.getD d []),N) :: (76 :: dS.getD d [],N) :: V2 d:=(by rw[hN];rfl);obtain ⟨E,hE⟩:=aH0 (exB (dS.getD d []));obtain ⟨F,hF⟩:=aH0 E.reverse;rw[←hE] at hE7 hF7 hcE hcF hst;rw[←hF] at hF7 hcF hst;obtain ⟨L,hL⟩:=aH0 (dS.getD d []);rw[←hL] at hL7 hcE c0 hst;obtain ⟨HcE,HcF,aCh⟩:=aHI hcE hcF hst;have hsL:(⟨L.toArray⟩:ByteArray).size=L.length:=Lib.size_mk L;have hsE:(⟨E.toArray⟩:ByteArray).size=E.length:=Lib.size_mk E;have hsF:(⟨F.toArray⟩:ByteArray).size=F.length:=Lib.size_mk F;have hoL:¬(9223372036854775807<1+L.length):=(by omega);have hoE:¬(9223372036854775807<1+E.length):=(by omega);have hoF:¬(9223372036854775807<1+F.length):=(by omega);have hkL:(⟨#[76]⟩:ByteArray)++⟨L.toArray⟩=⟨(76 :: L).toArray⟩:=dK [76] L;have hkE:(⟨#[82]⟩:ByteArray)++⟨E.toArray⟩=⟨(82 :: E).toArray⟩:=dK [82] E;have hkF:(⟨#[71]⟩:ByteArray)++⟨F.toArray⟩=⟨(71 :: F).toArray⟩:=dK [71] F;obtain ⟨KL,hKL⟩:=aH0 (76 :: L);obtain ⟨KE,hKE⟩:=aH0 (82 :: E);obtain ⟨KF,hKF⟩:=aH0 (71 :: F);rw[←hKL] at hkL;rw[←hKE] at hkE;rw[←hKF] at hkF;have HK:=aHH (show V2 (d+1)=(KF,N) :: (KE,N) :: (KL,N) :: V2 d by rw[aCh.out,hKL,hKE,hKF]);have aG2:=ND (wr.alloc (.cells #[.int .u8 (48+(d:Int))] 5)) wr.heap.size 1 d hlt (by
         have h:=Blk.new wr 5 #[.int .u8 (48+(d:Int))];exact (h.reads 1 1 rfl).2 (by decide) |>.elim fun ad h=>by
          obtain ⟨e,hc⟩:=h;obtain rfl:=aIw e;exact hc 0 _ rfl)
        rw[←hN] at aG2;have Hb6:=aHH (Bl.alloc (Bl.refl wr) (.cells #[.int .u8 (48+(d:Int))] 5));have HRd:=aHH (And.intro hbr (And.intro hrr hmr));clear hN hst hE hF hL hKL hKE hKF hcE hcF aCh hbr hrr hmr;go_upto_region 7 with fail;go_wp2_with fail;generalize wr.alloc (.cells #[.int .u8 (48+(d:Int))] 5)=w6 at Hb6 ⊢;refine (HcE.out _).mono ?_;rintro e w7 ⟨rfl,hb7⟩;go_wp2_with fail;refine (HcE.out _).mono ?_;rintro e w8 ⟨rfl,hb8⟩;go_wp2_with fail;refine (HcF.out _).mono ?_;rintro e w9 ⟨rfl,hb9⟩;have aC7:=Bl.trans (Bl.trans (Bl.trans Hb6.out hb7) hb8) hb9;have hm9:=HRd.out.2.2.bl aC7;obtain ⟨w10,hu1,aBj,aAR⟩:=hm9.update (fY (P:=Tryz.prog) Tryz.underlying9) hmt KL N;obtain ⟨w11,hu2,aFN,aEk⟩:=aBj.update (fY (P:=Tryz.prog) Tryz.underlying9) hmt KE N;obtain ⟨w12,hu3,aEl,aEm⟩:=aFN.update (fY (P:=Tryz.prog) Tryz.underlying9) hmt KF N;have aG3:(Instr.mapUpdate 368 (.map (some b0)) (.string ⟨KL.toArray⟩) (.string ⟨N.toArray⟩)).run Tryz.prog w9=.ok () w10:=hu1;have hu2':(Instr.mapUpdate 368 (.map (some b0)) (.string ⟨KE.toArray⟩) (.string ⟨N.toArray⟩)).run Tryz.prog w10=.ok () w11:=hu2;have hu3':(Instr.mapUpdate 368 (.map (some b0)) (.string ⟨KF.toArray⟩) (.string ⟨N.toArray⟩)).run Tryz.prog w11=.ok () w12:=hu3;rw[←HK.out] at aEl;obtain ⟨aEn,aEo,aEp⟩:=aHI aEl (aEm.2.2 w (aEk.2.2 w (aAR.2.2 w (HRd.out.1.trans aC7) HB0.out) HB0.out) HB0.out) (pH (pH (pH (HRd.out.2.1.bl aC7) (aAR.1 g HGb.out)) (aEk.1 g HGb.out)) (aEm.1 g HGb.out));clear hu1 hu2 hu3 hm9 aBj aFN aEl aAR aEk aEm aC7 hb7 hb8 hb9 Hb6 HcE HcF HRd HK;go_wp2_with fail;exact ⟨⟨d+1,by omega,by go_num,aEo.out,aEp.out,aEn.out⟩,by simp[RowKit.intOf]<;>omega⟩
       ·obtain rfl:d=10:=(by omega);have HM:=aHH hmr;have HBr:=aHH hbr;clear hmr hbr hrr;go_wp2_with fail;have HS0:=aHH (And.intro HBr.out HM.out);go_loopw [8,9,73] (fun s8 s9 s73 wx=>∃(i:Nat) (ps:List (UInt8 × List UInt8)),i≤12∧s73=.int .i64 (i:Int)∧eE m i=some ps∧s8=.string ⟨(fI ps).toArray⟩∧s9=.string ⟨(mE ps).toArray⟩∧Bl wr wx) (fun _ _ v _=>12-(RowKit.intOf v).toNat);case atStart=>exact ⟨0,[],Nat.zero_le _,rfl,rfl,rfl,rfl,Bl.refl _⟩
        case round=>
         rename World=>wx;obtain ⟨i,ps,hi,rfl,hps,rfl,rfl,hbx⟩:=hrel;obtain ⟨hol,hrl⟩:=IB hps;by_cases hlt:i<12
         ·have HPs:=aHH hps;have HBx:=aHH hbx;have aG4:(i:Int)<12:=(by omega);have aBk:eE m (i+1)=(match mT i (gAt m i) with|none=>none|some p=>some (ps++[p])):=by
           show (match eE m i with|none=>none|some ps=>match mT i (gAt m i) with|none=>none|some p=>some (ps++[p]))=_;rw[hps]
          have ZS:=aHH aBk;obtain ⟨P,hP⟩:=aH0 (fI ps);obtain ⟨R,hRw⟩:=aH0 (mE ps);rw[←hP] at hol ⊢;rw[←hRw] at hrl ⊢;have HP:=aHH hP;have HRw:=aHH hRw;have hsP:(⟨P.toArray⟩:ByteArray).size=P.length:=Lib.size_mk P;have hsR:(⟨R.toArray⟩:ByteArray).size=R.length:=Lib.size_mk R;clear hps hbx aBk hP hRw;by_cases h6:i<6
          ·have h6I:(i:Int)<6:=(by omega);go_upto_region 20 with fail;obtain ⟨a,ha⟩:=aH0 (qL i:Nat);have hai:(3:Int)+7*(i:Int)=(a:Int):=(by rw[ha];unfold qL;rw[if_neg (by omega)];omega);have ha7:(a:Int)+7≤95:=(by omega);rw[hai];obtain ⟨s,hs⟩:=aH0 (gAt m i);have hex:(⟨m.toArray⟩:ByteArray).extract a (a+7)=⟨s.toArray⟩:=by
            rw[eO,hs,show a+7-a=7 by omega];unfold gAt;rw[ha]
           have hs7:s.length=7:=by
            rw[hs];unfold gAt;rw[aH7,aIg,←ha,HL.out];omega
           have hss:(⟨s.toArray⟩:ByteArray).size=s.length:=Lib.size_mk s;have hos:¬(9223372036854775807<1+s.length):=(by omega);have hoR:¬(9223372036854775807<R.length+1):=(by omega);rw[←hs] at ZS;have HSg:=aHH hs;clear hai ha hs;have hbk:=Blk.new wx 9 #[.string ⟨#[76]⟩,.string ⟨#[71]⟩];have hb5:Bl wr (wx.alloc (.cells #[.string ⟨#[76]⟩,.string ⟨#[71]⟩] 9)):=Bl.alloc HBx.out _;have hkc:=hbk.all2;obtain ⟨kb,hkb⟩:=aH0 wx.heap.size;rw[←hkb] at hkc ⊢;generalize wx.alloc (.cells #[.string ⟨#[76]⟩,.string ⟨#[71]⟩] 9)=w5 at hkc hb5 ⊢;have HB5:=aHH hb5;have hkL:(⟨#[76]⟩:ByteArray)++⟨s.toArray⟩=⟨(76 :: s).toArray⟩:=dK [76] s;have V7:=(HM.out.bl hb5).lookup2 (fY (P:=Tryz.prog) Tryz.underlying9) hmt (Tryz.zeroValue9 w5) (76 :: s);rw[D8] at V7;obtain ⟨KL,hKL⟩:=aH0 (76 :: s);have hkG:(⟨#[71]⟩:ByteArray)++⟨s.toArray⟩=⟨(71 :: s).toArray⟩:=dK [71] s;have V8:=(HM.out.bl hb5).lookup2 (fY (P:=Tryz.prog) Tryz.underlying9) hmt (Tryz.zeroValue9 w5) (71 :: s);rw[D8] at V8;obtain ⟨KG,hKG⟩:=aH0 (71 :: s);rw[←hKL] at hkL;rw[←hKG] at hkG;cases hL:tG (76 :: s) with
           |some n=>
            have hG:=WX hL;have hlL:(Instr.lookup 368 (.map (some b0)) (.string ⟨KL.toArray⟩) true).run Tryz.prog w5=.ok (.tuple #[n,.bool true]) w5:=(by rw[hKL];rw[hL] at V7;exact V7);have hlG:(Instr.lookup 368 (.map (some b0)) (.string ⟨KG.toArray⟩) true).run Tryz.prog w5=.ok (.tuple #[.string ⟨#[]⟩,.bool false]) w5:=(by rw[hKG];rw[hG] at V8;exact V8);have hn1:n.length=1:=by
             obtain ⟨d,-,-,hn⟩:=lQ hL;rw[hn];rfl
            have hsn:(⟨n.toArray⟩:ByteArray).size=n.length:=Lib.size_mk n;have hon:¬(9223372036854775807<P.length+n.length):=(by omega);have hcn:=dK P n;have hcr:(⟨R.toArray⟩:ByteArray)++⟨#[76]⟩=⟨(R++[76]).toArray⟩:=dK R [76];have HNx:=aHH (show eE m (i+1)=some (ps++[(76,n)]) by rw[ZS.out,show mT i s=some (76,n) from by unfold mT;rw[if_neg (by omega),hL]]);clear V7 V8 hL hG hKL hKG hbk hkb hb5;go_wp2_with fail;refine wp_loop_rounds 3 ?_;rw[rounds_succ];go_wp2_with fail;rw[rounds_succ];go_wp2_with fail;rw[rounds_succ];go_wp2_with fail;exact ⟨⟨i+1,ps++[(76,n)],by omega,by go_num,HNx.out,by rw[(dL _ _).1,←HP.out,←hcn],by rw[(dL _ _).2,←HRw.out,←hcr],HB5.out⟩,by simp[RowKit.intOf]<;>omega⟩
           |none=>
            cases hG:tG (71 :: s) with
            |some n=>
             have hlL:(Instr.lookup 368 (.map (some b0)) (.string ⟨KL.toArray⟩) true).run Tryz.prog w5=.ok (.tuple #[.string ⟨#[]⟩,.bool false]) w5:=(by rw[hKL];rw[hL] at V7;exact V7);have hlG:(Instr.lookup 368 (.map (some b0)) (.string ⟨KG.toArray⟩) true).run Tryz.prog w5=.ok (.tuple #[n,.bool true]) w5:=(by rw[hKG];rw[hG] at V8;exact V8);have hn1:n.length=1:=by
              obtain ⟨d,-,-,hn⟩:=lQ hG;rw[hn];rfl
             have hsn:(⟨n.toArray⟩:ByteArray).size=n.length:=Lib.size_mk n;have hon:¬(9223372036854775807<P.length+n.length):=(by omega);have hcn:=dK P n;have hcr:(⟨R.toArray⟩:ByteArray)++⟨#[71]⟩=⟨(R++[71]).toArray⟩:=dK R [71];have HNx:=aHH (show eE m (i+1)=some (ps++[(71,n)]) by rw[ZS.out,show mT i s=some (71,n) from by unfold mT;rw[if_neg (by omega),hL,hG];rfl]);clear V7 V8 hL hG hKL hKG hbk hkb hb5;go_wp2_with fail;refine wp_loop_rounds 3 ?_;rw[rounds_succ];go_wp2_with fail;rw[rounds_succ];go_wp2_with fail;rw[rounds_succ];go_wp2_with fail;exact ⟨⟨i+1,ps++[(71,n)],by omega,by go_num,HNx.out,by rw[(dL _ _).1,←HP.out,←hcn],by rw[(dL _ _).2,←HRw.out,←hcr],HB5.out⟩,by simp[RowKit.intOf]<;>omega⟩
            |none=>have hlL:(Instr.lookup 368 (.map (some b0)) (.string ⟨KL.toArray⟩) true).run Tryz.prog w5=.ok (.tuple #[.string ⟨#[]⟩,.bool false]) w5:=(by rw[hKL];rw[hL] at V7;exact V7);have hlG:(Instr.lookup 368 (.map (some b0)) (.string ⟨KG.toArray⟩) true).run Tryz.prog w5=.ok (.tuple #[.string ⟨#[]⟩,.bool false]) w5:=(by rw[hKG];rw[hG] at V8;exact V8);have HRd:=aHH (show fZ m=([],2) from gO (by unfold jT;rw[if_pos HH.out,lR hlt (show mT i (gAt m i)=none by rw[←HSg.out];unfold mT;rw[if_neg (by omega),hL,hG];rfl)]));clear V7 V8 hL hG hKL hKG hbk hkb hb5;go_wp2_with fail;refine wp_loop_rounds 3 ?_;rw[rounds_succ];go_wp2_with fail;rw[rounds_succ];go_wp2_with fail;rw[rounds_succ];go_wp2_with fail;exact aIx (v:=.tuple #[.string ⟨#[]⟩,.int .i64 2]) (by simp[results,Tryz.results328,go_sem]) rfl ⟨by rw[HRd.out],HBr.out.trans HB5.out⟩
          ·have h6I:(6:Int)≤(i:Int):=(by omega);go_upto_region 20 with fail;obtain ⟨a,ha⟩:=aH0 (qL i:Nat);have hai:(3:Int)+7*(i:Int)+5=(a:Int):=(by rw[ha];unfold qL;rw[if_pos (by omega)];omega);have ha7:(a:Int)+7≤95:=(by omega);rw[hai];obtain ⟨s,hs⟩:=aH0 (gAt m i);have hex:(⟨m.toArray⟩:ByteArray).extract a (a+7)=⟨s.toArray⟩:=by
            rw[eO,hs,show a+7-a=7 by omega];unfold gAt;rw[ha]
           have hs7:s.length=7:=by
            rw[hs];unfold gAt;rw[aH7,aIg,←ha,HL.out];omega
           have hss:(⟨s.toArray⟩:ByteArray).size=s.length:=Lib.size_mk s;have hos:¬(9223372036854775807<1+s.length):=(by omega);have hoR:¬(9223372036854775807<R.length+1):=(by omega);rw[←hs] at ZS;have HSg:=aHH hs;clear hai ha hs;have hs4:(wx.alloc (.cells #[.string ⟨#[76]⟩,.string ⟨#[71]⟩] 9)).heap.size=wx.heap.size+1:=World.size_alloc _ _;have hb4:Bl wr (wx.alloc (.cells #[.string ⟨#[76]⟩,.string ⟨#[71]⟩] 9)):=Bl.alloc HBx.out _;rw[←hs4];generalize wx.alloc (.cells #[.string ⟨#[76]⟩,.string ⟨#[71]⟩] 9)=w4 at hb4 ⊢;clear hs4;have hbk:=Blk.new w4 9 #[.string ⟨#[82]⟩];have hb5:Bl wr (w4.alloc (.cells #[.string ⟨#[82]⟩] 9)):=Bl.alloc hb4 _;have hkc:=hbk.all1;obtain ⟨kb,hkb⟩:=aH0 w4.heap.size;rw[←hkb] at hkc ⊢;generalize w4.alloc (.cells #[.string ⟨#[82]⟩] 9)=w5 at hkc hb5 ⊢;have HB5:=aHH hb5;have hkR:(⟨#[82]⟩:ByteArray)++⟨s.toArray⟩=⟨(82 :: s).toArray⟩:=dK [82] s;have aAS:=(HM.out.bl hb5).lookup2 (fY (P:=Tryz.prog) Tryz.underlying9) hmt (Tryz.zeroValue9 w5) (82 :: s);rw[D8] at aAS;obtain ⟨KR,hKR⟩:=aH0 (82 :: s);rw[←hKR] at hkR;cases hR:tG (82 :: s) with
           |some n=>
            have hlR:(Instr.lookup 368 (.map (some b0)) (.string ⟨KR.toArray⟩) true).run Tryz.prog w5=.ok (.tuple #[n,.bool true]) w5:=(by rw[hKR];rw[hR] at aAS;exact aAS);have hn1:n.length=1:=by
             obtain ⟨d,-,-,hn⟩:=lQ hR;rw[hn];rfl
            have hsn:(⟨n.toArray⟩:ByteArray).size=n.length:=Lib.size_mk n;have hon:¬(9223372036854775807<P.length+n.length):=(by omega);have hcn:=dK P n;have hcr:(⟨R.toArray⟩:ByteArray)++⟨#[82]⟩=⟨(R++[82]).toArray⟩:=dK R [82];have HNx:=aHH (show eE m (i+1)=some (ps++[(82,n)]) by rw[ZS.out,show mT i s=some (82,n) from by unfold mT;rw[if_pos (by omega),hR];rfl]);clear aAS hR hKR hbk hkb hb5 hb4;go_wp2_with fail;refine wp_loop_rounds 2 ?_;rw[rounds_succ];go_wp2_with fail;rw[rounds_succ];go_wp2_with fail;exact ⟨⟨i+1,ps++[(82,n)],by omega,by go_num,HNx.out,by rw[(dL _ _).1,←HP.out,←hcn],by rw[(dL _ _).2,←HRw.out,←hcr],HB5.out⟩,by simp[RowKit.intOf]<;>omega⟩
           |none=>have hlR:(Instr.lookup 368 (.map (some b0)) (.string ⟨KR.toArray⟩) true).run Tryz.prog w5=.ok (.tuple #[.string ⟨#[]⟩,.bool false]) w5:=(by rw[hKR];rw[hR] at aAS;exact aAS);have HRd:=aHH (show fZ m=([],2) from gO (by unfold jT;rw[if_pos HH.out,lR hlt (show mT i (gAt m i)=none by rw[←HSg.out];unfold mT;rw[if_pos (by omega),hR];rfl)]));clear aAS hR hKR hbk hkb hb5 hb4;go_wp2_with fail;refine wp_loop_rounds 2 ?_;rw[rounds_succ];go_wp2_with fail;rw[rounds_succ];go_wp2_with fail;exact aIx (v:=.tuple #[.string ⟨#[]⟩,.int .i64 2]) (by simp[results,Tryz.results328,go_sem]) rfl ⟨by rw[HRd.out],HBr.out.trans HB5.out⟩
         ·obtain rfl:i=12:=(by omega);obtain ⟨P,hP⟩:=aH0 (fI ps);obtain ⟨R,hRw⟩:=aH0 (mE ps);obtain ⟨X,hX⟩:=aH0 (R.take 6);have HDg:=aHH (UF HH.out hps hP hRw hX);rw[←hP] at hol ⊢;rw[←hRw] at hrl ⊢;have hsR:(⟨R.toArray⟩:ByteArray).size=R.length:=Lib.size_mk R;have hx6:(⟨R.toArray⟩:ByteArray).extract 0 6=⟨(R.take 6).toArray⟩:=eO R 0 6;rw[←hX] at hx6;have HBx:=aHH hbx;have HIx:=aHH (uV X);clear hps hP hRw hbx hX;cases hf:oT X with
          |none=>
           have hV:XI X = -1:=(by unfold XI;rw[hf]);rw[hV] at HIx;have HRd:=aHH (gO (HDg.out.trans (by rw[hf];rfl)));clear hV hf;go_upto_region 32 with fail;refine aHZ [aHX 1,aHX 2,aHY 0,aHY 3,aHX 4] (by kernel_rfl) ?_;apply Flow.mv _ rfl
           ·intro a b;simp only[sqA,Act.eval,sqC];exact b
           apply Flow.calm2 _ _ rfl rfl
           ·intro a b c d;obtain ⟨e,f⟩:=b.rule;go_simp;(try go_ints);exact d
           ·intro a b;simp only[sqA];exact b
           apply Flow.move rfl;go_wp2_with fail;refine (p7 _).mono ?_;rintro e w5 ⟨g5,rfl,hr5,HB1⟩;go_wp2_with fail;refine ⟨fun _=>(by first|exact HB1|exact Bl.refl _),?_⟩;apply Flow.move rfl;go_wp2_with fail;refine (HIx.out g5 w5 hr5).mono ?_;rintro e w6 ⟨rfl,hw6⟩;subst hw6;have HB2:=HB1;go_wp2_with fail;refine ⟨fun _=>(by first|exact HB2|exact Bl.refl _),?_⟩;apply Flow.asg _ rfl
           ·intro a b;simp only[sqA,Act.eval,sqC];exact b
           refine Flow.done ?_;have HB5:=aHH (HBx.out.trans (Bl.ofDrew HB1));clear hr5 HB1 HB2 HBx;go_wp2_with fail;exact aIx (v:=.tuple #[.string ⟨#[]⟩,.int .i64 2]) (by simp[results,Tryz.results328,go_sem]) rfl ⟨by rw[HRd.out],HBr.out.trans HB5.out⟩
          |some f=>
           have hV:XI X=(f:Int):=(by unfold XI;rw[hf]);rw[hV] at HIx;have aB1:f<10:=by
            unfold oT at hf;exact (List.findIdx?_eq_some_iff_findIdx_eq.1 hf).1
           have hdg:jT m=some (UInt8.ofNat (48+f) :: P):=HDg.out.trans (by rw[hf];rfl);have hcv:=fun (W:World)=>ND (W.alloc (.cells #[.int .u8 (48+(f:Int))] 5)) W.heap.size 1 f aB1 (UD W _);obtain ⟨N,hN⟩:∃N,N=[UInt8.ofNat (48+f)]:=⟨_,rfl⟩;rw[←hN] at hcv;have hlN:N.length=1:=(by rw[hN];rfl);have hsN:(⟨N.toArray⟩:ByteArray).size=N.length:=Lib.size_mk N;have kN:=dK N P;have aG5:(⟨P.toArray⟩:ByteArray).size=P.length:=Lib.size_mk P;have hoN:¬(9223372036854775807<N.length+P.length):=(by omega);obtain ⟨D,hD⟩:=aH0 (N++P);rw[←hD] at kN;have hdD:jT m=some D:=(by rw[hdg,hD,hN];rfl);obtain ⟨aEq,hDm⟩:=qM hdD;have hsD:(⟨D.toArray⟩:ByteArray).size=D.length:=Lib.size_mk D;have aCi:(D.length:Int)=13:=(by omega);have hck:=fun wx=>zQ (D.take 12) wx (by rw[aH7];omega);rw[UE aEq hDm] at hck;simp only[if_true] at hck;have aCj:(⟨D.toArray⟩:ByteArray).extract 0 12=⟨(D.take 12).toArray⟩:=eO D 0 12;obtain ⟨b12,ZT,YN,aCk⟩:=tO hDm (i:=12) (by omega);obtain ⟨k1,k2⟩:=e9 ZT;have hrd:fZ m=if iO (D.take 12)=jS D 12 then (D,0) else ([],14):=(by unfold fZ;rw[hdD]);obtain ⟨ck,ZU⟩:=aH0 (iO (D.take 12));obtain ⟨d12,JC⟩:=aH0 (jS D 12);rw[←ZU] at hck hrd;rw[←JC] at YN aCk hrd;have Hck:=aHH hck;have HRd:=aHH hrd;clear hV hf hdg hN hD hdD hDm ZT ZU JC hck hrd HDg;go_upto_region 32 with fail;refine aHZ [aHX 1,aHX 2,aHY 0,aHY 3,aHX 4] (by kernel_rfl) ?_;apply Flow.mv _ rfl
           ·intro a b;simp only[sqA,Act.eval,sqC];exact b
           apply Flow.calm2 _ _ rfl rfl
           ·intro a b c d;obtain ⟨e,f⟩:=b.rule;go_simp;(try go_ints);exact d
           ·intro a b;simp only[sqA];exact b
           apply Flow.move rfl;go_wp2_with fail;refine (p7 _).mono ?_;rintro e w5 ⟨g5,rfl,hr5,HB1⟩;go_wp2_with fail;refine ⟨fun _=>(by first|exact HB1|exact Bl.refl _),?_⟩;apply Flow.move rfl;go_wp2_with fail;refine (HIx.out g5 w5 hr5).mono ?_;rintro e w6 ⟨rfl,hw6⟩;subst hw6;have HB2:=HB1;go_wp2_with fail;refine ⟨fun _=>(by first|exact HB2|exact Bl.refl _),?_⟩;apply Flow.asg _ rfl
           ·intro a b;simp only[sqA,Act.eval,sqC];exact b
           refine Flow.done ?_;have HB5:=aHH (HBx.out.trans (Bl.ofDrew HB1));clear hr5 HB1 HB2 HBx;go_wp2_with fail;refine (Hck.out _).mono ?_;rintro e w7 ⟨rfl,hb7⟩;have HB7:=aHH ((HBr.out.trans (HB5.out.alloc _)).trans hb7);clear hb7 hcv;by_cases hq:ck=d12
           ·have HR2:=aHH (HRd.out.trans (if_pos hq));subst hq;clear HRd;go_wp2_with fail;exact aIx (v:=.tuple #[.string ⟨D.toArray⟩,.int .i64 0]) (by simp[results,Tryz.results328,go_sem]) rfl ⟨by rw[HR2.out],HB7.out⟩
           ·have HR2:=aHH (HRd.out.trans (if_neg hq));have hq':(ck:Int)≠(d12:Int):=(by omega);clear HRd hq;go_wp2_with fail;exact aIx (v:=.tuple #[.string ⟨#[]⟩,.int .i64 14]) (by simp[results,Tryz.results328,go_sem]) rfl ⟨by rw[HR2.out],HB7.out⟩
     |false=>have HR:=aHH (gO (iD (m:=m) (by rw[HHd.out,h3,h5,h9];rfl)));clear HHd;go_wp2_with fail;refine Ht.out.mono ?_;rintro e w1 ⟨rfl,hb1⟩;go_wp2_with fail;exact aIx (v:=.tuple #[.string ⟨#[]⟩,.int .i64 2]) (by simp[results,Tryz.results328,go_sem]) rfl ⟨by rw[HR.out],hb1⟩
    |false=>have HR:=aHH (gO (iD (m:=m) (by rw[HHd.out,h3,h5];rfl)));clear HHd;go_wp2_with fail;refine Ht.out.mono ?_;rintro e w1 ⟨rfl,hb1⟩;go_wp2_with fail;exact aIx (v:=.tuple #[.string ⟨#[]⟩,.int .i64 2]) (by simp[results,Tryz.results328,go_sem]) rfl ⟨by rw[HR.out],hb1⟩
   |false=>have HR:=aHH (gO (iD (m:=m) (by rw[HHd.out,h3];rfl)));clear HHd;go_wp2_with fail;refine Ht.out.mono ?_;rintro e w1 ⟨rfl,hb1⟩;go_wp2_with fail;exact aIx (v:=.tuple #[.string ⟨#[]⟩,.int .i64 2]) (by simp[results,Tryz.results328,go_sem]) rfl ⟨by rw[HR.out],hb1⟩
 ·have aEj:((m.length:Int)==95)=false:=(by rw[aIr];omega);have hlI:(m.length:Int)≠95:=(by omega);have HR:=aHH (gO (iD (m:=m) (by unfold jW;rw[aIt h95];rfl)));clear h95;go_wp2_with fail;exact aIx (v:=.tuple #[.string ⟨#[]⟩,.int .i64 2]) (by simp[results,Tryz.results328,go_sem]) rfl ⟨by rw[HR.out],Bl.refl _⟩
def aL (rd:List UInt8→List UInt8 × Int) (m:List UInt8):List UInt8 × Int:=if (rd m).2=2 then rd m.reverse else rd m
theorem QK (g : Nat) (rd : List UInt8 → List UInt8 × Int) (eg : ∀ args w, (callFunc g args).run Tryz.prog w = .ok (.enter g args) w) (M : Nat) (hM : M ≤ 9223372036854775807)
 (hr:∀(m:List UInt8) (W:World),m.length≤M→Calls Tryz.prog g #[m] W fun e w'=>e=.returned (.tuple #[.string ⟨(rd m).1.toArray⟩,.int .i64 (rd m).2])∧Bl W w')
 (m:List UInt8) (hl:m.length≤M) (w:World) :
 Calls Tryz.prog 327 #[m,.func (.func g) #[] #[]] w fun e w'=>e=.returned (.tuple #[.string ⟨(aL rd m).1.toArray⟩,.int .i64 (aL rd m).2])∧Bl w w':=by
 have H1:=aHH (hr m);have H2:=aHH (hr m.reverse);have hb:=fun wx=>nT m wx (by omega);unfold FlipRes at hb;have Hb:=aHH hb;obtain ⟨a,ha⟩:=aH0 ((rd m).1);obtain ⟨e1,he1⟩:=aH0 ((rd m).2);rw[←ha,←he1] at H1;obtain ⟨b,hb2⟩:=aH0 ((rd m.reverse).1);obtain ⟨e2,he2⟩:=aH0 ((rd m.reverse).2);rw[←hb2,←he2] at H2;obtain ⟨r,hrv⟩:=aH0 m.reverse;have hrl:r.length≤M:=(by rw[hrv,aIA];exact hl);by_cases hq:e1=2
 ·have hE:aL rd m=rd m.reverse:=(by unfold aL;rw[←he1,if_pos hq]);have HA:=aHH (show (aL rd m).1=b from by rw[hE,hb2]);have HB:=aHH (show (aL rd m).2=e2 from by rw[hE,he2]);rw[←hrv] at Hb H2;subst hq;clear hE ha he1 hb2 he2 hb hr hrv
  go_in
  go_wp2_with fail;refine (H1.out _ hl).mono ?_;rintro e w1 ⟨rfl,hb1⟩;go_wp2_with fail;refine (Hb.out _).mono ?_;rintro e w2 ⟨rfl,hb2⟩;go_wp2_with fail;refine (H2.out _ hrl).mono ?_;rintro e w3 ⟨rfl,hb3⟩;go_wp2_with fail;exact aIx (v:=.tuple #[b,e2]) (by simp[results,Tryz.results327,go_sem]) rfl ⟨by rw[HA.out,HB.out],(hb1.trans hb2).trans hb3⟩
 ·have hE:aL rd m=rd m:=(by unfold aL;rw[←he1,if_neg hq]);have HA:=aHH (show (aL rd m).1=a from by rw[hE,ha]);have HB:=aHH (show (aL rd m).2=e1 from by rw[hE,he1]);have hqb:(e1==2)=false:=(by rw[aIr];exact hq);clear hE ha he1 hb2 he2 hb hr hrv hq
  go_in
  go_wp2_with fail;refine (H1.out _ hl).mono ?_;rintro e w1 ⟨rfl,hb1⟩;go_wp2_with fail;exact aIx (v:=.tuple #[.string ⟨a.toArray⟩,e1]) (by simp[results,Tryz.results327,go_sem]) rfl ⟨by rw[HA.out,HB.out],hb1⟩
theorem IC (m:List UInt8) (w:World) (hl:m.length≤9223372036854775807) :
 Calls Tryz.prog 285 #[.string ⟨m.toArray⟩] w fun e w'=>e=.returned (.tuple #[.string ⟨(aL fZ m).1.toArray⟩,.int .i64 (aL fZ m).2])∧Bl w w':=by
 have H:=aHH (QK 328 fZ (fT Tryz.func328 (by kernel_rfl) rfl) 9223372036854775807 (Nat.le_refl _) (fun m W h=>KY m W h) m hl w);obtain ⟨a,ha⟩:=aH0 ((aL fZ m).1);obtain ⟨e1,he1⟩:=aH0 ((aL fZ m).2);rw[←ha,←he1] at H ⊢;clear ha he1
 go_in
 go_wp2_with fail;refine H.out.mono ?_;rintro e w1 ⟨rfl,hb1⟩;go_wp2_with fail;exact aIx (v:=.tuple #[.string ⟨a.toArray⟩,e1]) (by simp[results,Tryz.results285,go_sem]) rfl ⟨rfl,hb1⟩
def NE (m:List UInt8):List UInt8 × Bool:=match jT m with
 |none=>([],false)
 |some d=>(d,true)
theorem iQ {m:List UInt8} (h:jT m=none):NE m=([],false):=by unfold NE;rw[h]
theorem yJ (k:Nat) (hk:k<10):Utf8.encode (48+(k:Int))=⟨[UInt8.ofNat (48+k)].toArray⟩:=by
 have:∀k<10,Utf8.encode (48+((k:Nat):Int))=⟨[UInt8.ofNat (48+k)].toArray⟩:=(by decide +kernel);exact this k hk
theorem yK (i : Nat) (s : List UInt8) : ∀ k, (fI (gA i s k)).length ≤ k ∧ (mE (gA i s k)).length ≤ k
 |0=>⟨Nat.le_refl _,Nat.le_refl _⟩
 |k+1=>by
  obtain ⟨h1,h2⟩:=yK i s k;have e:gA i s (k+1)=gA i s k++(match iV i s k with|some c=>[(c,[UInt8.ofNat (48+k)])]|none=>[]):=rfl;rw[e];cases iV i s k with
  |none=>simp only[aIN];omega
  |some c=>simp only[(dL _ _).1,(dL _ _).2,aH5,aIo];omega
theorem p8 {i k:Nat} {s:List UInt8} {c:UInt8} (h:iV i s k=some c):gA i s (k+1)=gA i s k++[(c,[UInt8.ofNat (48+k)])]:=by
 show gA i s k++(match iV i s k with|some c=>[(c,[UInt8.ofNat (48+k)])]|none=>[])=_;rw[h]
theorem qA {i k:Nat} {s:List UInt8} (h:iV i s k=none):gA i s (k+1)=gA i s k:=by
 show gA i s k++(match iV i s k with|some c=>[(c,[UInt8.ofNat (48+k)])]|none=>[])=_;rw[h];exact aIN _
set_option maxRecDepth 1000000 in
theorem uW (m:List UInt8) (w:World) (_hl:m.length≤9223372036854775807) (hT:SpOk w) :
 Calls Tryz.prog 256 #[m] w fun e w'=>e=.returned (.tuple #[.string ⟨(NE m).1.toArray⟩,.bool (NE m).2])∧Bl w w':=by
 have hsz:(⟨m.toArray⟩:ByteArray).size=m.length:=Lib.size_mk m;have HT:=aHH hT;clear hT
 go_in
 by_cases h95:m.length=95
 ·have aEj:((m.length:Int)==95)=true:=(by rw[beq_iff_eq];omega);have hlI:(m.length:Int)=95:=(by omega);have hx3:(⟨m.toArray⟩:ByteArray).extract 0 3=⟨(m.take 3).toArray⟩:=eO m 0 3;have hx5:(⟨m.toArray⟩:ByteArray).extract 45 50=⟨((m.drop 45).take 5).toArray⟩:=eO m 45 50;have hx9:(⟨m.toArray⟩:ByteArray).extract 92 m.length=⟨(m.drop 92).toArray⟩:=iA m 92;have t7:jW m=((m.take 3==V1)&&(((m.drop 45).take 5==aBb)&&(m.drop 92==V1))):=by
   unfold jW;rw[aIu h95,Bool.true_and,tP,tP,tP]
  obtain ⟨X3,hX3⟩:=aH0 (m.take 3);obtain ⟨X5,hX5⟩:=aH0 ((m.drop 45).take 5);obtain ⟨X9,hX9⟩:=aH0 (m.drop 92);rw[←hX3] at hx3 t7;rw[←hX5] at hx5 t7;rw[←hX9] at hx9 t7;unfold V1 aBb at t7;have HHd:=aHH t7;have HL:=aHH h95;clear t7 hX3 hX5 hX9 h95;cases h3:(X3==[49,48,49]) with
  |true=>
   cases h5:(X5==[48,49,48,49,48]) with
   |true=>
    cases h9:(X9==[49,48,49]) with
    |true=>
     have HH:=aHH (show jW m=true by rw[HHd.out,h3,h5,h9];rfl);clear HHd;go_wp2_with fail;go_loopw [4,5,32] (fun s4 s5 s32 wx=>∃(i:Nat) (ps:List (UInt8 × List UInt8)),i≤12∧s32=.int .i64 (i:Int)∧eE m i=some ps∧s5=.string ⟨(fI ps).toArray⟩∧s4=.string ⟨((mE ps).take 6).toArray⟩∧Bl w wx) (fun _ _ v _=>12-(RowKit.intOf v).toNat);case atStart=>exact ⟨0,[],Nat.zero_le _,rfl,rfl,rfl,rfl,Bl.refl _⟩
     case round=>
      rename World=>wx;obtain ⟨i,ps,hi,rfl,hps,rfl,rfl,hbx⟩:=hrel;obtain ⟨hol,hrl⟩:=IB hps;by_cases hlt:i<12
      ·have HPs:=aHH hps;have HBx:=aHH hbx;have aG4:(i:Int)<12:=(by omega);have aBk:eE m (i+1)=(match mT i (gAt m i) with|none=>none|some p=>some (ps++[p])):=by
        show (match eE m i with|none=>none|some ps=>match mT i (gAt m i) with|none=>none|some p=>some (ps++[p]))=_;rw[hps]
       obtain ⟨a,ha⟩:=aH0 (qL i:Nat);have ha7:(a:Int)+7≤95:=(by rw[ha];unfold qL;split<;>omega);obtain ⟨s,hs⟩:=aH0 (gAt m i);have hex:(⟨m.toArray⟩:ByteArray).extract a (a+7)=⟨s.toArray⟩:=by
        rw[eO,hs,show a+7-a=7 by omega];unfold gAt;rw[ha]
       have HA:=aHH ha;have iG:=WY i s;rw[←hs] at aBk;obtain ⟨P,hP⟩:=aH0 (fI ps);obtain ⟨R,hRw⟩:=aH0 ((mE ps).take 6);have hRl:R.length≤6:=(by rw[hRw,aH7];omega);rw[←hP] at hol ⊢;rw[←hRw];obtain ⟨HP,HRw,HSg,ZS,CI⟩:=aHK hP hRw hs aBk iG;clear hps hbx aBk hP hRw hs ha iG;by_cases h6:i<6
       ·have h6I:(i:Int)<6:=(by omega);have h6N:¬((6:Int)≤(i:Int)):=(by omega);have hai:(3:Int)+7*(i:Int)=(a:Int):=(by have:=HA.out;rw[this];unfold qL;rw[if_neg (by omega)];omega);go_upto_region 10 with fail;try rw[hai]
        clear hai;go_wp2_with fail;refine (NC _ (HT.out.bl HBx.out)).mono ?_;rintro e w5 ⟨g,rfl,hr5,hb5⟩;have HR5:=aHH hr5;have HB5:=aHH hb5;clear hr5 hb5;go_wp2_with fail;go_loopw [4,5,9,49] (fun s4 s5 s9 s49 wy=>∃k:Nat,k≤10∧s49=.int .i64 (k:Int)∧s5=.string ⟨(P++fI (gA i s k)).toArray⟩∧s4=.string ⟨(R++mE (gA i s k)).toArray⟩∧s9=.bool (!(gA i s k).isEmpty)∧Bl w5 wy) (fun _ _ _ v _=>10-(RowKit.intOf v).toNat);case atStart=>exact ⟨0,Nat.zero_le _,rfl,by rw[show fI (gA i s 0)=[] from rfl,aIN],by rw[show mE (gA i s 0)=[] from rfl,aIN],rfl,Bl.refl _⟩
        case round=>
         rename World=>wy;obtain ⟨k,hk,rfl,rfl,rfl,rfl,hby⟩:=hrel;obtain ⟨hlo,hlr⟩:=yK i s k;obtain ⟨H,hH⟩:=aH0 (gA i s k);rw[←hH] at hlo hlr ⊢;by_cases hkt:k<10
         ·obtain ⟨ad,ea,c0⟩:=pX (HR5.out.bl hby) (D7 k hkt);obtain rfl:=aIw ea;rw[jY] at c0;have HBy:=aHH hby
          have hE7:=UC k hkt;have hcE:=fun wx=>H7 k hkt wx;have hcF:=fun wx=>vU (exB (dS.getD k [])) wx (by omega);unfold FlipRes at hcF;have hkI:(k:Int)<(dS.length:Int):=(by show (k:Int)<10;omega);have aCl:=yJ k hkt;obtain ⟨N,hN⟩:∃N,N=[UInt8.ofNat (48+k)]:=⟨_,rfl⟩;rw[←hN] at aCl;have hN1:N.length=1:=(by rw[hN];rfl);have hss:=fun c (h:iV i s k=some c)=>(p8 h).trans (by rw[←hN,←hH]);have hsn:=fun (h:iV i s k=none)=>(qA h).trans hH.symm;have hkr:iV i s k=if s=cO 76 k then some 76 else if s=cO 71 k then some 71 else none:=(by unfold iV;rw[if_neg (by omega)]);rw[yH,XH] at hkr;obtain ⟨E,hE⟩:=aH0 (exB (dS.getD k []));obtain ⟨F,hF⟩:=aH0 E.reverse;rw[←hE] at hcE hcF hkr;rw[←hF] at hcF hkr;obtain ⟨L,hL⟩:=aH0 (dS.getD k []);rw[←hL] at hcE c0 hkr;obtain ⟨HcE,HcF,HSs,HSn,HKr⟩:=aHK hcE hcF hss hsn hkr;obtain ⟨Q,hQ⟩:=aH0 (P++fI H);have hQl:Q.length≤40:=(by rw[hQ,aH5];omega);rw[←hQ];have HQ:=aHH hQ;have hsQ:(⟨Q.toArray⟩:ByteArray).size=Q.length:=Lib.size_mk Q;have hsN:(⟨N.toArray⟩:ByteArray).size=N.length:=Lib.size_mk N;have hoQ:¬(9223372036854775807<Q.length+N.length):=(by omega);have kN:=dK Q N;obtain ⟨T,hTT⟩:=aH0 (R++mE H);have hTl:T.length≤40:=(by rw[hTT,aH5];omega);rw[←hTT];have HTT:=aHH hTT;have hsT:(⟨T.toArray⟩:ByteArray).size=T.length:=Lib.size_mk T;have hoT:¬(9223372036854775807<T.length+1):=(by omega);clear hN hss hsn hkr hE hF hL hcE hcF hQ hby hTT;cases hqL:(s==L) with
          |true=>have HSt:=aHH (HSs.out 76 (HKr.out.trans (by rw[if_pos (by simpa using hqL)])));have hcT:(⟨T.toArray⟩:ByteArray)++⟨#[76]⟩=⟨(T++[76]).toArray⟩:=dK T [76];clear HSs HSn HKr hH;go_wp2_with fail;exact ⟨⟨k+1,by omega,by go_num,by rw[HSt.out,(dL _ _).1,←aIi,←HQ.out,←kN],by rw[HSt.out,(dL _ _).2,←aIi,←HTT.out,←hcT],by rw[HSt.out];simp,HBy.out⟩,by simp[RowKit.intOf]<;>omega⟩
          |false=>
           cases hqF:(s==F) with
           |true=>have HSt:=aHH (HSs.out 71 (HKr.out.trans (by rw[if_neg (by simpa using hqL),if_pos (by simpa using hqF)])));have hcT:(⟨T.toArray⟩:ByteArray)++⟨#[71]⟩=⟨(T++[71]).toArray⟩:=dK T [71];clear HSs HSn HKr hH;go_wp2_with fail;refine (HcE.out _).mono ?_;rintro e w8 ⟨rfl,hb8⟩;have HB8:=aHH (HBy.out.trans hb8);clear hb8;go_wp2_with fail;refine (HcF.out _).mono ?_;rintro e w9 ⟨rfl,hb9⟩;have HB9:=aHH (HB8.out.trans hb9);clear hb9;go_wp2_with fail;exact ⟨⟨k+1,by omega,by go_num,by rw[HSt.out,(dL _ _).1,←aIi,←HQ.out,←kN],by rw[HSt.out,(dL _ _).2,←aIi,←HTT.out,←hcT],by rw[HSt.out];simp,HB9.out⟩,by simp[RowKit.intOf]<;>omega⟩
           |false=>have HSt:=aHH (HSn.out (HKr.out.trans (by rw[if_neg (by simpa using hqL),if_neg (by simpa using hqF)])));clear HSs HSn HKr hH;go_wp2_with fail;refine (HcE.out _).mono ?_;rintro e w8 ⟨rfl,hb8⟩;have HB8:=aHH (HBy.out.trans hb8);clear hb8;go_wp2_with fail;refine (HcF.out _).mono ?_;rintro e w9 ⟨rfl,hb9⟩;have HB9:=aHH (HB8.out.trans hb9);clear hb9;go_wp2_with fail;exact ⟨⟨k+1,by omega,by go_num,by rw[HSt.out,←HQ.out],by rw[HSt.out,←HTT.out],by rw[HSt.out],HB9.out⟩,by simp[RowKit.intOf]<;>omega⟩
         ·obtain rfl:k=10:=(by omega);rw[hH,CI.out];have hb5:=HB5.out;cases hd:mT i s with
          |none=>have HRd:=aHH (show NE m=([],false) from iQ (by unfold jT;rw[if_pos HH.out,lR hlt (show mT i (gAt m i)=none by rw[←HSg.out];exact hd)]));clear hH hd;go_wp2_with fail;exact aIx (v:=.tuple #[.string ⟨#[]⟩,.bool false]) (by simp[results,Tryz.results256,go_sem]) rfl ⟨by rw[HRd.out],(HBx.out.trans hb5).trans hby⟩
          |some p=>
           obtain ⟨c,n⟩:=p;have hst:=ZS.out;rw[hd] at hst;have HSt:=aHH (show eE m (i+1)=some (ps++[(c,n)]) from hst);have hp1:=(dL (ps:=ps) c n).1;have hp2:=(dL (ps:=ps) c n).2;rw[←HP.out] at hp1;have hq1:P++fI (Option.some (c,n)).toList=fI (ps++[(c,n)]):=(by rw[hp1];unfold fI;simp);have hR0:R=mE ps:=(by rw[HRw.out,aID (by omega)]);have hq2:R++mE (Option.some (c,n)).toList=(mE (ps++[(c,n)])).take 6:=by
            rw[hp2,hR0,aID (by rw[aH5,aIo];omega)];rfl
           rw[hq1,hq2];clear hp1 hp2 hq1 hq2 hst hH hd hR0;go_wp2_with fail;exact ⟨⟨i+1,_,by omega,by go_num,HSt.out,rfl,rfl,(HBx.out.trans hb5).trans hby⟩,by simp[RowKit.intOf]<;>omega⟩
       ·have h6I:(6:Int)≤(i:Int):=(by omega);have h6N:¬((i:Int)<6):=(by omega);have hai:(3:Int)+7*(i:Int)+5=(a:Int):=(by have:=HA.out;rw[this];unfold qL;rw[if_pos (by omega)];omega);go_upto_region 10 with fail;try rw[hai]
        clear hai;go_wp2_with fail;refine (NC _ (HT.out.bl HBx.out)).mono ?_;rintro e w5 ⟨g,rfl,hr5,hb5⟩;have HR5:=aHH hr5;have HB5:=aHH hb5;clear hr5 hb5;go_wp2_with fail;go_loopw [4,5,9,49] (fun s4 s5 s9 s49 wy=>∃k:Nat,k≤10∧s49=.int .i64 (k:Int)∧s5=.string ⟨(P++fI (gA i s k)).toArray⟩∧s4=.string ⟨R.toArray⟩∧s9=.bool (!(gA i s k).isEmpty)∧Bl w5 wy) (fun _ _ _ v _=>10-(RowKit.intOf v).toNat);case atStart=>exact ⟨0,Nat.zero_le _,rfl,by rw[show fI (gA i s 0)=[] from rfl,aIN],rfl,rfl,Bl.refl _⟩
        case round=>
         rename World=>wy;obtain ⟨k,hk,rfl,rfl,rfl,rfl,hby⟩:=hrel;obtain ⟨hlo,hlr⟩:=yK i s k;obtain ⟨H,hH⟩:=aH0 (gA i s k);rw[←hH] at hlo hlr ⊢;by_cases hkt:k<10
         ·obtain ⟨ad,ea,c0⟩:=pX (HR5.out.bl hby) (D7 k hkt);obtain rfl:=aIw ea;rw[jY] at c0;have HBy:=aHH hby
          have hE7:=UC k hkt;have hcE:=fun wx=>H7 k hkt wx;have hcF:=fun wx=>vU (exB (dS.getD k [])) wx (by omega);unfold FlipRes at hcF;have hkI:(k:Int)<(dS.length:Int):=(by show (k:Int)<10;omega);have aCl:=yJ k hkt;obtain ⟨N,hN⟩:∃N,N=[UInt8.ofNat (48+k)]:=⟨_,rfl⟩;rw[←hN] at aCl;have hN1:N.length=1:=(by rw[hN];rfl);have hss:=fun c (h:iV i s k=some c)=>(p8 h).trans (by rw[←hN,←hH]);have hsn:=fun (h:iV i s k=none)=>(qA h).trans hH.symm;have hkr:iV i s k=if s=cO 82 k then some 82 else none:=(by unfold iV;rw[if_pos (by omega)]);rw[IA] at hkr;obtain ⟨E,hE⟩:=aH0 (exB (dS.getD k []));obtain ⟨F,hF⟩:=aH0 E.reverse;rw[←hE] at hcE hcF hkr;rw[←hF] at hcF;obtain ⟨L,hL⟩:=aH0 (dS.getD k []);rw[←hL] at hcE c0;obtain ⟨HcE,HcF,HSs,HSn,HKr⟩:=aHK hcE hcF hss hsn hkr;obtain ⟨Q,hQ⟩:=aH0 (P++fI H);have hQl:Q.length≤40:=(by rw[hQ,aH5];omega);rw[←hQ];have HQ:=aHH hQ;have hsQ:(⟨Q.toArray⟩:ByteArray).size=Q.length:=Lib.size_mk Q;have hsN:(⟨N.toArray⟩:ByteArray).size=N.length:=Lib.size_mk N;have hoQ:¬(9223372036854775807<Q.length+N.length):=(by omega);have kN:=dK Q N;clear hN hss hsn hkr hE hF hL hcE hcF hQ hby
          cases hqE:(s==E) with
          |true=>have HSt:=aHH (HSs.out 82 (HKr.out.trans (by rw[if_pos (by simpa using hqE)])));clear HSs HSn HKr hH;go_wp2_with fail;refine (HcE.out _).mono ?_;rintro e w8 ⟨rfl,hb8⟩;have HB8:=aHH (HBy.out.trans hb8);clear hb8;go_wp2_with fail;exact ⟨⟨k+1,by omega,by go_num,by rw[HSt.out,(dL _ _).1,←aIi,←HQ.out,←kN],rfl,by rw[HSt.out];simp,HB8.out⟩,by simp[RowKit.intOf]<;>omega⟩
          |false=>have HSt:=aHH (HSn.out (HKr.out.trans (by rw[if_neg (by simpa using hqE)])));clear HSs HSn HKr hH;go_wp2_with fail;refine (HcE.out _).mono ?_;rintro e w8 ⟨rfl,hb8⟩;have HB8:=aHH (HBy.out.trans hb8);clear hb8;go_wp2_with fail;exact ⟨⟨k+1,by omega,by go_num,by rw[HSt.out,←HQ.out],rfl,by rw[HSt.out],HB8.out⟩,by simp[RowKit.intOf]<;>omega⟩
         ·obtain rfl:k=10:=(by omega);rw[hH,CI.out];have hb5:=HB5.out;cases hd:mT i s with
          |none=>have HRd:=aHH (show NE m=([],false) from iQ (by unfold jT;rw[if_pos HH.out,lR hlt (show mT i (gAt m i)=none by rw[←HSg.out];exact hd)]));clear hH hd;go_wp2_with fail;exact aIx (v:=.tuple #[.string ⟨#[]⟩,.bool false]) (by simp[results,Tryz.results256,go_sem]) rfl ⟨by rw[HRd.out],(HBx.out.trans hb5).trans hby⟩
          |some p=>
           obtain ⟨c,n⟩:=p;have hst:=ZS.out;rw[hd] at hst;have HSt:=aHH (show eE m (i+1)=some (ps++[(c,n)]) from hst);have hp1:=(dL (ps:=ps) c n).1;have hp2:=(dL (ps:=ps) c n).2;rw[←HP.out] at hp1;have hq1:P++fI (Option.some (c,n)).toList=fI (ps++[(c,n)]):=(by rw[hp1];unfold fI;simp);have hq2:R=(mE (ps++[(c,n)])).take 6:=by
            rw[hp2,HRw.out,List.take_append_of_le_length (by omega)]
           have HQ2:=aHH hq2;rw[hq1];clear hp1 hp2 hq1 hq2 hst hH hd;go_wp2_with fail;exact ⟨⟨i+1,_,by omega,by go_num,HSt.out,rfl,by rw[←HQ2.out],(HBx.out.trans hb5).trans hby⟩,by simp[RowKit.intOf]<;>omega⟩
      ·obtain rfl:i=12:=(by omega);obtain ⟨P,hP⟩:=aH0 (fI ps);obtain ⟨R,hRw⟩:=aH0 (mE ps);obtain ⟨X,hX⟩:=aH0 (R.take 6);have HDg:=aHH (UF HH.out hps hP hRw hX);rw[←hP] at hol ⊢;rw[←hRw,←hX];have HBx:=aHH hbx;have aFO:=UA wx (HT.out.bl hbx);have HRw:=aHH aFO;have HIx:=aHH (uV X);clear hps hP hRw hbx hX aFO hrl;cases hf:oT X with
       |none=>have hV:XI X = -1:=(by unfold XI;rw[hf]);rw[hV] at HIx;have HRd:=aHH (iQ (HDg.out.trans (by rw[hf];rfl)));clear hV hf;go_wp2_with fail;refine HRw.out.mono ?_;rintro e w5 ⟨g5,rfl,hr5,hb5⟩;go_wp2_with fail;refine (HIx.out g5 w5 hr5).mono ?_;rintro e w6 ⟨rfl,hw6⟩;subst hw6;go_wp2_with fail;exact aIx (v:=.tuple #[.string ⟨#[]⟩,.bool false]) (by simp[results,Tryz.results256,go_sem]) rfl ⟨by rw[HRd.out],HBx.out.trans hb5⟩
       |some f=>
        have hV:XI X=(f:Int):=(by unfold XI;rw[hf]);rw[hV] at HIx;have aB1:f<10:=by
         unfold oT at hf;exact (List.findIdx?_eq_some_iff_findIdx_eq.1 hf).1
        have hdg:jT m=some (UInt8.ofNat (48+f) :: P):=HDg.out.trans (by rw[hf];rfl);have aCl:=yJ f aB1;obtain ⟨N,hN⟩:∃N,N=[UInt8.ofNat (48+f)]:=⟨_,rfl⟩;rw[←hN] at aCl;have hlN:N.length=1:=(by rw[hN];rfl);have hsN:(⟨N.toArray⟩:ByteArray).size=N.length:=Lib.size_mk N;have kN:=dK N P;have aG5:(⟨P.toArray⟩:ByteArray).size=P.length:=Lib.size_mk P;have hoN:¬(9223372036854775807<N.length+P.length):=(by omega);obtain ⟨D,hD⟩:=aH0 (N++P);rw[←hD] at kN;have HRd:=aHH (show NE m=(D,true) by unfold NE;rw[hdg,hD,hN];rfl);clear hV hf hdg hN hD HDg;go_wp2_with fail;refine HRw.out.mono ?_;rintro e w5 ⟨g5,rfl,hr5,hb5⟩;go_wp2_with fail;refine (HIx.out g5 w5 hr5).mono ?_;rintro e w6 ⟨rfl,hw6⟩;subst hw6;go_wp2_with fail;exact aIx (v:=.tuple #[.string ⟨D.toArray⟩,.bool true]) (by simp[results,Tryz.results256,go_sem]) rfl ⟨by rw[HRd.out],HBx.out.trans hb5⟩
    |false=>have HR:=aHH (iQ (iD (m:=m) (by rw[HHd.out,h3,h5,h9];rfl)));clear HHd;go_wp2_with fail;exact aIx (v:=.tuple #[.string ⟨#[]⟩,.bool false]) (by simp[results,Tryz.results256,go_sem]) rfl ⟨by rw[HR.out],Bl.refl _⟩
   |false=>have HR:=aHH (iQ (iD (m:=m) (by rw[HHd.out,h3,h5];rfl)));clear HHd;go_wp2_with fail;exact aIx (v:=.tuple #[.string ⟨#[]⟩,.bool false]) (by simp[results,Tryz.results256,go_sem]) rfl ⟨by rw[HR.out],Bl.refl _⟩
  |false=>have HR:=aHH (iQ (iD (m:=m) (by rw[HHd.out,h3];rfl)));clear HHd;go_wp2_with fail;exact aIx (v:=.tuple #[.string ⟨#[]⟩,.bool false]) (by simp[results,Tryz.results256,go_sem]) rfl ⟨by rw[HR.out],Bl.refl _⟩
 ·have aEj:((m.length:Int)==95)=false:=(by rw[aIr];omega);have hlI:(m.length:Int)≠95:=(by omega);have HR:=aHH (iQ (iD (m:=m) (by unfold jW;rw[aIt h95];rfl)));clear h95;go_wp2_with fail;exact aIx (v:=.tuple #[.string ⟨#[]⟩,.bool false]) (by simp[results,Tryz.results256,go_sem]) rfl ⟨by rw[HR.out],Bl.refl _⟩
end Go.Proofs.YtllefinciimffaaGreatDoor
