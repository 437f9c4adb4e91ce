import Derived.Test.YtllefinciimffaaGreatDoorMClaimFields8
import Derived.Deep.Onto
import Derived.Lib.SliceRun
set_option maxHeartbeats 20000000
set_option maxRecDepth 100000
namespace Go.Proofs.YtllefinciimffaaGreatDoor
open Go.RowKit
theorem rS:(Tryz.prog.info? 157).map (fun i=>(i.zero,i.size,i.bytes))=some (some (.agg #[.string ⟨#[]⟩,.int .i64 0,.int .i64 0,.int .i64 0,.int .i64 0,.int .i64 0,.int .i64 0]),7,64):=by kernel_rfl
def cU (e g:Int) (H:Nat):List Value:=[.string ⟨#[32]⟩,.int .i64 e,.int .i64 0,.int .i64 g,.int .i64 H,.int .i64 0,.int .i64 (-1)]
def bJ (ps:List Piece) (i:Nat):Piece:=ps.getD i (0,0)
def nQ (ps:List Piece) (i:Nat):Int:=(bJ ps i).1+(bJ ps i).2
def jB (ps:List Piece) (i:Nat):Int:=(bJ ps i).1-nQ ps (i-1)
def bK (see : Piece → List Value) (gs : Int) (H : Nat) (ps : List Piece) : Nat → List (List Value)
 |0=>[]
 |i+1=>bK see gs H ps i++(if 0<i∧gs≤jB ps i then [cU (nQ ps (i-1)) (jB ps i) H] else [])++[see (bJ ps i)]
theorem DH (see : Piece → List Value) (gs : Int) (H : Nat) (ps : List Piece) : ∀ i, (bK see gs H ps i).length ≤ 2 * i
 |0=>Nat.le_refl _
 |i+1=>by
  have ih:=DH see gs H ps i;show (bK see gs H ps i++(if 0<i∧gs≤jB ps i then [cU (nQ ps (i-1)) (jB ps i) H] else [])++[see (bJ ps i)]).length≤_;rw[aH5,aH5];split<;>simp<;>omega
theorem SY {w:World} {A:Option Addr} {H:Nat} {ps:List Piece} {i:Nat} {p:Piece} (h:Reads w 4 A ps.length (aZ H ps)) (hi:ps[i]? = some p):∃ad,A=some ad∧w.cell? (ad.add (i*4))=some (.int .i64 p.1)∧w.cell? ⟨(ad.add (i*4)).block,(ad.add (i*4)).off+1,none⟩=some (.int .i64 0) ∧
 w.cell? ⟨(ad.add (i*4)).block,(ad.add (i*4)).off+2,none⟩=some (.int .i64 p.2)∧w.cell? ⟨(ad.add (i*4)).block,(ad.add (i*4)).off+3,none⟩=some (.int .i64 H):=by
 have hlt:i<ps.length:=(aH3.1 hi).1;obtain ⟨ad,e,hc⟩:=h.2 (by omega);have key:∀j v,j<4→([.int .i64 p.1,.int .i64 0,.int .i64 p.2,.int .i64 H]:List Value)[j]? = some v→w.cell? ((ad.add (i*4)).add j)=some v:=fun j v hj hv=>by
  rw[dZ];exact hc _ _ (by rw[iZ hi j hj];exact hv)
 have k0:=key 0 _ (by omega) rfl;have k1:=key 1 _ (by omega) rfl;have k2:=key 2 _ (by omega) rfl;have k3:=key 3 _ (by omega) rfl;rw[Addr.add_zero'] at k0;rw[Addr.add_succ'] at k1 k2 k3;exact ⟨ad,e,k0,k1,k2,k3⟩
theorem rT (b:Best) (X W H:Nat) (most ht:Int):∃(t:List UInt8) (d1 d2:Int),cF b X W H most ht=[.string ⟨t.toArray⟩,.int .i64 X,.int .i64 0,.int .i64 W,.int .i64 H,.int .i64 d1,.int .i64 d2]:=by
 unfold cF;split
 ·exact ⟨[63],-1,-1,rfl⟩
 ·exact ⟨b.1,b.2.1,b.2.2,rfl⟩
theorem F5 {w:World} {base:Nat} {e:TypeId} {size n:Nat} {v:Value} {xs:List Value} (h:w.ownsRow base e size v n xs) {q:Nat} (hq:w.heap.size≤q):some q≠v.ownBlock:=fun e=>by
 have:=(h.lt q e.symm).2;omega
def gN (bs:List Bool) (W H:Nat) (ls:List Ltr) (most ht:Int) (p:Piece):List Value:=cF (cS (fS p.2 H (iU bs W p.1 0)) p.2 H [] ls) p.1 p.2 H most ht
def qI (fe pe bH ht most:Int):Int:=aB [fe,pe,aE (bH != ht) 11,aE (!inB most 0 1000) 3]
def ReadRes (w:World) (fe:Int) (gap sp ht:Int) (ls:List Ltr) (W H:Int) (an:Nat) (bs:List Bool) (most:Int) (R:Option Addr) (m:Nat) (err:Int):Prop:=
 err=qI fe (aF W H an) H ht most∧(err≠0→R=none∧m=0) ∧
 (err = 0 → m = (bK (gN bs W.toNat H.toNat ls most ht) ((gap + sp + 1) / 2) H.toNat (aD (kH bs W.toNat H.toNat) W.toNat) (aD (kH bs W.toNat H.toNat) W.toNat).length).length ∧
   Reads w 7 R m (bK (gN bs W.toNat H.toNat ls most ht) ((gap+sp+1) / 2) H.toNat (aD (kH bs W.toNat H.toNat) W.toNat) (aD (kH bs W.toNat H.toNat) W.toNat).length).flatten)
theorem O1 {fe pe bH ht most:Int} (h:fe≠0):qI fe pe bH ht most=fe:=by
 show (if fe=0 then _ else fe)=fe;rw[if_neg h]
theorem O2 {pe bH ht most:Int} (h:pe≠0):qI 0 pe bH ht most=pe:=by
 show (if pe=0 then _ else pe)=pe;rw[if_neg h]
theorem SZ {bH ht most:Int} (h:(bH != ht)=true):qI 0 0 bH ht most=11:=by
 unfold qI;rw[h];rfl
theorem rU {bH ht most:Int} (h:(bH != ht)=false):qI 0 0 bH ht most=aE (!inB most 0 1000) 3:=by
 unfold qI;rw[h];cases inB most 0 1000<;>rfl
def ReadOwn (B:Nat) (w:World) (fe:Int) (gap sp ht:Int) (ls:List Ltr) (W H:Int) (an:Nat) (bs:List Bool) (most:Int) (R:Option Addr) (m d:Nat) (err:Int):Prop:=
 ReadRes w fe gap sp ht ls W H an bs most R m err∧(err=0→w.ownsRow B 157 7 (.slice R m d) m (bK (gN bs W.toNat H.toNat ls most ht) ((gap+sp+1) / 2) H.toNat (aD (kH bs W.toNat H.toNat) W.toNat) (aD (kH bs W.toNat H.toNat) W.toNat).length).flatten)
theorem S0 (nm:List UInt8) (ht gap sp:Int) (L:Option Addr) (c:Nat) (ls:List Ltr) (W H:Int) (A:Option Addr) (an ac:Nat) (bs:List Bool) (most:Int) (w:World) (hL:LtrsAt w L ls) (hA:Reads w 1 A an (bs.map .bool)) (hnm:nm.length≤9223372036854775807) (hn:ls.length≤9223372036854775807) :
 Calls Tryz.prog 139 #[.agg #[nm,ht,gap,sp,.slice L ls.length c],.agg #[W,H,.slice A an ac],most] w fun e w'=>∃R m d err,e=.returned (.tuple #[.slice R m d,.int .i64 err])∧ReadOwn w.heap.size w' (bN (cG nm) ht gap sp ls) gap sp ht ls W H an bs most R m d err∧Bl w w':=by
 let w2:=((w).alloc (.cells #[nm,ht,gap,sp,.slice L ls.length c] 46)).alloc (.cells #[W,H,.slice A an ac] 43);obtain ⟨w2b,w21,w22⟩:=aHP (x:=w2) w _ _ _ _ rfl;have HL:=aHH (hL.bl w2b);have HA:=aHH (hA.bl w2b);obtain ⟨fe,hfe⟩:=aH0 (bN (cG nm) ht gap sp ls);have hck:=xM nm ht gap sp L c ls w2 (hL.bl w2b) hnm hn;rw[←hfe] at hck ⊢;have Hck:=aHH hck;have HFe:=aHH hfe;have k1:=w21.all5;clear hL hA hck hfe
 go_in
 go_wp2_with fail;refine Hck.out.mono ?_;rintro e w3 ⟨rfl,hb3⟩;clear_value w2;clear k1 Hck;by_cases hz:fe=0;case neg=>
  have hq:(fe==0)=false:=(by simp[hz]);have HZ:=aHH hz;clear hz;go_wp2_with fail;try simp only[Exit.inBlock,Exit.then]
  refine aIx (v:=.tuple #[.slice none 0 0,fe]) (by simp[results,Tryz.results139,go_sem]) rfl ⟨none,0,0,fe,rfl,⟨⟨(O1 HZ.out).symm,fun _=>⟨rfl,rfl⟩,fun h=>absurd h HZ.out⟩,fun h=>absurd h HZ.out⟩,w2b.trans hb3⟩
 case pos=>
  subst hz;have k2:=(w22.bl hb3).all3;have Hpc:=aHH (xK W H A an ac bs w3 (HA.out.bl hb3));go_wp2_with fail;refine Hpc.out.mono ?_;rintro e w4 ⟨R0,m0,d0,rfl,hp1,hp2,hb4⟩;have mJ:=hb3.trans hb4;obtain ⟨pe,hpe⟩:=aH0 (aF W H an);rw[←hpe] at hp1 hp2 ⊢;obtain ⟨HPe,HP1,HP2⟩:=aHI hpe hp1 hp2;clear hpe hp1 hp2 k2 Hpc;by_cases hz:pe=0;case neg=>
   have hq:(pe==0)=false:=(by simp[hz]);have HZ:=aHH hz;clear hz;go_wp2_with fail;try simp only[Exit.inBlock,Exit.then]
   refine aIx (v:=.tuple #[.slice none 0 0,pe]) (by simp[results,Tryz.results139,go_sem]) rfl ⟨none,0,0,pe,rfl,⟨⟨(by rw[←HPe.out,O2 HZ.out]),fun _=>⟨rfl,rfl⟩,fun h=>absurd h HZ.out⟩,fun h=>absurd h HZ.out⟩,w2b.trans mJ⟩
  case pos=>
   subst hz;have k1:=(w21.bl mJ).all5;have k2:=(w22.bl mJ).all3;by_cases c1:H=ht;case neg=>
    have q1:(H != ht)=true:=(by simp[c1]);have Q1:=aHH q1;clear c1;go_wp2_with fail;try simp only[Exit.inBlock,Exit.then]
    refine aIx (v:=.tuple #[.slice none 0 0,.int .i64 11]) (by simp[results,Tryz.results139,go_sem]) rfl ⟨none,0,0,11,rfl,⟨⟨(by rw[←HPe.out,SZ Q1.out]),fun _=>⟨rfl,rfl⟩,fun h=>absurd h (by decide)⟩,fun h=>absurd h (by decide)⟩,w2b.trans mJ⟩
   case pos=>
    have q1:(H != ht)=false:=(by simp[c1]);have Q1:=aHH q1;have HC1:=aHH c1;clear c1;by_cases c2:most<0
    ·have HM:=aHH (show aE (!inB most 0 1000) 3=3 by
      have:inB most 0 1000=false:=(by cases h:inB most 0 1000 with|false=>rfl|true=>have:=aQ.1 h;omega);rw[this];rfl)
     go_wp2_with fail;try simp only[Exit.inBlock,Exit.then]
     refine aIx (v:=.tuple #[.slice none 0 0,.int .i64 3]) (by simp[results,Tryz.results139,go_sem]) rfl ⟨none,0,0,3,rfl,⟨⟨(by rw[←HPe.out,rU Q1.out,HM.out]),fun _=>⟨rfl,rfl⟩,fun h=>absurd h (by decide)⟩,fun h=>absurd h (by decide)⟩,w2b.trans mJ⟩
    ·by_cases c3:1000<most
     ·have HM:=aHH (show aE (!inB most 0 1000) 3=3 by
       have:inB most 0 1000=false:=(by cases h:inB most 0 1000 with|false=>rfl|true=>have:=aQ.1 h;omega);rw[this];rfl)
      go_wp2_with fail;try simp only[Exit.inBlock,Exit.then]
      refine aIx (v:=.tuple #[.slice none 0 0,.int .i64 3]) (by simp[results,Tryz.results139,go_sem]) rfl ⟨none,0,0,3,rfl,⟨⟨(by rw[←HPe.out,rU Q1.out,HM.out]),fun _=>⟨rfl,rfl⟩,fun h=>absurd h (by decide)⟩,fun h=>absurd h (by decide)⟩,w2b.trans mJ⟩
     ·have HM:=aHH (show aE (!inB most 0 1000) 3=0 by
       have:inB most 0 1000=true:=aQ.2 (by omega);rw[this];rfl)
      have hp0:=HPe.out.symm;obtain ⟨W,H,rfl,rfl,rfl,hW,hH,hWH⟩:=dQ hp0;have hsz:=aR (fU hp0).1;obtain ⟨⟨-,hrg,-,aGC,hls,aDN,aDO⟩,VJ⟩:=g9 HFe.out.symm;have hrg2:1≤gap∧gap≤16∧1≤sp∧sp≤64:=by
       unfold eT at hrg;simp only[aIs] at hrg;have h1:=aQ.1 hrg.2.1;have h2:=aQ.1 hrg.2.2;exact ⟨h1.1,h1.2,h2.1,h2.2⟩
      have hht:=HC1.out;subst hht;have hR:=HP2.out rfl;simp only[aIF] at hR;obtain ⟨ps,hps⟩:=aH0 (aD (kH bs W H) W);rw[←hps] at hR;obtain ⟨rfl,hR⟩:=hR;have hin:∀p∈ps,1≤p.2∧p.1+p.2≤W:=(by rw[hps];exact kS _ W);have hpl:ps.length≤W:=(by rw[hps];exact kI _ W);obtain ⟨gs,hgs⟩:=aH0 ((gap+sp+1) / 2);have e0:(gap+sp+1).tdiv 2=gs:=(by rw[hgs];exact Int.tdiv_eq_ediv_of_nonneg (by omega));have e1:(gap+sp+1) / 2=gs:=hgs.symm;obtain ⟨see,RA⟩:=aH0 (gN bs W H ls most (H:Int));have h0:w4.ownsRow w4.heap.size 157 7 (.slice none 0 0) (bK see gs H ps 0).length (bK see gs H ps 0).flatten:=World.ownsRow_nil _ _ _ _;obtain ⟨HR,HIn,HPs,HGs,aAE,HLt⟩:=aHL hR hin hps hgs RA VJ;have hszs:1≤W∧1≤H:=(by omega);clear hp0 hsz hrg VJ hR hin hps hgs RA HP1 HP2 aGC;go_wp2_with fail;go_loopw [45,11] (fun u v wr=>∃i:Nat,i≤ps.length∧u=.int .i64 i∧Bl w4 wr∧wr.ownsRow w4.heap.size 157 7 v (bK see gs H ps i).length (bK see gs H ps i).flatten) (fun u _ _=>ps.length-(RowKit.intOf u).toNat);case atStart=>exact ⟨0,Nat.zero_le _,rfl,Bl.refl _,h0⟩
      case round=>
       obtain ⟨i,hi,rfl,hbr,aV⟩:=hrel;clear k1 k2;obtain ⟨R1,c1',rfl,-,-⟩:=jP aV;have HOw:=aHH aV;clear aV;by_cases hlt:i<ps.length
       ·have hg:ps[i]? = some ps[i]:=aH2 hlt;obtain ⟨p,hp⟩:=aH0 (ps[i]);rw[←hp] at hg;clear hp;obtain ⟨X,bw⟩:=p;have hpi:1≤bw∧X+bw≤W:=HIn.out _ (List.mem_of_getElem? hg);have hpa:bJ ps i=(X,bw):=(by unfold bJ;rw[aH4,hg];rfl);have hll:=DH see gs H ps i;have hst:bK see gs H ps (i+1)=bK see gs H ps i++(if 0<i∧gs≤jB ps i then [cU (nQ ps (i-1)) (jB ps i) H] else [])++[see (bJ ps i)]:=rfl;obtain ⟨sp2,YI⟩:∃x,x=(if 0<i∧gs≤jB ps i then [cU (nQ ps (i-1)) (jB ps i) H] else []):=⟨_,rfl⟩;rw[←YI,hpa] at hst;have hsl:sp2.length≤1:=(by rw[YI];split<;>simp);obtain ⟨adb,rfl,j0,j1,j2,j3⟩:=SY (HR.out.bl hbr) hg;obtain ⟨n0,hn0⟩:=aH0 ((bK see gs H ps i).length);have aGD:n0≤2*i:=(by omega);have HOw:=aHH (show wr.ownsRow w4.heap.size 157 7 (.slice R1 n0 c1') n0 (bK see gs H ps i).flatten by rw[hn0];exact HOw.out);rw[←hn0];obtain ⟨HG,HSt,HSp,HN0,HPa⟩:=aHK hg hst YI hn0 hpa;clear hg hst YI hn0 hpa hll;have k1:=(w21.bl (mJ.trans hbr)).all5;have k2:=(w22.bl (mJ.trans hbr)).all3;go_upto_region 15 with fail;obtain ⟨w5,hw5⟩:=aH0 (wr.alloc (.cells #[X,.int .i64 0,bw,H] 58));obtain ⟨q,hq⟩:=aH0 wr.heap.size;have bq:=aHW hw5 hq;have VK:=aHU hw5;have hap:some q≠(Value.slice R1 n0 c1').ownBlock:=F5 HOw.out (by omega);rw[←hw5,←hq];have V4:=aHH (cX HOw.out VK);have HAp:=aHH hap;have hb5:=hbr.trans VK;clear hw5 hq j0 j1 j2 j3 k1 k2 hap HOw;have k1:=(w21.bl (mJ.trans hb5)).all5;have k2:=(w22.bl (mJ.trans hb5)).all3;have k9:=bq.all4;go_upto_if 51 with fail;go_cut [11,14,15] from 50 to 86 (fun s11 _ _ wc=>wc.ownsRow w4.heap.size 157 7 s11 (n0+sp2.length) ((bK see gs H ps i).flatten++sp2.flatten)∧Blk wc q 58 #[X,.int .i64 0,bw,H]∧Bl w4 wc);case first=>
         by_cases hi0:0<i
         ·obtain ⟨k,hik⟩:∃k,i=k+1:=⟨i-1,by omega⟩;have hgk:ps[k]? = some ps[k]:=aH2 (by omega);obtain ⟨p,hp⟩:=aH0 (ps[k]'(by omega));rw[←hp] at hgk;clear hp;obtain ⟨X',bw'⟩:=p;have hpk:1≤bw'∧X'+bw'≤W:=HIn.out _ (List.mem_of_getElem? hgk);obtain ⟨ad',e',j0,j1,j2,j3⟩:=SY (HR.out.bl hb5) hgk;injection e' with e';subst e';have RO:nQ ps (i-1)=(X':Int)+(bw':Int):=by
           unfold nQ bJ;rw[show i-1=k by omega,aH4,hgk];rfl
          have aBV:jB ps i=(X:Int)-((X':Int)+(bw':Int)):=by
           unfold jB;rw[RO,HPa.out]
          have hsp:=HSp.out;rw[RO,aBV] at hsp;have aCN:(i:Int)-1=(k:Int):=(by omega);have hklt:(k:Int)<(ps.length:Int):=(by omega);have aBW:=aHH hsp;clear hsp RO aBV hgk hik;go_upto_region 16 with fail;refine aHZ [aHX 0,aHX 1,aHX 2,aHX 3,aHX 4,aHX 5,aHX 6,aHX 7,aHX 8,aHX 9,aHX 10,aHX 11,aHX 12,aHX 13] (by kernel_rfl) ?_
          iterate 2
           apply Flow.mv _ rfl
           ·intro a b;simp only[sqA,Act.eval,sqC];exact b
          iterate 4
           apply Flow.calm2 _ _ rfl rfl
           ·intro a b c d;obtain ⟨e,f⟩:=b.rule;go_simp;(try go_ints);exact d
           ·intro a b;simp only[sqA];exact b
          iterate 2
           apply Flow.mv _ rfl
           ·intro a b;simp only[sqA,Act.eval,sqC];exact b
          iterate 5
           apply Flow.calm2 _ _ rfl rfl
           ·intro a b c d;obtain ⟨e,f⟩:=b.rule;go_simp;(try go_ints);exact d
           ·intro a b;simp only[sqA];exact b
          apply Flow.asg _ rfl
          ·intro a b;simp only[sqA,Act.eval,sqC];exact b
          refine Flow.done ?_;by_cases hq:gs≤(X:Int)-((X':Int)+(bw':Int))
          ·have HE:=aHH (show sp2=[cU ((X':Int)+(bw':Int)) ((X:Int)-((X':Int)+(bw':Int))) H] by rw[aBW.out];exact if_pos ⟨hi0,hq⟩);go_wp2_with (at_builtin;refine aG (w1:=w4) rfl (.tmp 78) (.tmp 85) 154 rfl 157 (.agg #[.string ⟨#[]⟩,.int .i64 0,.int .i64 0,.int .i64 0,.int .i64 0,.int .i64 0,.int .i64 0]) 7 64 Tryz.underlying154 rS rfl (by omega) w4.heap.size _ n0 (bK see gs H ps i).flatten rfl (hb5.drew.alloc _) (Nat.le_refl _) ?hBr ((cX V4.out (Bl.refl _).drew).alloc _) (some ⟨w5.heap.size,0,none⟩) 1 1 (cU ((X':Int)+(bw':Int)) ((X:Int)-((X':Int)+(bw':Int))) H) rfl ((Blk.new _ _ _).reads 1 7 rfl) ?h1 ?c1 ?c2 ?_);case hBr=>have:=hb5.le;first|omega|(simp;omega)
           case h1=>simp[cU,Value.oneCell']
           case c1=>unfold maxLen;omega
           case c2=>omega
           intro v' w8 bF hb8 hg8;have bq8:=(bq.drew.alloc _).grown hg8 HAp.out;obtain ⟨HO8,Bq8,Hb8⟩:=aHI bF bq8 hb8;clear bF bq8 hb8 hg8;go_wp2_with fail;go_meet;case rel=>exact ⟨by rw[HE.out];simpa using HO8.out,Bq8.out,Hb8.out⟩
          ·have HE:=aHH (show sp2=[] by rw[aBW.out];exact if_neg (fun h=>hq h.2));go_wp2_with fail;go_meet;case rel=>exact ⟨by rw[HE.out];simpa using cX V4.out (Bl.refl _).drew,bq.drew,hb5.drew⟩
         ·have HE:=aHH (show sp2=[] by rw[HSp.out];exact if_neg (fun h=>hi0 h.1));go_wp2_with fail;go_meet;case rel=>exact ⟨by rw[HE.out];simpa using V4.out,bq,hb5⟩
        case rest=>
         obtain ⟨aV,bq6,hb6⟩:=hcut;rename World=>w6;clear k1 k2 k9;have k1:=(w21.bl (mJ.trans hb6)).all5;have k2:=(w22.bl (mJ.trans hb6)).all3;have k9:=bq6.all4;obtain ⟨R3,c3,rfl,-,-⟩:=jP aV;have HO6:=aHH aV;clear aV;have hsc:=aAa nm (H:Int) gap sp L c ls W H X bw A ac bs most w6 (HL.out.bl (mJ.trans hb6)) (HA.out.bl (mJ.trans hb6)) hW (by omega) hWH hpi.2 hpi.1 (fun l hl=>⟨(HLt.out l hl).2.1,(HLt.out l hl).2.2.2⟩) hls (by omega) (by omega);obtain ⟨t,d1,d2,hsf⟩:=rT (cS (fS bw H (iU bs W X 0)) bw H [] ls) X bw H most (H:Int);rw[hsf] at hsc;have RA:see (X,bw)=[.string ⟨t.toArray⟩,.int .i64 X,.int .i64 0,.int .i64 bw,.int .i64 H,.int .i64 d1,.int .i64 d2]:=(by rw[aAE.out];exact hsf);have Hsc:=aHH hsc;have HSe:=aHH RA;clear hsc hsf RA;go_wp2_with fail;refine Hsc.out.mono ?_;rintro e w7 ⟨rfl,RN⟩;have hb7:=hb6.trans RN;have HO7:=aHH (cX HO6.out RN);clear k1 k2 k9 Hsc;go_wp2_with (at_builtin;refine aG (w1:=w4) rfl (.tmp 87) (.tmp 93) 154 rfl 157 (.agg #[.string ⟨#[]⟩,.int .i64 0,.int .i64 0,.int .i64 0,.int .i64 0,.int .i64 0,.int .i64 0]) 7 64 Tryz.underlying154 rS rfl (by omega) w4.heap.size _ (n0+sp2.length) ((bK see gs H ps i).flatten++sp2.flatten) rfl (hb7.alloc _) ?hB ?hBr (HO7.out.alloc _) (some ⟨w7.heap.size,0,none⟩) 1 1 [.string ⟨t.toArray⟩,.int .i64 X,.int .i64 0,.int .i64 bw,.int .i64 H,.int .i64 d1,.int .i64 d2] rfl ((Blk.new _ _ _).reads 1 7 rfl) ?h1 ?c1 ?c2 ?_);case hB=>exact Nat.le_refl _
         case hBr=>have:=hb7.le;first|omega|(simp;omega)
         case h1=>simp[Value.oneCell']
         case c1=>unfold maxLen;omega
         case c2=>omega
         intro v' w8 bF hb8 hg8;have LS:w8.ownsRow w4.heap.size 157 7 v' (bK see gs H ps (i+1)).length (bK see gs H ps (i+1)).flatten:=by
          rw[HSt.out,HSe.out,aH5,aH5,List.flatten_append,List.flatten_append,←HN0.out];simpa using bF
         have Q9:=aHH LS;have Hb8:=aHH hb8;clear bF LS hb8 hg8;go_wp2_with fail;exact ⟨⟨i+1,hlt,by go_num,Hb8.out,Q9.out⟩,by simp[RowKit.intOf]<;>omega⟩
       ·obtain rfl:i=ps.length:=(by omega);have aV:=HOw.out;obtain ⟨R2,c2',e2,hR2⟩:=bL aV;injection e2 with q1 _ q3;subst q1;subst q3;have HR2:=aHH hR2;clear aV hR2;go_wp2_with fail;refine aIx (v:=.tuple #[.slice R1 (bK see gs H ps ps.length).length c1',.int .i64 0]) (by simp[results,Tryz.results139,go_sem]) rfl ⟨R1,(bK see gs H ps ps.length).length,c1',0,rfl,⟨⟨?_,fun h=>absurd rfl h,fun _ => ?_⟩,fun _ => ?_⟩,w2b.trans (mJ.trans hbr)⟩
        ·rw[←HPe.out,rU Q1.out,HM.out]
        ·simp only[aIF];rw[←HPs.out,←HGs.out,←aAE.out];exact ⟨rfl,HR2.out⟩
        ·simp only[aIF];rw[←HPs.out,←HGs.out,←aAE.out];exact World.ownsRow.mono HOw.out (w2b.trans mJ).le
theorem S1 {see:Piece→List Value} {gs:Int} {H:Nat} {ps:List Piece} {i:Nat}:∃pre,bK see gs H ps (i+1)=pre++[see (bJ ps i)]:=⟨_,rfl⟩
theorem S2 {pre:List (List Value)} {x:List Value} {N j:Nat} {u:Value} (hl:(pre++[x]).flatten.length=(N+1)*7) (hx:x.length=7) (hu:x[j]? = some u):(pre++[x]).flatten[N*7+j]? = some u:=by
 have e:(pre++[x]).flatten=pre.flatten++x:=(by simp);rw[e] at hl ⊢;rw[aH5] at hl;have hp:pre.flatten.length=N*7:=(by omega);rw[aIa (by omega),hp,show N*7+j-N*7=j by omega];exact hu
theorem O3 (nm : List UInt8) (ht gap sp : Int) (L : Option Addr) (c : Nat) (ls : List Ltr) (W H : Nat) (A : Option Addr) (ac : Nat) (bs : List Bool) (most : Int) (w : World) (hL : LtrsAt w L ls) (hA : Reads w 1 A (W * H) (bs.map .bool))
 (hW:W≤4000) (hH:1≤H∧H≤4000) (hgs:1≤gap∧gap≤16∧1≤sp∧sp≤64) (hls:∀l∈ls,aF l.W l.H l.m=0∧l.W≤64) (hn:ls.length≤200) (hm:0≤most∧most≤1000) (hht:1≤ht∧ht≤64) :
 Calls Tryz.prog 94 #[.agg #[nm, ht, gap, sp, .slice L ls.length c], .agg #[W, H, .slice A (W * H) ac], most] w fun e w' => ∃ v, e = .returned v ∧
  w'.ownsRow w.heap.size 157 7 v (bK (gN bs W H ls most ht) ((gap+sp+1) / 2) H (aD (kH bs W H) W) (aD (kH bs W H) W).length).length (bK (gN bs W H ls most ht) ((gap+sp+1) / 2) H (aD (kH bs W H) W) (aD (kH bs W H) W).length).flatten∧Bl w w':=by
 let w2:=((w).alloc (.cells #[nm,ht,gap,sp,.slice L ls.length c] 46)).alloc (.cells #[W,H,.slice A (W*H) ac] 43);obtain ⟨w2b,w21,w22⟩:=aHP (x:=w2) w _ _ _ _ rfl;obtain ⟨HL,HA,Hpc⟩:=aHI (hL.bl w2b) (hA.bl w2b) (F1 W H A ac bs w2 (hA.bl w2b) hW hH.2);have lw2:w2.heap.size=w.heap.size+2:=(by simp[w2]);have k2:=w22.all3;have HLs:=aHH hls;clear hL hA hls
 go_in
 go_wp2_with fail;refine Hpc.out.mono ?_;rintro e w4 ⟨v0,rfl,hR,mJ⟩;clear_value w2;obtain ⟨R0,d0,rfl,hR,-⟩:=jP hR;obtain ⟨ps,hps⟩:=aH0 (aD (kH bs W H) W);rw[←hps] at hR ⊢;have hin:∀p∈ps,1≤p.2∧p.1+p.2≤W:=(by rw[hps];exact kS _ W);have hpl:ps.length≤W:=(by rw[hps];exact kI _ W);obtain ⟨gs,aCR⟩:=aH0 ((gap+sp+1) / 2);have e0:(gap+sp+1).tdiv 2=gs:=(by rw[aCR];exact Int.tdiv_eq_ediv_of_nonneg (by omega));have e1:(gap+sp+1) / 2=gs:=aCR.symm;obtain ⟨see,RA⟩:=aH0 (gN bs W H ls most ht);have h0:w4.ownsRow w4.heap.size 157 7 (.slice none 0 0) (bK see gs H ps 0).length (bK see gs H ps 0).flatten:=World.ownsRow_nil _ _ _ _;obtain ⟨HR,HIn,HPs,HGs,aAE⟩:=aHK hR hin hps aCR RA;clear hR hin hps aCR RA k2 Hpc;go_wp2_with fail;go_loopw [21,7] (fun u v wr=>∃i:Nat,i≤ps.length∧u=.int .i64 i∧Bl w4 wr∧wr.ownsRow w4.heap.size 157 7 v (bK see gs H ps i).length (bK see gs H ps i).flatten) (fun u _ _=>ps.length-(RowKit.intOf u).toNat);case atStart=>exact ⟨0,Nat.zero_le _,rfl,Bl.refl _,h0⟩
 case round=>
  obtain ⟨i,hi,rfl,hbr,aV⟩:=hrel;obtain ⟨R1,c1',rfl,-,-⟩:=jP aV;have HOw:=aHH aV;clear aV;by_cases hlt:i<ps.length
  ·have hg:ps[i]? = some ps[i]:=aH2 hlt;obtain ⟨p,hp⟩:=aH0 (ps[i]);rw[←hp] at hg;clear hp;obtain ⟨X,bw⟩:=p;have hpi:1≤bw∧X+bw≤W:=HIn.out _ (List.mem_of_getElem? hg);have hpa:bJ ps i=(X,bw):=(by unfold bJ;rw[aH4,hg];rfl);have hll:=DH see gs H ps i;have hst:bK see gs H ps (i+1)=bK see gs H ps i++(if 0<i∧gs≤jB ps i then [cU (nQ ps (i-1)) (jB ps i) H] else [])++[see (bJ ps i)]:=rfl;obtain ⟨sp2,YI⟩:∃x,x=(if 0<i∧gs≤jB ps i then [cU (nQ ps (i-1)) (jB ps i) H] else []):=⟨_,rfl⟩;rw[←YI,hpa] at hst;have hsl:sp2.length≤1:=(by rw[YI];split<;>simp);obtain ⟨adb,rfl,j0,j1,j2,j3⟩:=SY (HR.out.bl hbr) hg;obtain ⟨n0,hn0⟩:=aH0 ((bK see gs H ps i).length);have aGD:n0≤2*i:=(by omega);have HOw:=aHH (show wr.ownsRow w4.heap.size 157 7 (.slice R1 n0 c1') n0 (bK see gs H ps i).flatten by rw[hn0];exact HOw.out);rw[←hn0];obtain ⟨HG,HSt,HSp,HN0,HPa⟩:=aHK hg hst YI hn0 hpa;clear hg hst YI hn0 hpa hll;go_upto_region 5 with fail;obtain ⟨w5,hw5⟩:=aH0 (wr.alloc (.cells #[X,.int .i64 0,bw,H] 58));obtain ⟨q,hq⟩:=aH0 wr.heap.size;have bq:=aHW hw5 hq;have VK:=aHU hw5;have hap:some q≠(Value.slice R1 n0 c1').ownBlock:=F5 HOw.out (by omega);rw[←hw5,←hq];have V4:=aHH (cX HOw.out VK);have HAp:=aHH hap;have hb5:=hbr.trans VK;clear hw5 hq j0 j1 j2 j3 hap HOw;have k1:=(w21.bl (mJ.trans hb5)).all5;have k2:=(w22.bl (mJ.trans hb5)).all3;have k9:=bq.all4;go_upto_if 27 with fail;go_cut [7,10,11] from 26 to 64 (fun s7 _ _ wc=>wc.ownsRow w4.heap.size 157 7 s7 (n0+sp2.length) ((bK see gs H ps i).flatten++sp2.flatten)∧Blk wc q 58 #[X,.int .i64 0,bw,H]∧Bl w4 wc);case first=>
    by_cases hi0:0<i
    ·obtain ⟨k,hik⟩:∃k,i=k+1:=⟨i-1,by omega⟩;have hgk:ps[k]? = some ps[k]:=aH2 (by omega);obtain ⟨p,hp⟩:=aH0 (ps[k]'(by omega));rw[←hp] at hgk;clear hp;obtain ⟨X',bw'⟩:=p;have hpk:1≤bw'∧X'+bw'≤W:=HIn.out _ (List.mem_of_getElem? hgk);have aDP:bJ ps k=(X',bw'):=(by unfold bJ;rw[aH4,hgk];rfl);have RO:nQ ps (i-1)=(X':Int)+(bw':Int):=by
      unfold nQ;rw[show i-1=k by omega,aDP]
     have aBV:jB ps i=(X:Int)-(X':Int)-(bw':Int):=by
      unfold jB;rw[RO,HPa.out];show (X:Int)-((X':Int)+(bw':Int))=_;omega
     obtain ⟨pre,aBf⟩:=S1 (see:=see) (gs:=gs) (H:=H) (ps:=ps) (i:=k);rw[←hik,aDP] at aBf;obtain ⟨t',a',b',hsf⟩:=rT (cS (fS bw' H (iU bs W X' 0)) bw' H [] ls) X' bw' H most ht;have hsk:see (X',bw')=[.string ⟨t'.toArray⟩,.int .i64 X',.int .i64 0,.int .i64 bw',.int .i64 H,.int .i64 a',.int .i64 b']:=(by rw[aAE.out];exact hsf);rw[hsk] at aBf;obtain ⟨N,hN⟩:∃N,n0=N+1:=⟨pre.length,by rw[HN0.out,aBf,aH5];rfl⟩;obtain ⟨g,cap,e,hgB,-⟩:=gF V4.out (by omega);injection e with z1 _ z3;subst z1;subst z3;have cT:(bK see gs H ps i).flatten.length=(N+1)*7:=(by rw[←hN];exact V4.out.1);rw[aBf] at cT;have nC:∀j u,([.string ⟨t'.toArray⟩,.int .i64 X',.int .i64 0,.int .i64 bw',.int .i64 H,.int .i64 a',.int .i64 b']:List Value)[j]? = some u→w5.cell? ⟨g,N*7+j,none⟩=some u:=fun j u hu=>gT V4.out (by rw[aBf];exact S2 cT rfl hu);have m1:=nC 1 _ rfl;have m2:=nC 2 _ rfl;have m3:=nC 3 _ rfl;have m4:=nC 4 _ rfl;have hlen1:(n0:Int)-1=(N:Int):=(by omega);have hNN:(N:Int)<(n0:Int):=(by omega);have hsp:=HSp.out;rw[RO,aBV] at hsp;have aBW:=aHH hsp;have HNl:=aHH hN;clear hsp RO aBV hgk hik aBf hsf hsk hN cT nC aDP;go_upto_region 7 with fail;obtain ⟨w6,hw6⟩:=aH0 (w5.alloc (.cells #[X',.int .i64 0,bw',H] 58));obtain ⟨q2,hq2⟩:=aH0 w5.heap.size;have bq2:=aHW hw6 hq2;have ZK:=aHU hw6;rw[←hw6,←hq2];clear hw6 hq2 m1 m2 m3 m4 k9 k1 k2;have hb6:=hb5.trans ZK;have k1:=(w21.bl (mJ.trans hb6)).all5;have k2:=(w22.bl (mJ.trans hb6)).all3;have k8:=bq2.all4;have bq6:=bq.bl ZK;have k9:=bq6.all4;by_cases hq:gs≤(X:Int)-(X':Int)-(bw':Int)
     ·have HE:=aHH (show sp2=[cU ((X':Int)+(bw':Int)) ((X:Int)-(X':Int)-(bw':Int)) H] by rw[aBW.out];exact if_pos ⟨hi0,hq⟩);go_wp2_with (at_builtin;refine aG (w1:=w4) rfl (.tmp 52) (.tmp 63) 154 rfl 157 (.agg #[.string ⟨#[]⟩,.int .i64 0,.int .i64 0,.int .i64 0,.int .i64 0,.int .i64 0,.int .i64 0]) 7 64 Tryz.underlying154 rS rfl (by omega) w4.heap.size _ n0 (bK see gs H ps i).flatten rfl (hb6.alloc _) (Nat.le_refl _) ?hBr ((cX V4.out ZK).alloc _) (some ⟨w6.heap.size,0,none⟩) 1 1 (cU ((X':Int)+(bw':Int)) ((X:Int)-(X':Int)-(bw':Int)) H) rfl ((Blk.new _ _ _).reads 1 7 rfl) ?h1 ?c1 ?c2 ?_);case hBr=>have:=hb6.le;first|omega|(simp;omega)
      case h1=>simp[cU,Value.oneCell']
      case c1=>unfold maxLen;omega
      case c2=>omega
      intro v' w8 bF hb8 hg8;have bq8:=(bq6.alloc _).grown hg8 HAp.out;obtain ⟨HO8,Bq8,Hb8⟩:=aHI bF bq8 hb8;clear bF bq8 hb8 hg8;go_wp2_with fail;go_meet;case rel=>exact ⟨by rw[HE.out];simpa using HO8.out,Bq8.out,Hb8.out⟩
     ·have HE:=aHH (show sp2=[] by rw[aBW.out];exact if_neg (fun h=>hq h.2));go_wp2_with fail;go_meet;case rel=>exact ⟨by rw[HE.out];simpa using cX V4.out ZK,bq6,hb6⟩
    ·have HE:=aHH (show sp2=[] by rw[HSp.out];exact if_neg (fun h=>hi0 h.1));go_wp2_with fail;go_meet;case rel=>exact ⟨by rw[HE.out];simpa using V4.out,bq,hb5⟩
   case rest=>
    obtain ⟨aV,bq6,hb6⟩:=hcut;rename World=>w6;clear k1 k2 k9;have k2:=(w22.bl (mJ.trans hb6)).all3;have k9:=bq6.all4;obtain ⟨R3,c3,rfl,-,-⟩:=jP aV;have HO6:=aHH aV;clear aV;have hct:=wT W H X 0 bw H A ac bs w6 (HA.out.bl (mJ.trans hb6)) hW hH.2 hpi.2 (by omega);have Hct:=aHH hct;clear hct;go_wp2_with fail;refine Hct.out.mono ?_;rintro e w7 ⟨cR,cd,rfl,hcR,-,RN⟩;obtain ⟨cs,hcs⟩:=aH0 (fS bw H (iU bs W X 0));rw[←hcs] at hcR;clear k2 k9 Hct;have k9:=(bq6.bl RN).all4;go_upto_region 11 with fail;obtain ⟨w8,hw8⟩:=aH0 (w7.alloc (.cells #[bw,H,.slice cR (bw*H) cd] 43));obtain ⟨z,hz⟩:=aH0 w7.heap.size;have bZ:=aHW hw8 hz;have aBe:=aHU hw8;rw[←hw8,←hz];clear hw8 hz k9;have CH:=RN.trans aBe;have hb8:=hb6.trans CH;obtain ⟨HO8,HcR,HCs⟩:=aHI (cX HO6.out CH) (hcR.bl aBe) hcs;have bq8:=bq6.bl CH;have k9:=bq8.all4;clear hcR hcs HO6;go_upto_region 12 with fail;obtain ⟨w9,hw9⟩:=aH0 (w8.alloc (.cells #[.string ⟨#[63]⟩,X,.int .i64 0,bw,H,.int .i64 (-1),.int .i64 (-1)] 157));obtain ⟨o,ho⟩:=aH0 w8.heap.size;have bO:=aHW hw9 ho;have aDQ:=aHU hw9;have ho8:w8.heap.size≤o:=(by omega);rw[←hw9,←ho];clear hw9 ho k9;have k1:=(w21.bl (mJ.trans (hb8.trans aDQ))).all5;go_wp2_with fail;go_loopw [73,14] (fun u v wx=>∃(j:Nat) (t:List UInt8) (d1 d2:Int),j≤ls.length∧u=.int .i64 j∧v=.int .i64 d1∧Bl w8 wx∧cS cs bw H [63] (ls.take j)=(t,d1,d2)∧Blk wx o 157 #[t,X,.int .i64 0,bw,H,.int .i64 (-1),d2]) (fun u _ _=>ls.length-(RowKit.intOf u).toNat);case atStart=>exact ⟨0,[63],-1,-1,Nat.zero_le _,rfl,rfl,aDQ,rfl,bO⟩
    case round=>
     rename World=>wx;clear k1 bO aDQ;obtain ⟨j,t,d1,d2,hj,rfl,rfl,hbx,qX,hbo⟩:=hrel;have q9:=CZ (cs:=cs) (W:=bw) (H:=H) [63] (by omega) hH.2 (ls:=ls.take j) (fun l hl=>by
      obtain ⟨h1,h2⟩:=HLs.out l (List.mem_of_mem_take hl);obtain ⟨W',H',e1,e2,-,-,h4,-⟩:=dQ h1;exact ⟨h2,by omega⟩)
     rw[qX] at q9;have AC:d1 = -1∧d2 = -1∨(0≤d1∧d1≤32000000∧-1≤d2∧d2≤32000000):=q9;have HBe:=aHH qX;clear qX q9;have k9:=(bq8.bl hbx).all4;have kz:=(bZ.bl hbx).all3;by_cases iH:j<ls.length
     ·have hg:ls[j]? = some ls[j]:=aH2 iH;obtain ⟨l,hl⟩:=aH0 (ls[j]);rw[←hl] at hg;have hbs:=wN (cs:=cs) (W:=bw) (H:=H) (t0:=[63]) hg;rw[HBe.out] at hbs;obtain ⟨hlz,aDH⟩:=HLs.out l (List.mem_of_getElem? hg);obtain ⟨adl,rfl,j1,j2,j3,j4⟩:=(HL.out.bl (mJ.trans (hb8.trans hbx))).at_ hg;have hlA:=(HL.out.2 l (List.mem_of_getElem? hg)).1;obtain ⟨lW,lH,elW,elH,elm,hlW,hlH,-⟩:=dQ hlz;rw[elm] at hlA j4;rw[elW] at j2 aDH;rw[elH] at j3;have VH:cD cs bw H (t,d1,d2) l=if (lW:Int)-(bw:Int) < -2∨2<(lW:Int)-(bw:Int) then (t,d1,d2) else if d1<0∨vO cs bw H l<d1 then (l.text,vO cs bw H l,d1) else if d2<0∨vO cs bw H l<d2 then (t,d1,vO cs bw H l) else (t,d1,d2):=by
       unfold cD;rw[elW]
      rw[VH] at hbs;have N1:vO cs bw H l=RH (gV cs bw H) (gV l.bs lW lH) bw H lW lH 1:=(by unfold vO;rw[elW,elH];rfl);have hfr:=wO (W:=bw) (H:=H) (W':=lW) (H':=lH) (r:=1) (cs:=cs) (bs:=l.bs) (by omega) hH.2 hlW hlH;rw[←N1] at hfr;have hd:=fun wy (hy:Bl w8 wy)=>SC bw H lW lH 1 cR l.A cd l.c cs l.bs wy (HcR.out.bl hy) (hlA.bl (mJ.trans (hb8.trans hy))) (by omega) hH.2 hlW hlH (by omega);rw[←N1] at hd;obtain ⟨d,hdd⟩:=aH0 (vO cs bw H l);rw[←hdd] at hbs hd hfr;have hd':∀wy,Bl w8 wy→Calls Tryz.prog 150 #[.agg #[bw,H,.slice cR (bw*H) cd],.agg #[lW,lH,.slice l.A (lW*lH) l.c],.int .i64 1] wy fun e w'=>e=.returned (.int .i64 d)∧Bl wy w':=hd;have Hd:=aHH hd';have HBs:=aHH hbs;clear hd hd' hbs VH N1 hdd hlz hlA elW elH elm hg hl;go_upto_region 16 with fail;obtain ⟨wa,hwa⟩:=aH0 (wx.alloc (.cells #[.string ⟨l.text.toArray⟩,lW,lH,.slice l.A (lW*lH) l.c] 148));obtain ⟨pl,VM⟩:=aH0 wx.heap.size;have ba:=aHW hwa VM;have aFp:=aHU hwa;have hop:¬(o=pl):=(by have:=hbo.lt;omega);rw[←hwa,←VM];clear hwa VM j1 j2 j3 j4 k9 kz;have hba:=hbx.trans aFp;have k9:=(bq8.bl hba).all4;have kz:=(bZ.bl hba).all3;have kp:=ba.all4;have aFq:=hbo.bl aFp;cases c1:inB (lW:Int) ((bw:Int)-2) ((bw:Int)+2)
      ·have HN:=aHH (HBs.out.trans (if_pos (by have:=dF.1 c1;omega)));go_wp2_with fail;refine (eJ _ _ _ _).mono ?_;rintro e w' ⟨rfl,rfl⟩;rw[c1];go_wp2_with fail;exact ⟨⟨j+1,t,d1,d2,iH,by go_num,rfl,hba,HN.out,aFq⟩,by simp[RowKit.intOf]<;>omega⟩
      ·have HB2:=aHH (HBs.out.trans (if_neg (by have:=aQ.1 c1;omega)));go_wp2_with fail;refine (eJ _ _ _ _).mono ?_;rintro e w' ⟨rfl,rfl⟩;rw[c1];go_wp2_with fail;refine (Hd.out _ hba).mono ?_;rintro e wb ⟨rfl,aDR⟩;have hbb:=hba.trans aDR;have aBg:=aFq.bl aDR;have ko:=aBg.all7;have kp:=(ba.bl aDR).all4;clear k9 kz c1;by_cases c3:d1<0
       ·have HN:=aHH (HB2.out.trans (if_pos (.inl c3)));go_upto_region 20 with fail;refine aA [(true,0),(true,1),(true,2),(true,3),(true,4),(false,5)] (fun i=>i==5) (by kernel_rfl) (by kernel_rfl) (by kernel_rfl) (by kernel_rfl) ?_;apply Flow.mv _ rfl
        ·intro a b;simp only[sqA,Act.eval,sqC];exact b
        iterate 2
         apply Flow.calm2 _ _ rfl rfl
         ·intro a b c d;obtain ⟨e,f⟩:=b.rule;go_simp;(try go_ints);exact d
         ·intro a b;simp only[sqA];exact b
        apply Flow.asg _ rfl
        ·intro a b;simp only[sqA,Act.eval,sqC];exact b
        apply Flow.calm2 _ _ rfl rfl
        ·intro a b c d;obtain ⟨e,f⟩:=b.rule;go_simp;(try go_ints);exact d
        ·intro a b;simp only[sqA];exact b
        refine Flow.tail _ rfl ?_;go_wp2_with fail;exact ⟨⟨j+1,l.text,d,d1,iH,by go_num,rfl,(((hbb.setCell ho8 _).drew).setCell ho8 _),HN.out,(((aBg.set_ 6 _).drew).set_ 0 _)⟩,by simp[RowKit.intOf]<;>omega⟩
       ·by_cases c4:d<d1
        ·have HN:=aHH (HB2.out.trans (if_pos (.inr c4)));go_upto_region 20 with fail;refine aA [(true,0),(true,1),(true,2),(true,3),(true,4),(false,5)] (fun i=>i==5) (by kernel_rfl) (by kernel_rfl) (by kernel_rfl) (by kernel_rfl) ?_;apply Flow.mv _ rfl
         ·intro a b;simp only[sqA,Act.eval,sqC];exact b
         iterate 2
          apply Flow.calm2 _ _ rfl rfl
          ·intro a b c d;obtain ⟨e,f⟩:=b.rule;go_simp;(try go_ints);exact d
          ·intro a b;simp only[sqA];exact b
         apply Flow.asg _ rfl
         ·intro a b;simp only[sqA,Act.eval,sqC];exact b
         apply Flow.calm2 _ _ rfl rfl
         ·intro a b c d;obtain ⟨e,f⟩:=b.rule;go_simp;(try go_ints);exact d
         ·intro a b;simp only[sqA];exact b
         refine Flow.tail _ rfl ?_;go_wp2_with fail;exact ⟨⟨j+1,l.text,d,d1,iH,by go_num,rfl,(((hbb.setCell ho8 _).drew).setCell ho8 _),HN.out,(((aBg.set_ 6 _).drew).set_ 0 _)⟩,by simp[RowKit.intOf]<;>omega⟩
        ·have HB3:=aHH (HB2.out.trans (if_neg (by omega)));by_cases c5:d2<0
         ·have HN:=aHH (HB3.out.trans (if_pos (.inl c5)));go_wp2_with fail;exact ⟨⟨j+1,t,d1,d,iH,by go_num,rfl,hbb.setCell ho8 _,HN.out,aBg.set_ 6 _⟩,by simp[RowKit.intOf]<;>omega⟩
         ·by_cases c6:d<d2
          ·have HN:=aHH (HB3.out.trans (if_pos (.inr c6)));go_wp2_with fail;exact ⟨⟨j+1,t,d1,d,iH,by go_num,rfl,hbb.setCell ho8 _,HN.out,aBg.set_ 6 _⟩,by simp[RowKit.intOf]<;>omega⟩
          ·have HN:=aHH (HB3.out.trans (if_neg (by omega)));go_wp2_with fail;exact ⟨⟨j+1,t,d1,d2,iH,by go_num,rfl,hbb,HN.out,aBg⟩,by simp[RowKit.intOf]<;>omega⟩
     ·obtain rfl:j=ls.length:=(by omega);have qX:=HBe.out;rw[aH9] at qX;have ko:=hbo.all7;have k1:=(w21.bl (mJ.trans (hb8.trans hbx))).all5;have m1:=Int.mul_nonneg hm.1 (show 0≤ht by omega);have m2:most*ht≤64000:=Int.le_trans (Int.mul_le_mul hm.2 hht.2 (by omega) (by omega)) (by decide);have m3:=Int.mul_nonneg m1 (show (0:Int)≤(bw:Int) by omega);have m4:most*ht*(bw:Int)≤256000000:=Int.le_trans (Int.mul_le_mul m2 (show (bw:Int)≤4000 by omega) (by omega) (by omega)) (by decide);have hsv:cF (cS cs bw H [] ls) X bw H most ht=cF (t,d1,d2) X bw H most ht:=by
       rw[←qX];exact SE [] [63] ls (by omega) hH.2 (fun l hl=>by
        obtain ⟨h1,h2⟩:=HLs.out l hl;obtain ⟨W',H',e1,e2,-,-,h4,-⟩:=dQ h1;exact ⟨h2,by omega⟩) X bw H most ht
      obtain ⟨t',a',b',hsf⟩:=rT (cS cs bw H [] ls) X bw H most ht;have RA:see (X,bw)=[.string ⟨t'.toArray⟩,.int .i64 X,.int .i64 0,.int .i64 bw,.int .i64 H,.int .i64 a',.int .i64 b']:=(by rw[aAE.out,←hsf,HCs.out];rfl);rw[hsf] at hsv;have HSv:=aHH hsv;have HSe:=aHH RA;clear qX HBe hsv hsf RA kz;obtain ⟨fo,hfo⟩:=aH0 (rK (t,d1,d2) most ht bw);have HFo:=aHH hfo;clear hfo;go_upto_region 24 with fail;go_cut [132] from 119 to 132 (fun s132 wc=>s132=.bool fo∧wc=wx);case first=>
       by_cases c1:d1<0
       ·have hv:fo=true:=(by rw[HFo.out];exact aIu (.inl c1));have HV:=aHH hv;clear hv;go_wp2_with fail;go_meet;case rel=>exact ⟨by rw[HV.out],rfl⟩
       ·by_cases c2:most*ht*(bw:Int)<d1*1000
        ·have hv:fo=true:=(by rw[HFo.out];exact aIu (.inr c2));have HV:=aHH hv;clear hv;go_wp2_with fail;go_meet;case rel=>exact ⟨by rw[HV.out],rfl⟩
        ·have hv:fo=false:=(by rw[HFo.out];exact aIt (by simp only[not_or];exact ⟨c1,c2⟩));have HV:=aHH hv;clear hv;go_wp2_with fail;go_meet;case rel=>exact ⟨by rw[HV.out],rfl⟩
      case rest=>
       obtain ⟨rfl,rfl⟩:=hcut;go_upto_if 132 with fail;go_cut [] from 133 to 136 (fun wc=>Blk wc o 157 #[t',X,.int .i64 0,bw,H,a',b']∧Bl w8 wc);case first=>
        cases fo
        ·have hv:cF (t,d1,d2) X bw H most ht=[.string ⟨t.toArray⟩,.int .i64 X,.int .i64 0,.int .i64 bw,.int .i64 H,.int .i64 d1,.int .i64 d2]:=by
          unfold cF;rw[←HFo.out];rfl
         rw[HSv.out.symm] at hv;simp only[List.cons.injEq,Value.string.injEq,Value.int.injEq,true_and,and_true] at hv;obtain ⟨hv1,hv2,hv3⟩:=hv;have HV:=aHH (show #[Value.string ⟨t'.toArray⟩,X,.int .i64 0,bw,H,a',b']=#[Value.string ⟨t.toArray⟩,X,.int .i64 0,bw,H,d1,d2] by rw[hv1,hv2,hv3]);clear hv1 hv2 hv3;go_wp2_with fail;go_meet;case rel=>exact ⟨by rw[HV.out];exact hbo.set_ 5 _,hbx.setCell ho8 _⟩
        ·have hv:cF (t,d1,d2) X bw H most ht=[.string ⟨#[63]⟩,.int .i64 X,.int .i64 0,.int .i64 bw,.int .i64 H,.int .i64 (-1),.int .i64 (-1)]:=by
          unfold cF;rw[←HFo.out];rfl
         rw[HSv.out.symm] at hv;simp only[List.cons.injEq,Value.string.injEq,Value.int.injEq,true_and,and_true] at hv;obtain ⟨hv1,hv2,hv3⟩:=hv;have HV:=aHH (show #[Value.string ⟨t'.toArray⟩,X,.int .i64 0,bw,H,a',b']=#[Value.string ⟨#[63]⟩,X,.int .i64 0,bw,H,.int .i64 (-1),.int .i64 (-1)] by rw[hv1,hv2,hv3]);clear hv1 hv2 hv3;go_wp2_with fail;go_meet;case rel=>exact ⟨by rw[HV.out];exact (hbo.set_ 0 _).set_ 6 _,(hbx.setCell ho8 _).setCell ho8 _⟩
       case rest=>
        obtain ⟨aGE,aFr⟩:=hcut;rename World=>wd;clear k1 ko k9 m1 m2 m3 m4;have ko:=aGE.all7;have HO9:=aHH (cX HO8.out aFr);have hbd:=hb8.trans aFr;go_wp2_with (at_builtin;refine aG (w1:=w4) rfl (.tmp 137) (.tmp 139) 154 rfl 157 (.agg #[.string ⟨#[]⟩,.int .i64 0,.int .i64 0,.int .i64 0,.int .i64 0,.int .i64 0,.int .i64 0]) 7 64 Tryz.underlying154 rS rfl (by omega) w4.heap.size _ (n0+sp2.length) ((bK see gs H ps i).flatten++sp2.flatten) rfl (hbd.alloc _) ?hB ?hBr (HO9.out.alloc _) (some ⟨wd.heap.size,0,none⟩) 1 1 [.string ⟨t'.toArray⟩,.int .i64 X,.int .i64 0,.int .i64 bw,.int .i64 H,.int .i64 a',.int .i64 b'] rfl ((Blk.new _ _ _).reads 1 7 rfl) ?h1 ?c1 ?c2 ?_);case hB=>exact Nat.le_refl _
        case hBr=>have:=hbd.le;first|omega|(simp;omega)
        case h1=>simp[Value.oneCell']
        case c1=>unfold maxLen;omega
        case c2=>omega
        intro v' we aBX hbe hge;have LS:we.ownsRow w4.heap.size 157 7 v' (bK see gs H ps (i+1)).length (bK see gs H ps (i+1)).flatten:=by
         rw[HSt.out,HSe.out,aH5,aH5,List.flatten_append,List.flatten_append,←HN0.out];simpa using aBX
        have Q9:=aHH LS;have Hbe:=aHH hbe;clear aBX LS hbe hge;go_wp2_with fail;exact ⟨⟨i+1,hlt,by go_num,Hbe.out,Q9.out⟩,by simp[RowKit.intOf]<;>omega⟩
  ·obtain rfl:i=ps.length:=(by omega);go_wp2_with fail;go_ret;refine ⟨_,rfl,?_,w2b.trans (mJ.trans hbr)⟩;rw[←HPs.out,←HGs.out,←aAE.out];exact DE HOw.out (by have:=mJ.le;omega)
theorem MR {w:World} {base base':Nat} {e:TypeId} {size:Nat} {v:Value} {n:Nat} {xs:List Value} (h:w.ownsRow base e size v n xs) (hb:base'≤base):w.ownsRow base' e size v n xs:=by
 refine ⟨h.1,?_⟩;rcases h.2 with h2|⟨g,cap,cur,hv,hg,r⟩
 ·exact .inl h2
 ·exact .inr ⟨g,cap,cur,hv,aII hb hg,r⟩
end Go.Proofs.YtllefinciimffaaGreatDoor
