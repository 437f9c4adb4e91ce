import Derived.Test.YtllefinciimffaaGreatDoorMClaimFields28
set_option maxHeartbeats 20000000
set_option maxRecDepth 100000
namespace Go.Proofs.YtllefinciimffaaGreatDoor
open Go.RowKit Go.Shelf
theorem ID {l cs:List UInt8} (hm:cZ l cs=true) (n:Nat):cZ (l.take n) cs=true:=by
 unfold cZ at hm ⊢;rw[aIl] at hm;rw[aIl];exact fun b hb=>hm b (List.mem_of_mem_take hb)
theorem uX {m:List UInt8} (h:(fZ m).2≠2):aL fZ m=fZ m:=by unfold aL;rw[if_neg h]
theorem IE {m:List UInt8} (h:jT m=none):aL fZ m=fZ m.reverse:=by unfold aL;rw[gO h,if_pos rfl]
theorem D9 (m:List UInt8) (w:World) (hl:m.length≤9223372036854775807) (hT:SpOk w) :
 Calls Tryz.prog 194 #[m] w fun e w'=>e=.returned (.tuple #[.string ⟨(aL fZ m).1.toArray⟩,.int .i64 (aL fZ m).2])∧Bl w w':=by
 have hf:=vU m w hl;unfold FlipRes at hf;have Hf:=aHH hf;have HT:=aHH hT;have hrl:m.reverse.length≤9223372036854775807:=(by rw[aIA];exact hl);obtain ⟨r,hr⟩:=aH0 m.reverse;rw[←hr] at Hf hrl;have HRv:=aHH hr;clear hf hT hr
 go_in
 go_wp2_with fail;refine Hf.out.mono ?_;rintro e w1 ⟨rfl,hb1⟩;clear Hf;go_wp2_with fail;have hbk:=Blk.new w1 9 #[m,.string ⟨r.toArray⟩];have hb2:Bl w (w1.alloc (.cells #[m,.string ⟨r.toArray⟩] 9)):=hb1.alloc _;obtain ⟨kb,hkb⟩:=aH0 w1.heap.size;rw[←hkb] at hbk ⊢;generalize w1.alloc (.cells #[m,.string ⟨r.toArray⟩] 9)=w2 at hbk hb2 ⊢;have k1:=hbk.all2;have HBk:=aHH hbk;have Hm:=aHH (uW m w2 hl (HT.out.bl hb2));clear hkb hb1 hbk;refine wp_loop_rounds 3 ?_;rw[rounds_succ];cases hd:jT m with
 |some D=>
  have hg:NE m=(D,true):=(by unfold NE;rw[hd]);rw[hg] at Hm;clear hg;go_wp2_with fail;refine Hm.out.mono ?_;rintro e w3 ⟨rfl,hb3⟩;clear k1 Hm;obtain ⟨aEq,hDm⟩:=qM hd;have hsD:(⟨D.toArray⟩:ByteArray).size=D.length:=Lib.size_mk D;have aCi:(D.length:Int)=13:=(by omega);have hck:=fun wx=>uU (D.take 12) wx (by rw[aH7];omega) (ID hDm 12);have aCj:(⟨D.toArray⟩:ByteArray).extract 0 12=⟨(D.take 12).toArray⟩:=eO D 0 12;obtain ⟨b12,ZT,YN,aCk⟩:=tO hDm (i:=12) (by omega);obtain ⟨k1,k2⟩:=e9 ZT;have hrd:fZ m=if iO (D.take 12)=jS D 12 then (D,0) else ([],14):=(by unfold fZ;rw[hd]);obtain ⟨ck,ZU⟩:=aH0 (iO (D.take 12));obtain ⟨d12,JC⟩:=aH0 (jS D 12);rw[←ZU] at hck hrd;rw[←JC] at YN aCk hrd;have Hck:=aHH hck;have HRd:=aHH hrd;clear hDm ZT ZU JC hck hrd;clear hd;go_upto_region 6 with fail;refine aHZ [aHX 0,aHX 1,aHX 2,aHX 3,aHX 4,aHX 5,aHY 6,aHX 7] (by kernel_rfl) ?_;apply Flow.mv _ rfl
  ·intro a b;simp only[sqA,Act.eval,sqC];exact b
  iterate 3
   apply Flow.calm2 _ _ rfl rfl
   ·intro a b c d;obtain ⟨e,f⟩:=b.rule;go_simp;(try go_ints);exact d
   ·intro a b;simp only[sqA];exact b
  apply Flow.mv _ rfl
  ·intro a b;simp only[sqA,Act.eval,sqC];exact b
  apply Flow.calm2 _ _ rfl rfl
  ·intro a b c d;obtain ⟨e,f⟩:=b.rule;go_simp;(try go_ints);exact d
  ·intro a b;simp only[sqA];exact b
  apply Flow.move rfl;go_wp2_with fail;refine (Hck.out _).mono ?_;rintro e w8 ⟨rfl,HB1⟩;go_wp2_with fail;refine ⟨fun _=>(by first|exact HB1|exact Bl.refl _),?_⟩;apply Flow.calm2 _ _ rfl rfl
  ·intro a b c d;obtain ⟨e,f⟩:=b.rule;go_simp;(try go_ints);exact d
  ·intro a b;simp only[sqA];exact b
  refine Flow.done ?_;have HB8:=aHH ((hb2.trans hb3).trans (Bl.ofDrew HB1));clear HB1 Hck;by_cases hq:ck=d12
  ·have HR2:=aHH (HRd.out.trans (if_pos hq));have HF:=aHH (show aL fZ m=(D,0) by rw[uX (by rw[HR2.out];exact (by decide:(0:Int)≠2)),HR2.out]);subst hq;clear HRd;go_wp2_with fail;exact aIx (v:=.tuple #[D,.int .i64 0]) (by simp[results,Tryz.results194,go_sem]) rfl ⟨by rw[HF.out],HB8.out⟩
  ·have HR2:=aHH (HRd.out.trans (if_neg hq));have HF:=aHH (show aL fZ m=([],14) by rw[uX (by rw[HR2.out];exact (by decide:(14:Int)≠2)),HR2.out]);have hq':(d12:Int)≠(ck:Int):=(by omega);clear HRd hq;go_wp2_with fail;exact aIx (v:=.tuple #[.string ⟨#[]⟩,.int .i64 14]) (by simp[results,Tryz.results194,go_sem]) rfl ⟨by rw[HF.out],HB8.out⟩
 |none=>
  have hg:NE m=([],false):=iQ hd;rw[hg] at Hm;have HE:=aHH ((IE hd).trans (by rw[←HRv.out]));clear hg hd;go_wp2_with fail;refine Hm.out.mono ?_;rintro e w3 ⟨rfl,hb3⟩;have RR:=hb2.trans hb3;have Hr:=aHH (uW r w3 hrl (HT.out.bl RR));have k3:=(HBk.out.bl hb3).all2;clear k1 Hm hb2;go_wp2_with fail;rw[rounds_succ];cases hd:jT r with
  |some D=>
   have hg:NE r=(D,true):=(by unfold NE;rw[hd]);rw[hg] at Hr;clear hg;go_wp2_with fail;refine Hr.out.mono ?_;rintro e w4 ⟨rfl,hb4⟩;clear k3 Hr;obtain ⟨aEq,hDm⟩:=qM hd;have hsD:(⟨D.toArray⟩:ByteArray).size=D.length:=Lib.size_mk D;have aCi:(D.length:Int)=13:=(by omega);have hck:=fun wx=>uU (D.take 12) wx (by rw[aH7];omega) (ID hDm 12);have aCj:(⟨D.toArray⟩:ByteArray).extract 0 12=⟨(D.take 12).toArray⟩:=eO D 0 12;obtain ⟨b12,ZT,YN,aCk⟩:=tO hDm (i:=12) (by omega);obtain ⟨k1,k2⟩:=e9 ZT;have hrd:fZ r=if iO (D.take 12)=jS D 12 then (D,0) else ([],14):=(by unfold fZ;rw[hd]);obtain ⟨ck,ZU⟩:=aH0 (iO (D.take 12));obtain ⟨d12,JC⟩:=aH0 (jS D 12);rw[←ZU] at hck hrd;rw[←JC] at YN aCk hrd;have Hck:=aHH hck;have HRd:=aHH hrd;clear hDm ZT ZU JC hck hrd;clear hd;go_upto_region 6 with fail;refine aHZ [aHX 0,aHX 1,aHX 2,aHX 3,aHX 4,aHX 5,aHY 6,aHX 7] (by kernel_rfl) ?_;apply Flow.mv _ rfl
   ·intro a b;simp only[sqA,Act.eval,sqC];exact b
   iterate 3
    apply Flow.calm2 _ _ rfl rfl
    ·intro a b c d;obtain ⟨e,f⟩:=b.rule;go_simp;(try go_ints);exact d
    ·intro a b;simp only[sqA];exact b
   apply Flow.mv _ rfl
   ·intro a b;simp only[sqA,Act.eval,sqC];exact b
   apply Flow.calm2 _ _ rfl rfl
   ·intro a b c d;obtain ⟨e,f⟩:=b.rule;go_simp;(try go_ints);exact d
   ·intro a b;simp only[sqA];exact b
   apply Flow.move rfl;go_wp2_with fail;refine (Hck.out _).mono ?_;rintro e w8 ⟨rfl,HB1⟩;go_wp2_with fail;refine ⟨fun _=>(by first|exact HB1|exact Bl.refl _),?_⟩;apply Flow.calm2 _ _ rfl rfl
   ·intro a b c d;obtain ⟨e,f⟩:=b.rule;go_simp;(try go_ints);exact d
   ·intro a b;simp only[sqA];exact b
   refine Flow.done ?_;have HB8:=aHH ((RR.trans hb4).trans (Bl.ofDrew HB1));clear HB1 Hck;by_cases hq:ck=d12
   ·have HR2:=aHH (HRd.out.trans (if_pos hq));have HF:=aHH (show aL fZ m=(D,0) by rw[HE.out,HR2.out]);subst hq;clear HRd;go_wp2_with fail;exact aIx (v:=.tuple #[D,.int .i64 0]) (by simp[results,Tryz.results194,go_sem]) rfl ⟨by rw[HF.out],HB8.out⟩
   ·have HR2:=aHH (HRd.out.trans (if_neg hq));have HF:=aHH (show aL fZ m=([],14) by rw[HE.out,HR2.out]);have hq':(d12:Int)≠(ck:Int):=(by omega);clear HRd hq;go_wp2_with fail;exact aIx (v:=.tuple #[.string ⟨#[]⟩,.int .i64 14]) (by simp[results,Tryz.results194,go_sem]) rfl ⟨by rw[HF.out],HB8.out⟩
  |none=>have hg:NE r=([],false):=iQ hd;rw[hg] at Hr;have HF:=aHH (HE.out.trans (gO hd));clear hg hd;go_wp2_with fail;refine Hr.out.mono ?_;rintro e w4 ⟨rfl,hb4⟩;clear k3 Hr;go_wp2_with fail;rw[rounds_succ];go_wp2_with fail;exact aIx (v:=.tuple #[.string ⟨#[]⟩,.int .i64 2]) (by simp[results,Tryz.results194,go_sem]) rfl ⟨by rw[HF.out],RR.trans hb4⟩
end Go.Proofs.YtllefinciimffaaGreatDoor
