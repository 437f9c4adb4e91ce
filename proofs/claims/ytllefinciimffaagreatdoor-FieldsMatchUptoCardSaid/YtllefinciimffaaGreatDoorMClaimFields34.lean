import Derived.Test.YtllefinciimffaaGreatDoorMClaimFields33
set_option maxHeartbeats 20000000
set_option maxRecDepth 100000
namespace Go.Proofs.YtllefinciimffaaGreatDoor
open Go.RowKit Go.Shelf
theorem K6 (g : Nat) (rd : List UInt8 → List UInt8 × Int) (eg : ∀ args w, (callFunc g args).run Tryz.prog w = .ok (.enter g args) w) (M : Nat) (hM : M ≤ 9223372036854775807)
 (w:World) (hr:∀(m:List UInt8) (W:World),m.length≤M→Bl w W→Calls Tryz.prog g #[m] W fun e w'=>e=.returned (.tuple #[.string ⟨(rd m).1.toArray⟩,.int .i64 (rd m).2])∧Bl W w')
 (m:List UInt8) (hl:m.length≤M) :
 Calls Tryz.prog 327 #[m,.func (.func g) #[] #[]] w fun e w'=>e=.returned (.tuple #[.string ⟨(aL rd m).1.toArray⟩,.int .i64 (aL rd m).2])∧Bl w w':=by
 have H1:=aHH (hr m);have H2:=aHH (hr m.reverse);have hb:=fun wx=>nT m wx (by omega);unfold FlipRes at hb;have Hb:=aHH hb;obtain ⟨a,ha⟩:=aH0 ((rd m).1);obtain ⟨e1,he1⟩:=aH0 ((rd m).2);rw[←ha,←he1] at H1;obtain ⟨b,hb2⟩:=aH0 ((rd m.reverse).1);obtain ⟨e2,he2⟩:=aH0 ((rd m.reverse).2);rw[←hb2,←he2] at H2;obtain ⟨r,hrv⟩:=aH0 m.reverse;have hrl:r.length≤M:=(by rw[hrv,aIA];exact hl);by_cases hq:e1=2
 ·have hE:aL rd m=rd m.reverse:=(by unfold aL;rw[←he1,if_pos hq]);have HA:=aHH (show (aL rd m).1=b from by rw[hE,hb2]);have HB:=aHH (show (aL rd m).2=e2 from by rw[hE,he2]);rw[←hrv] at Hb H2;subst hq;clear hE ha he1 hb2 he2 hb hr hrv
  go_in
  go_wp2_with fail;refine (H1.out _ hl (Bl.refl _)).mono ?_;rintro e w1 ⟨rfl,hb1⟩;go_wp2_with fail;refine (Hb.out _).mono ?_;rintro e w2 ⟨rfl,hb2⟩;go_wp2_with fail;refine (H2.out _ hrl (hb1.trans hb2)).mono ?_;rintro e w3 ⟨rfl,hb3⟩;go_wp2_with fail;exact aIx (v:=.tuple #[b,e2]) (by simp[results,Tryz.results327,go_sem]) rfl ⟨by rw[HA.out,HB.out],(hb1.trans hb2).trans hb3⟩
 ·have hE:aL rd m=rd m:=(by unfold aL;rw[←he1,if_neg hq]);have HA:=aHH (show (aL rd m).1=a from by rw[hE,ha]);have HB:=aHH (show (aL rd m).2=e1 from by rw[hE,he1]);have hqb:(e1==2)=false:=(by rw[aIr];exact hq);clear hE ha he1 hb2 he2 hb hr hrv hq
  go_in
  go_wp2_with fail;refine (H1.out _ hl (Bl.refl _)).mono ?_;rintro e w1 ⟨rfl,hb1⟩;go_wp2_with fail;exact aIx (v:=.tuple #[.string ⟨a.toArray⟩,e1]) (by simp[results,Tryz.results327,go_sem]) rfl ⟨by rw[HA.out,HB.out],hb1⟩
theorem qT (m:List UInt8) (w:World) (hl:m.length≤1048576) (hT:SpOk w) :
 Calls Tryz.prog 286 #[.string ⟨m.toArray⟩] w fun e w'=>e=.returned (.tuple #[.string ⟨(aL m7 m).1.toArray⟩,.int .i64 (aL m7 m).2])∧Bl w w':=by
 have H:=aHH (K6 329 m7 (fT Tryz.func329 (by kernel_rfl) rfl) 1048576 (by decide) w (fun m W h hb=>QQ m W h (hT.bl hb)) m hl);obtain ⟨a,ha⟩:=aH0 ((aL m7 m).1);obtain ⟨e1,he1⟩:=aH0 ((aL m7 m).2);rw[←ha,←he1] at H ⊢;clear ha he1 hT
 go_in
 go_wp2_with fail;refine H.out.mono ?_;rintro e w1 ⟨rfl,hb1⟩;go_wp2_with fail;exact aIx (v:=.tuple #[.string ⟨a.toArray⟩,e1]) (by simp[results,Tryz.results286,go_sem]) rfl ⟨rfl,hb1⟩
theorem XU {s T:List UInt8} (h:yN s=some T):∀c∈T,c∈eU:=by
 unfold yN at h;by_cases hl:kZ s=true
 ·rw[if_pos hl] at h;obtain ⟨ks,hk,rfl⟩:=Option.map_eq_some_iff.1 h;exact UR (SK hk)
 ·rw[if_neg hl] at h;cases h
theorem sG (s:List UInt8):(∃T,yN s=some T∧ED T=true)∨(t39 s=([],false)∧m7 s=([],2)):=by
 cases h:yN s with
 |none=>exact .inr ⟨wA h,tR h⟩
 |some T=>
  cases hs:ED T with
  |true=>exact .inl ⟨T,rfl,hs⟩
  |false=>exact .inr ⟨m8 h hs,pI h hs⟩
theorem K7 {T:List UInt8} (h:ED T=true):4≤T.length∧T.length≤43:=by
 unfold ED at h;simp only[aIs,decide_eq_true_eq] at h;exact ⟨h.1,h.2.1⟩
structure Mid (s Y B Z:List UInt8):Prop where
 t:t39 s=(Y,true)
 cat:Y=B++Z
 lz:Z.length=1
 lb:B.length≤40
 lb1:1≤B.length
 ok:cM B=true
 rd:m7 s=if UJ B=Z then (B,0) else ([],14)
theorem ZE {s T:List UInt8} (h:yN s=some T) (hs:ED T=true):Mid s (qC T) (jV T) (EC T):=by
 obtain ⟨h4,h43⟩:=K7 hs;obtain ⟨b1,b2,b3,b4⟩:=US (XU h) hs;have hv:l8 (jV T)=UJ (jV T):=(by unfold l8;rw[b4];rfl);exact ⟨NK h hs,(NI h4).2,by unfold EC;rw[aH7,aIg];omega,b3,b2,b1,by rw[K1 h hs,hv]⟩
theorem K8 {s:List UInt8} (h:m7 s=([],2)):aL m7 s=m7 s.reverse:=by unfold aL;rw[h,if_pos rfl]
theorem yQ {s:List UInt8} (h:(m7 s).2≠2):aL m7 s=m7 s:=by unfold aL;rw[if_neg h]
theorem IL (m:List UInt8) (w:World) (hl:m.length≤1048576) (hT:SpOk w) :
 Calls Tryz.prog 195 #[m] w fun e w'=>e=.returned (.tuple #[.string ⟨(aL m7 m).1.toArray⟩,.int .i64 (aL m7 m).2])∧Bl w w':=by
 have hf:=vU m w (by omega);unfold FlipRes at hf;have Hf:=aHH hf;have HT:=aHH hT;have hrl:m.reverse.length≤1048576:=(by rw[aIA];exact hl);obtain ⟨r,hr⟩:=aH0 m.reverse;rw[←hr] at Hf hrl;have HRv:=aHH hr;clear hf hT hr
 go_in
 go_wp2_with fail;refine Hf.out.mono ?_;rintro e w1 ⟨rfl,hb1⟩;clear Hf;go_wp2_with fail;have hbk:=Blk.new w1 9 #[m,.string ⟨r.toArray⟩];have hb2:Bl w (w1.alloc (.cells #[m,.string ⟨r.toArray⟩] 9)):=hb1.alloc _;obtain ⟨kb,hkb⟩:=aH0 w1.heap.size;rw[←hkb] at hbk ⊢;generalize w1.alloc (.cells #[m,.string ⟨r.toArray⟩] 9)=w2 at hbk hb2 ⊢;have k1:=hbk.all2;have HBk:=aHH hbk;have Hm:=aHH (BY m w2 hl (HT.out.bl hb2));clear hkb hb1 hbk;refine wp_loop_rounds 3 ?_;rw[rounds_succ];rcases sG m with ⟨T,hT1,hT2⟩|⟨ht,hr2⟩
 ·obtain ⟨Y,B,Z,M⟩:∃Y B Z,Mid m Y B Z:=⟨_,_,_,ZE hT1 hT2⟩;have hY:Y.length=B.length+1:=(by rw[M.cat,aH5,M.lz]);obtain ⟨n,hn⟩:=aH0 B.length;have aEH:(⟨Y.toArray⟩:ByteArray).extract 0 n=⟨B.toArray⟩:=by
   rw[eO,M.cat,List.drop_zero,Nat.sub_zero,aIz hn.symm]
  have aHf:(⟨Y.toArray⟩:ByteArray).extract n Y.length=⟨Z.toArray⟩:=by
   rw[iA,M.cat,List.drop_left' hn.symm]
  have hYI:(Y.length:Int)-1=(n:Int):=(by omega);have hn0:(0:Int)≤(n:Int):=(by omega);have aFT:n≤40:=(by rw[hn];exact M.lb);have aEI:(n:Int)≤40:=(by omega);have hYl:Y.length≤41:=(by omega);have hnY:(n:Int)≤(Y.length:Int):=(by omega);have hsY:(⟨Y.toArray⟩:ByteArray).size=Y.length:=Lib.size_mk Y;have hco:=fun wx=>m6 B wx (by have:=M.lb;omega) M.ok;obtain ⟨C,hC⟩:=aH0 (UJ B);have hrd:=M.rd;rw[←hC] at hco hrd;obtain ⟨Hco,HRd,HMt⟩:=aHI hco hrd M.t;clear hY hn hco hC hrd M;go_wp2_with fail;refine Hm.out.mono ?_;rw[HMt.out];rintro e w3 ⟨rfl,hb3⟩;clear Hm;go_upto_region 7 with fail;refine aHZ [aHX 0,aHX 2,aHX 3,aHX 4,aHX 5,aHX 6,aHY 1,aHX 7] (by kernel_rfl) ?_
  iterate 3
   apply Flow.mv _ rfl
   ·intro a b;simp only[sqA,Act.eval,sqC];exact b
  iterate 3
   apply Flow.calm2 _ _ rfl rfl
   ·intro a b c d;obtain ⟨e,f⟩:=b.rule;go_simp;(try go_ints);exact d
   ·intro a b;simp only[sqA];exact b
  apply Flow.move rfl;go_wp2_with fail;refine (Hco.out _).mono ?_;rintro e w8 ⟨rfl,hw8⟩;subst hw8;have HB1:=Bl.refl w;go_wp2_with fail;refine ⟨fun _=>(by first|exact HB1|exact Bl.refl _),?_⟩;apply Flow.calm2 _ _ rfl rfl
  ·intro a b c d;obtain ⟨e,f⟩:=b.rule;go_simp;(try go_ints);exact d
  ·intro a b;simp only[sqA];exact b
  refine Flow.done ?_;have HB8:=aHH ((hb2.trans hb3).drew);clear Hco;cases hcz:(C==Z) with
  |true=>have HR2:=aHH (HRd.out.trans (if_pos (by simpa using hcz)));have HF:=aHH (show aL m7 m=(B,0) by rw[yQ (by rw[HR2.out];exact (by decide:(0:Int)≠2)),HR2.out]);clear HRd;go_wp2_with fail;exact aIx (v:=.tuple #[.string ⟨B.toArray⟩,.int .i64 0]) (by simp[results,Tryz.results195,go_sem];try exact aEH) rfl ⟨by rw[HF.out],HB8.out⟩
  |false=>have HR2:=aHH (HRd.out.trans (if_neg (by simpa using hcz)));have HF:=aHH (show aL m7 m=([],14) by rw[yQ (by rw[HR2.out];exact (by decide:(14:Int)≠2)),HR2.out]);clear HRd;go_wp2_with fail;exact aIx (v:=.tuple #[.string ⟨#[]⟩,.int .i64 14]) (by simp[results,Tryz.results195,go_sem]) rfl ⟨by rw[HF.out],HB8.out⟩
 ·rw[ht] at Hm;have HE:=aHH ((K8 hr2).trans (by rw[←HRv.out]));clear ht hr2;go_wp2_with fail;refine Hm.out.mono ?_;rintro e w3' ⟨rfl,N3⟩;have RR:=hb2.trans N3;have Hr:=aHH (BY r w3' hrl (HT.out.bl RR));have k3:=(HBk.out.bl N3).all2;clear k1 Hm hb2;go_wp2_with fail;rw[rounds_succ];rcases sG r with ⟨T,hT1,hT2⟩|⟨ht,hr2⟩
  ·obtain ⟨Y,B,Z,M⟩:∃Y B Z,Mid r Y B Z:=⟨_,_,_,ZE hT1 hT2⟩;have hY:Y.length=B.length+1:=(by rw[M.cat,aH5,M.lz]);obtain ⟨n,hn⟩:=aH0 B.length;have aEH:(⟨Y.toArray⟩:ByteArray).extract 0 n=⟨B.toArray⟩:=by
    rw[eO,M.cat,List.drop_zero,Nat.sub_zero,aIz hn.symm]
   have aHf:(⟨Y.toArray⟩:ByteArray).extract n Y.length=⟨Z.toArray⟩:=by
    rw[iA,M.cat,List.drop_left' hn.symm]
   have hYI:(Y.length:Int)-1=(n:Int):=(by omega);have hn0:(0:Int)≤(n:Int):=(by omega);have aFT:n≤40:=(by rw[hn];exact M.lb);have aEI:(n:Int)≤40:=(by omega);have hYl:Y.length≤41:=(by omega);have hnY:(n:Int)≤(Y.length:Int):=(by omega);have hsY:(⟨Y.toArray⟩:ByteArray).size=Y.length:=Lib.size_mk Y;have hco:=fun wx=>m6 B wx (by have:=M.lb;omega) M.ok;obtain ⟨C,hC⟩:=aH0 (UJ B);have hrd:=M.rd;rw[←hC] at hco hrd;obtain ⟨Hco,HRd,HMt⟩:=aHI hco hrd M.t;clear hY hn hco hC hrd M;go_wp2_with fail;refine Hr.out.mono ?_;rw[HMt.out];rintro e w3 ⟨rfl,hb3⟩;clear Hr;go_upto_region 7 with fail;refine aHZ [aHX 0,aHX 2,aHX 3,aHX 4,aHX 5,aHX 6,aHY 1,aHX 7] (by kernel_rfl) ?_
   iterate 3
    apply Flow.mv _ rfl
    ·intro a b;simp only[sqA,Act.eval,sqC];exact b
   iterate 3
    apply Flow.calm2 _ _ rfl rfl
    ·intro a b c d;obtain ⟨e,f⟩:=b.rule;go_simp;(try go_ints);exact d
    ·intro a b;simp only[sqA];exact b
   apply Flow.move rfl;go_wp2_with fail;refine (Hco.out _).mono ?_;rintro e w8 ⟨rfl,hw8⟩;subst hw8;have HB1:=Bl.refl w;go_wp2_with fail;refine ⟨fun _=>(by first|exact HB1|exact Bl.refl _),?_⟩;apply Flow.calm2 _ _ rfl rfl
   ·intro a b c d;obtain ⟨e,f⟩:=b.rule;go_simp;(try go_ints);exact d
   ·intro a b;simp only[sqA];exact b
   refine Flow.done ?_;have HB8:=aHH ((RR.trans hb3).drew);clear Hco;cases hcz:(C==Z) with
   |true=>have HR2:=aHH (HRd.out.trans (if_pos (by simpa using hcz)));have HF:=aHH (show aL m7 m=(B,0) by rw[HE.out,HR2.out]);clear HRd;go_wp2_with fail;exact aIx (v:=.tuple #[.string ⟨B.toArray⟩,.int .i64 0]) (by simp[results,Tryz.results195,go_sem];try exact aEH) rfl ⟨by rw[HF.out],HB8.out⟩
   |false=>have HR2:=aHH (HRd.out.trans (if_neg (by simpa using hcz)));have HF:=aHH (show aL m7 m=([],14) by rw[HE.out,HR2.out]);clear HRd;go_wp2_with fail;exact aIx (v:=.tuple #[.string ⟨#[]⟩,.int .i64 14]) (by simp[results,Tryz.results195,go_sem]) rfl ⟨by rw[HF.out],HB8.out⟩
  ·rw[ht] at Hr;have HF:=aHH (HE.out.trans hr2);clear ht hr2;go_wp2_with fail;refine Hr.out.mono ?_;rintro e w4 ⟨rfl,hb4⟩;clear k3 Hr;go_wp2_with fail;rw[rounds_succ];go_wp2_with fail;exact aIx (v:=.tuple #[.string ⟨#[]⟩,.int .i64 2]) (by simp[results,Tryz.results195,go_sem]) rfl ⟨by rw[HF.out],RR.trans hb4⟩
end Go.Proofs.YtllefinciimffaaGreatDoor
