import Derived.Test.YtllefinciimffaaGreatDoorMClaimFields23
set_option maxHeartbeats 20000000
set_option maxRecDepth 100000
namespace Go.Proofs.YtllefinciimffaaGreatDoor
open Go.RowKit Go.Shelf
theorem fJ:(Tryz.prog.info? 3).map (fun i=>(i.zero,i.size,i.bytes))=some (some (.int .i64 0),1,8):=by kernel_rfl
theorem aAs {f:Frm} {cs:List Bool} {w:World} {A:Option Addr} {i:Nat} {a:Anc} (h:Reads w 3 A f.la.length (f.la.flatMap (pE f cs))) (hi:f.la[i]? = some a):∃ad,A=some ad∧w.cell? (ad.add (i*3))=some (.int .i64 (dD f cs a).1)∧w.cell? ⟨(ad.add (i*3)).block,(ad.add (i*3)).off+1,none⟩=some (.int .i64 (dD f cs a).2.1) ∧
 w.cell? ⟨(ad.add (i*3)).block,(ad.add (i*3)).off+2,none⟩=some (.int .i64 (dD f cs a).2.2):=by
 obtain ⟨ad,e,key⟩:=iB (pE f cs) 3 (fun _=>rfl) h hi;have k0:=key 0 _ (by omega) rfl;have k1:=key 1 _ (by omega) rfl;have k2:=key 2 _ (by omega) rfl;rw[Addr.add_zero'] at k0;rw[Addr.add_succ'] at k1 k2;exact ⟨ad,e,k0,k1,k2⟩
theorem vZ {α β:Type} (f:α→β) {l:List α} {i:Nat} {a:α} (h:l[i]? = some a):(l.map f).take (i+1)=(l.map f).take i++[f a]:=by
 refine eN ?_;rw[aId,h];rfl
theorem UG {w w':World} {g:Nat} (h:w'.heap[g]? = w.heap[g]?) (j:Nat):w'.cell? ⟨g,j,none⟩=w.cell? ⟨g,j,none⟩:=by simp only[World.cell?,h]
theorem BV {w w':World} {g n:Nat} {xs:List Value} (h:Reads w 1 (some ⟨g,0,none⟩) n xs) (hb:w'.heap[g]? = w.heap[g]?):Reads w' 1 (some ⟨g,0,none⟩) n xs:=by
 refine ⟨h.1,fun hk => ?_⟩;obtain ⟨ad,e,hc⟩:=h.2 hk;obtain rfl:=aIw e;refine ⟨_,rfl,fun j u hu => ?_⟩;have:=hc j u hu;rw[Addr.add_lit] at this ⊢;rw[UG hb];exact this
theorem NF {w w':World} {B g n cap:Nat} {T:TypeId} {xs:List Value} (h:w.ownsRow B T 1 (.slice (some ⟨g,0,none⟩) n cap) n xs) (hb:w'.heap[g]? = w.heap[g]?):w'.ownsRow B T 1 (.slice (some ⟨g,0,none⟩) n cap) n xs:=by
 refine ⟨h.1,?_⟩;rcases h.2 with ⟨h1,-⟩|⟨g',cap',cur,e,r1,r2,r3⟩
 ·cases h1
 ·injection e with e1 e2 e3;obtain rfl:g=g':=(by injection e1 with e1;injection e1);exact .inr ⟨g,cap',cur,by rw[e3],r1,hb.trans r2,r3⟩
theorem v7 {w:World} {g:Nat} {l:List Int} (h:0<l.length) (hr:Reads w 1 (some ⟨g,0,none⟩) l.length ((mO l).map (.int .i64))):w.cell? ⟨g,(l.length-1) / 2,none⟩=some (.int .i64 (oY l)):=by
 obtain ⟨ad,e,hc⟩:=hr.2 h;obtain rfl:=aIw e;have:=hc ((l.length-1) / 2) (.int .i64 (oY l)) (by rw[aId,aAk h];rfl);rw[Addr.add_lit,Nat.zero_add] at this;exact this
theorem QL (f:Frm) (C:Option Addr) (cc:Nat) (cs:List Bool) (W H r:Nat) (w:World) (dW:Fits f W H r) (hF:FrmAt w f) (hC:Reads w 1 C (W*H) (cs.map .bool)) :
 Calls Tryz.prog 136 #[f.val,.agg #[W,H,.slice C (W*H) cc]] w fun e w'=>e=.returned (.agg #[.int .i64 (oY (PM f cs)),.int .i64 (oY (PN f cs))])∧Bl w w':=by
 have han:=fun wx hF hC=>KV f C cc cs W H r wx dW hF hC;have aCd:f.la.length≤10:=dW.hla;have hbx:=DO (cs:=cs) dW;have hby:=DP (cs:=cs) dW;obtain ⟨XS,hXS⟩:=aH0 (PM f cs);obtain ⟨YS,hYS⟩:=aH0 (PN f cs);rw[←hXS] at hbx;rw[←hYS] at hby
 rw[←hXS,←hYS];have hXl:XS.length=f.la.length:=(by rw[hXS];simp[PM]);have hYl:YS.length=f.la.length:=(by rw[hYS];simp[PN]);obtain ⟨HFn,HXt,HYt⟩:=aHI (fun (wx:World) (A:Option Addr) (i:Nat) (a:Anc) (h:Reads wx 3 A f.la.length (f.la.flatMap (pE f cs))) (hi:f.la[i]? = some a)=>aAs h hi) (fun (i:Nat) (a:Anc) (hi:f.la[i]? = some a)=>show XS.take (i+1)=XS.take i++[(dD f cs a).1] by rw[hXS];exact vZ _ hi) (fun (i:Nat) (a:Anc) (hi:f.la[i]? = some a)=>show YS.take (i+1)=YS.take i++[(dD f cs a).2.1] by rw[hYS];exact vZ _ hi);obtain ⟨nm,fW,fH,reach,dark,AL,ac,la,FL,fc,lf,RL,rc,lr⟩:=f;simp only at aCd hXl hYl;let w1:=(((w).alloc (.cells #[nm,fW,fH,reach,dark,.slice AL la.length ac,.slice FL lf.length fc,.slice RL lr.length rc] 26)).alloc (.cells #[W,H,.slice C (W*H) cc] 43)).alloc (.cells #[.int .i64 0,.int .i64 0] 143);obtain ⟨w1b,w11,w12,w13⟩:=aHQ (x:=w1) w _ _ _ _ _ _ rfl;obtain ⟨FC,hFC⟩:=aH0 (pE ⟨nm,fW,fH,reach,dark,AL,ac,la,FL,fc,lf,RL,rc,lr⟩ cs);obtain ⟨FA,hFA⟩:=aH0 (dD ⟨nm,fW,fH,reach,dark,AL,ac,la,FL,fc,lf,RL,rc,lr⟩ cs);rw[←hFC] at han;rw[←hFC,←hFA] at HFn;rw[←hFA] at HXt HYt;unfold Frm.val at han;obtain ⟨Han,HF,HC,Hbx,Hby,HXl,HYl⟩:=aHM han (hF.bl w1b) (hC.bl w1b) hbx hby hXl hYl;have k1:=w11.all8;have k2:=w12.all3;have dM:=aHH w1b;unfold Frm.val;clear han hF hC w1b hbx hby hFC hFA hXS hYS hXl hYl dW
 go_in
 go_upto_region 1 with fail;rw[show ((w.alloc (.cells #[nm,fW,fH,reach,dark,.slice AL la.length ac,.slice FL lf.length fc,.slice RL lr.length rc] 26)).alloc (.cells #[W,H,.slice C (W*H) cc] 43)).alloc (.cells #[.int .i64 0,.int .i64 0] 143)=w1 from rfl];clear_value w1;go_wp2_with fail;refine (Han.out w1 HF.out HC.out).mono ?_;rintro e w2 ⟨A,c,rfl,hra,hb2⟩;have Hra:=aHH hra;have Hb2:=aHH hb2;have hs2:=hb2.le;clear hra hb2 k1 k2;go_wp2_with fail;go_loopw [5,6,14] (fun b5 b6 u wr=>∃i:Nat,i≤la.length∧u=.int .i64 i∧Bl w2 wr∧Two wr w2.heap.size 3 b5 i ((XS.take i).map (.int .i64)) b6 i ((YS.take i).map (.int .i64))) (fun _ _ u _=>la.length-(RowKit.intOf u).toNat);case atStart=>exact ⟨0,Nat.zero_le _,rfl,Bl.refl _,Two.nil _ _ _⟩
 case round=>
  obtain ⟨i,hi,rfl,hbr,htw⟩:=hrel;by_cases hlt:i<la.length
  ·have hg:la[i]? = some la[i]:=aH2 hlt;obtain ⟨a,ha2⟩:=aH0 (la[i]);rw[←ha2] at hg;obtain ⟨ad,e1,j1,j2,j3⟩:=HFn.out _ _ _ _ (Hra.out.bl hbr) hg;subst e1;have htx:=HXt.out _ _ hg;have hty:=HYt.out _ _ hg;obtain ⟨fx,hfx⟩:=aH0 ((FA a).1);obtain ⟨fy,hfy⟩:=aH0 ((FA a).2.1);obtain ⟨fn,hfn⟩:=aH0 ((FA a).2.2);rw[←hfx] at htx j1;rw[←hfy] at hty j2;rw[←hfn] at j3;obtain ⟨Htx,Hty,HTw,Hbr⟩:=aHJ htx hty htw hbr;clear hg ha2 htx hty hfx hfy hfn htw hbr;go_upto_region 5 with fail;obtain ⟨w5,hw5⟩:=aH0 (wr.alloc (.cells #[fx,fy,fn] 87));have b5:=aHV hw5;have hb5:=aHU hw5;rw[←hw5];have aEr:=HTw.out.bl hb5;have VK:=Hbr.out.trans hb5;have b5b:Blk w5 wr.heap.size 87 #[fx,fy,fn]:=b5;have kf:=b5.all3;have kfx:∀wx,Bl w5 wx→wx.cell? ⟨wr.heap.size,0,none⟩=some (.int .i64 fx):=fun wx h=>(b5.bl h).all3.1;have hwr:=Hbr.out.le;clear hw5 j1 j2 j3;refine pY (fun wx=>Bl w2 wx∧Blk wx (wr.heap.size) 87 #[fx,fy,fn]) [(true,0),(true,1),(true,2),(true,5),(true,6),(true,7)] (.one 3 [] (.one 4 [] (.one 8 [] (.one 9 [(true,10),(true,11)] .none .none) .none) (.one 8 [] (.one 4 [] (.one 9 [(true,10),(true,11)] .none .none) .none) .none)) (.one 8 [] (.one 3 [] (.one 4 [] (.one 9 [(true,10),(true,11)] .none .none) .none) .none) .none)) (by kernel_rfl) (by kernel_rfl) (by kernel_rfl) (by kernel_rfl) ⟨Bl.drew VK,(b5).drew⟩ ?_;obtain ⟨wxd,VU⟩:=aH0 ((w5).drew);have HBD:Bl w2 wxd:=(by rw[VU];exact Bl.drew VK);rw[←VU];have HKD:Blk wxd (wr.heap.size) 87 #[fx,fy,fn]:=(by rw[VU];exact (b5).drew);have HTD:=(aEr).bl (show Bl w5 wxd by rw[VU];exact Bl.drew (Bl.refl _));clear VU;apply FlowS.mv _ rfl
   ·intro a b;simp only[sqA,Act.eval,sqC];exact b
   iterate 2
    apply FlowS.calm2 _ _ rfl rfl
    ·intro w' hb' K' hK';obtain ⟨aAT,aAU⟩:=hb';obtain ⟨hc',hf'⟩:=aAT.rule;have kq':=aAU.all3;go_simp;try go_ints
     exact hK'
    ·intro a b;simp only[sqA];exact b
   apply FlowS.mv _ rfl
   ·intro a b;simp only[sqA,Act.eval,sqC];exact b
   iterate 2
    apply FlowS.calm2 _ _ rfl rfl
    ·intro w' hb' K' hK';obtain ⟨aAT,aAU⟩:=hb';obtain ⟨hc',hf'⟩:=aAT.rule;have kq':=aAU.all3;go_simp;try go_ints
     exact hK'
    ·intro a b;simp only[sqA];exact b
   refine Tree.fork ?_;refine Tree.part rfl ?_ ?_
   ·skip
    go_wp2_with fail;obtain ⟨wx3,EU⟩:=aH0 ((wxd).alloc (.cells #[fx] 3));have bk3:Blk wx3 (wxd).heap.size 3 #[fx]:=(by rw[EU];exact Blk.new _ _ _);have bb3:=aHU EU;rw[←EU];clear EU;have HB3:Bl w2 wx3:=(HBD).trans bb3;have bkK_3:=(HKD).bl bb3;have HT3:=(HTD).bl bb3;have LR:=bb3.le;refine ⟨⟨HB3,bkK_3⟩,?_⟩;refine Tree.fork ?_;refine Tree.part rfl ?_ ?_
    ·skip
     refine bA (w1:=w2) rfl (.tmp 18) (.tmp 21) 47 rfl 3 (.int .i64 0) 8 Tryz.underlying47 fJ rfl w2.heap.size u5 i _ _ _ _ rfl HT3 (wxd.heap.size) (.int .i64 fx) rfl bk3 rfl HB3 (Nat.le_refl _) (HB3).le (by omega) (by unfold maxLen;omega) ?_;intro vn4 wx4 HT4 HB4 aCm kk4;have bk3_4:Blk wx4 wxd.heap.size 3 #[fx]:=(kk4 _ (bk3).lt (fun he=>by
      have h:=(HTD.x.lt _ he).2;omega)).trans (bk3)
     have bkK_4:Blk wx4 (wr.heap.size) 87 #[fx,fy,fn]:=(kk4 _ (bkK_3).lt (fun he=>by
      have h:=((HTw.out).x.lt _ he).2;omega)).trans (bkK_3)
     go_wp2_with fail;refine ⟨⟨HB4,bkK_4⟩,?_⟩;refine Tree.fork ?_;refine Tree.part rfl ?_ ?_
     ·skip
      go_wp2_with fail;obtain ⟨wx8,sU⟩:=aH0 ((wx4).alloc (.cells #[fy] 3));have bk8:Blk wx8 (wx4).heap.size 3 #[fy]:=(by rw[sU];exact Blk.new _ _ _);have bb8:=aHU sU;rw[←sU];clear sU;have HB8:Bl w2 wx8:=(HB4).trans bb8;have bk3_8:=(bk3_4).bl bb8;have bkK_8:=(bkK_4).bl bb8;have HT8:=(HT4).bl bb8;have YL:=bb8.le;refine ⟨⟨HB8,bkK_8⟩,?_⟩;refine Tree.fork ?_;refine Tree.last rfl ?_ ?_
      ·skip
       refine bA (w1:=w2) rfl (.tmp 23) (.tmp 26) 47 rfl 3 (.int .i64 0) 8 Tryz.underlying47 fJ rfl w2.heap.size u6 i _ _ _ _ rfl (HT8).swap (wx4.heap.size) (.int .i64 fy) rfl bk8 rfl HB8 (Nat.le_refl _) (HB8).le (by omega) (by unfold maxLen;omega) ?_;intro vn9 wx9 HT9 HB9 aCn kk9
       replace HT9:=HT9.swap
       have bk3_9:Blk wx9 wxd.heap.size 3 #[fx]:=(kk9 _ (bk3_8).lt (fun he=>by
        have h:=(HTD.y.lt _ he).2;omega)).trans (bk3_8)
       have bk8_9:Blk wx9 wx4.heap.size 3 #[fy]:=(kk9 _ (bk8).lt (fun he=>by
        have h:=(HTD.y.lt _ he).2;omega)).trans (bk8)
       have bkK_9:Blk wx9 (wr.heap.size) 87 #[fx,fy,fn]:=(kk9 _ (bkK_8).lt (fun he=>by
        have h:=((HTw.out).y.lt _ he).2;omega)).trans (bkK_8)
       go_wp2_with fail;refine ⟨⟨HB9,bkK_9⟩,?_⟩
       iterate 2
        apply FlowS.asg _ rfl
        ·intro a b;simp only[sqA,Act.eval,sqC];exact b
       refine FlowS.done ?_;go_wp2_with fail;exact ⟨⟨i+1,hlt,by go_num,HB9,by rw[Htx.out,Hty.out,aIp,aIp];exact HT9⟩,by simp[RowKit.intOf];omega⟩
      exact Tree.nil
     exact Tree.nil
    refine Tree.part rfl ?_ ?_
    ·skip
     go_wp2_with fail;obtain ⟨wx8,sU⟩:=aH0 ((wx3).alloc (.cells #[fy] 3));have bk8:Blk wx8 (wx3).heap.size 3 #[fy]:=(by rw[sU];exact Blk.new _ _ _);have bb8:=aHU sU;rw[←sU];clear sU;have HB8:Bl w2 wx8:=(HB3).trans bb8;have bk3_8:=(bk3).bl bb8;have bkK_8:=(bkK_3).bl bb8;have HT8:=(HT3).bl bb8;have YL:=bb8.le;refine ⟨⟨HB8,bkK_8⟩,?_⟩;refine Tree.fork ?_;refine Tree.part rfl ?_ ?_
     ·skip
      refine bA (w1:=w2) rfl (.tmp 18) (.tmp 21) 47 rfl 3 (.int .i64 0) 8 Tryz.underlying47 fJ rfl w2.heap.size u5 i _ _ _ _ rfl HT8 (wxd.heap.size) (.int .i64 fx) rfl bk3_8 rfl HB8 (Nat.le_refl _) (HB8).le (by omega) (by unfold maxLen;omega) ?_;intro vn4 wx4 HT4 HB4 aCm kk4;have bk3_4:Blk wx4 wxd.heap.size 3 #[fx]:=(kk4 _ (bk3_8).lt (fun he=>by
       have h:=(HTD.x.lt _ he).2;omega)).trans (bk3_8)
      have bk8_4:Blk wx4 wx3.heap.size 3 #[fy]:=(kk4 _ (bk8).lt (fun he=>by
       have h:=(HTD.x.lt _ he).2;omega)).trans (bk8)
      have bkK_4:Blk wx4 (wr.heap.size) 87 #[fx,fy,fn]:=(kk4 _ (bkK_8).lt (fun he=>by
       have h:=((HTw.out).x.lt _ he).2;omega)).trans (bkK_8)
      go_wp2_with fail;refine ⟨⟨HB4,bkK_4⟩,?_⟩;refine Tree.fork ?_;refine Tree.last rfl ?_ ?_
      ·skip
       refine bA (w1:=w2) rfl (.tmp 23) (.tmp 26) 47 rfl 3 (.int .i64 0) 8 Tryz.underlying47 fJ rfl w2.heap.size u6 i _ _ _ _ rfl (HT4).swap (wx3.heap.size) (.int .i64 fy) rfl bk8_4 rfl HB4 (Nat.le_refl _) (HB4).le (by omega) (by unfold maxLen;omega) ?_;intro vn9 wx9 HT9 HB9 aCn kk9
       replace HT9:=HT9.swap
       have bk3_9:Blk wx9 wxd.heap.size 3 #[fx]:=(kk9 _ (bk3_4).lt (fun he=>by
        have h:=(HTD.y.lt _ he).2;omega)).trans (bk3_4)
       have bk8_9:Blk wx9 wx3.heap.size 3 #[fy]:=(kk9 _ (bk8_4).lt (fun he=>by
        have h:=(HTD.y.lt _ he).2;omega)).trans (bk8_4)
       have bkK_9:Blk wx9 (wr.heap.size) 87 #[fx,fy,fn]:=(kk9 _ (bkK_4).lt (fun he=>by
        have h:=((HTw.out).y.lt _ he).2;omega)).trans (bkK_4)
       go_wp2_with fail;refine ⟨⟨HB9,bkK_9⟩,?_⟩
       iterate 2
        apply FlowS.asg _ rfl
        ·intro a b;simp only[sqA,Act.eval,sqC];exact b
       refine FlowS.done ?_;go_wp2_with fail;exact ⟨⟨i+1,hlt,by go_num,HB9,by rw[Htx.out,Hty.out,aIp,aIp];exact HT9⟩,by simp[RowKit.intOf];omega⟩
      exact Tree.nil
     exact Tree.nil
    exact Tree.nil
   refine Tree.part rfl ?_ ?_
   ·skip
    go_wp2_with fail;obtain ⟨wx8,sU⟩:=aH0 ((wxd).alloc (.cells #[fy] 3));have bk8:Blk wx8 (wxd).heap.size 3 #[fy]:=(by rw[sU];exact Blk.new _ _ _);have bb8:=aHU sU;rw[←sU];clear sU;have HB8:Bl w2 wx8:=(HBD).trans bb8;have bkK_8:=(HKD).bl bb8;have HT8:=(HTD).bl bb8;have YL:=bb8.le;refine ⟨⟨HB8,bkK_8⟩,?_⟩;refine Tree.fork ?_;refine Tree.part rfl ?_ ?_
    ·skip
     go_wp2_with fail;obtain ⟨wx3,EU⟩:=aH0 ((wx8).alloc (.cells #[fx] 3));have bk3:Blk wx3 (wx8).heap.size 3 #[fx]:=(by rw[EU];exact Blk.new _ _ _);have bb3:=aHU EU;rw[←EU];clear EU;have HB3:Bl w2 wx3:=(HB8).trans bb3;have bk8_3:=(bk8).bl bb3;have bkK_3:=(bkK_8).bl bb3;have HT3:=(HT8).bl bb3;have LR:=bb3.le;refine ⟨⟨HB3,bkK_3⟩,?_⟩;refine Tree.fork ?_;refine Tree.part rfl ?_ ?_
     ·skip
      refine bA (w1:=w2) rfl (.tmp 18) (.tmp 21) 47 rfl 3 (.int .i64 0) 8 Tryz.underlying47 fJ rfl w2.heap.size u5 i _ _ _ _ rfl HT3 (wx8.heap.size) (.int .i64 fx) rfl bk3 rfl HB3 (Nat.le_refl _) (HB3).le (by omega) (by unfold maxLen;omega) ?_;intro vn4 wx4 HT4 HB4 aCm kk4;have bk8_4:Blk wx4 wxd.heap.size 3 #[fy]:=(kk4 _ (bk8_3).lt (fun he=>by
       have h:=(HTD.x.lt _ he).2;omega)).trans (bk8_3)
      have bk3_4:Blk wx4 wx8.heap.size 3 #[fx]:=(kk4 _ (bk3).lt (fun he=>by
       have h:=(HTD.x.lt _ he).2;omega)).trans (bk3)
      have bkK_4:Blk wx4 (wr.heap.size) 87 #[fx,fy,fn]:=(kk4 _ (bkK_3).lt (fun he=>by
       have h:=((HTw.out).x.lt _ he).2;omega)).trans (bkK_3)
      go_wp2_with fail;refine ⟨⟨HB4,bkK_4⟩,?_⟩;refine Tree.fork ?_;refine Tree.last rfl ?_ ?_
      ·skip
       refine bA (w1:=w2) rfl (.tmp 23) (.tmp 26) 47 rfl 3 (.int .i64 0) 8 Tryz.underlying47 fJ rfl w2.heap.size u6 i _ _ _ _ rfl (HT4).swap (wxd.heap.size) (.int .i64 fy) rfl bk8_4 rfl HB4 (Nat.le_refl _) (HB4).le (by omega) (by unfold maxLen;omega) ?_;intro vn9 wx9 HT9 HB9 aCn kk9
       replace HT9:=HT9.swap
       have bk8_9:Blk wx9 wxd.heap.size 3 #[fy]:=(kk9 _ (bk8_4).lt (fun he=>by
        have h:=(HTD.y.lt _ he).2;omega)).trans (bk8_4)
       have bk3_9:Blk wx9 wx8.heap.size 3 #[fx]:=(kk9 _ (bk3_4).lt (fun he=>by
        have h:=(HTD.y.lt _ he).2;omega)).trans (bk3_4)
       have bkK_9:Blk wx9 (wr.heap.size) 87 #[fx,fy,fn]:=(kk9 _ (bkK_4).lt (fun he=>by
        have h:=((HTw.out).y.lt _ he).2;omega)).trans (bkK_4)
       go_wp2_with fail;refine ⟨⟨HB9,bkK_9⟩,?_⟩
       iterate 2
        apply FlowS.asg _ rfl
        ·intro a b;simp only[sqA,Act.eval,sqC];exact b
       refine FlowS.done ?_;go_wp2_with fail;exact ⟨⟨i+1,hlt,by go_num,HB9,by rw[Htx.out,Hty.out,aIp,aIp];exact HT9⟩,by simp[RowKit.intOf];omega⟩
      exact Tree.nil
     exact Tree.nil
    exact Tree.nil
   exact Tree.nil
  ·obtain rfl:i=la.length:=(by omega);rw[aID (by rw[HXl.out];exact Nat.le_refl _),aID (by rw[HYl.out];exact Nat.le_refl _)] at htw;have HTw:=aHH htw;have Hbr:=aHH (Hb2.out.trans hbr);have B13:=aHH (w13.bl Hbr.out);clear hbr;by_cases hn:la.length=0
   ·have hx:=htw.x;obtain ⟨A5,c5,rfl,-⟩:=bL hx;obtain ⟨A6,c6,rfl,-⟩:=bL htw.y;have k3:=B13.out.all2;have hXn:XS=[]:=List.eq_nil_of_length_eq_zero (by rw[HXl.out,hn]);have hYn:YS=[]:=List.eq_nil_of_length_eq_zero (by rw[HYl.out,hn]);have HX:=aHH (show oY XS=0 by rw[hXn,vV]);have HY:=aHH (show oY YS=0 by rw[hYn,vV]);clear htw hx hXn hYn;go_wp2_with fail;obtain ⟨wS,hwS⟩:=aH0 ((wr.setCell ⟨w.heap.size+1+1,0,none⟩ (.int .i64 0)).setCell ⟨w.heap.size+1+1,1,none⟩ (.int .i64 0));have bS:Blk wS (w.heap.size+1+1) 143 #[.int .i64 0,.int .i64 0]:=(by rw[hwS];exact (B13.out.set_ 0 _).set_ 1 _);have hS:Bl w wS:=(by rw[hwS];exact ((dM.out.trans Hbr.out).setCell (by show _≤_+1+1;omega) _).setCell (by show _≤_+1+1;omega) _);rw[←hwS];have kF:=bS.all2;refine aIx (v:=.agg #[.int .i64 0,.int .i64 0]) (by simp[results,Tryz.results136,go_sem,kF]) rfl ⟨by rw[HX.out,HY.out],hS⟩
   ·have hn0:0<la.length:=Nat.pos_of_ne_zero hn;have hx:=htw.x;have hy:=htw.y;have hne:=htw.ne;rcases hx.2 with ⟨-,h0⟩|⟨g,cx,cur,rfl,hgB,hgh,hcx,-⟩
    ·exact absurd h0 hn
    rcases hy.2 with ⟨-,h0⟩|⟨g2,cy,cur2,rfl,aCo,aEs,hcy,-⟩
    ·exact absurd h0 hn
    have hg2:g2≠g:=fun e=>hne g rfl (by rw[e];rfl);have hlx:=(hx.lt g rfl).2;have hly:=(hy.lt g2 rfl).2;have Hx:=aHH hx;have Hy:=aHH hy;have hs1:=rR w2.heap.size g cx 3 XS wr (by rw[HXl.out];exact hx) (by rw[HXl.out];omega);rw[HXl.out] at hs1;obtain ⟨Hs1,HgB,aEt,Hlx,Hly,Hg2,Hn0⟩:=aHM hs1 hgB aCo hlx hly hg2 hn0;have aG6:=B13.out.lt;have aEu:=w13.lt;clear htw hx hy hne hgh aEs hs1 hgB aCo hlx hly hg2;go_wp2_with fail;refine Hs1.out.mono ?_;rintro e w3 ⟨rfl,hr3,LR,hk3,YG⟩;obtain ⟨Hr3,Hk3,Hb3,aEv⟩:=aHJ hr3 hk3 (YG w1 Hbr.out (aII hs2 HgB.out)) LR;have hy3:=NF Hy.out (hk3 g2 Hly.out Hg2.out);have aAV:=rR w2.heap.size g2 cy 3 YS w3 (by rw[HYl.out];exact hy3) (by rw[HYl.out];omega);rw[HYl.out] at aAV;have Hs2:=aHH aAV;clear hr3 hk3 YG hy3 aAV LR;go_wp2_with fail;refine Hs2.out.mono ?_;rintro e w4 ⟨rfl,hr4,-,hk4,aCp⟩;have hb4:=aCp w1 Hb3.out (aII hs2 aEt.out);have Hb4:=aHH hb4;have hr5:=BV Hr3.out (hk4 g (Nat.lt_of_lt_of_le Hlx.out aEv.out) (fun e=>Hg2.out e.symm));rw[←HXl.out] at hr5;rw[←HYl.out] at hr4;have kx:=v7 (by rw[HXl.out];exact Hn0.out) hr5;have ky:=v7 (by rw[HYl.out];exact Hn0.out) hr4;rw[HXl.out] at kx;rw[HYl.out] at ky;have B4:=aHH (w13.bl hb4);have k3:=B4.out.all2;obtain ⟨lm,hlm⟩:=aH0 (la.length-1);obtain ⟨mi,hmi⟩:=aH0 (lm / 2);rw[←hlm,←hmi] at kx ky;have hoi:((la.length:Int)-1)=(lm:Int):=(by omega);have hoj:((lm:Int) / 2)=(mi:Int):=(by omega);have hok:(lm:Int).tdiv 2=(mi:Int):=(by rw[Int.tdiv_eq_ediv_of_nonneg (by omega)];exact hoj);have hml:(mi:Int)<(la.length:Int):=(by omega);have hmc:(mi:Int)<(cx:Int)∧(mi:Int)<(cy:Int):=(by omega);obtain ⟨mx,hmx⟩:=aH0 (oY XS);obtain ⟨my,hmy⟩:=aH0 (oY YS);rw[←hmx] at kx;rw[←hmy] at ky;have Hmx:=aHH hmx;have Hmy:=aHH hmy;clear hr4 hk4 aCp hb4 hr5 hlm hmi hmx hmy;go_upto_region 11 with fail;refine aA [(true,0),(true,1),(true,2),(true,3),(true,4),(true,5),(true,6),(true,7),(true,8),(true,9),(true,10),(true,11),(true,12),(false,13)] (fun i=>i==13) (by kernel_rfl) (by kernel_rfl) (by kernel_rfl) (by kernel_rfl) ?_
    iterate 2
     apply Flow.mv _ rfl
     ·intro a b;simp only[sqA,Act.eval,sqC];exact b
    iterate 4
     apply Flow.calm2 _ _ rfl rfl
     ·intro a b c d;obtain ⟨e,f⟩:=b.rule;go_simp;(try go_ints);exact d
     ·intro a b;simp only[sqA];exact b
    iterate 2
     apply Flow.mv _ rfl
     ·intro a b;simp only[sqA,Act.eval,sqC];exact b
    iterate 5
     apply Flow.calm2 _ _ rfl rfl
     ·intro a b c d;obtain ⟨e,f⟩:=b.rule;go_simp;(try go_ints);exact d
     ·intro a b;simp only[sqA];exact b
    refine Flow.tail _ rfl ?_;go_wp2_with fail;obtain ⟨wS,hwS⟩:=aH0 (((((w4.setCell ⟨w.heap.size+1+1,0,none⟩ (.int .i64 mx)).setCell ⟨w.heap.size+1+1,1,none⟩ (.int .i64 my)).setCell ⟨w.heap.size+1+1,0,none⟩ (.int .i64 mx)).setCell ⟨w.heap.size+1+1,1,none⟩ (.int .i64 my)).drew);have bS:Blk wS (w.heap.size+1+1) 143 #[mx,my]:=(by rw[hwS];exact ((((B4.out.set_ 0 _).set_ 1 _).set_ 0 _).set_ 1 _).drew);have hS:Bl w wS:=(by rw[hwS];exact (((((dM.out.trans Hb4.out).setCell (by show _≤_+1+1;omega) _).setCell (by show _≤_+1+1;omega) _).setCell (by show _≤_+1+1;omega) _).setCell (by show _≤_+1+1;omega) _).drew);rw[←hwS];have kF:=bS.all2;refine aIx (v:=.agg #[mx,my]) (by simp[results,Tryz.results136,go_sem,kF]) rfl ⟨by rw[←Hmx.out,←Hmy.out],hS⟩
theorem IF (f:Frm) (C:Option Addr) (cc:Nat) (cs:List Bool) (W H r:Nat) (w:World) (dW:Fits f W H r) (hr8:r≤8) (hF:FrmAt w f) (hC:Reads w 1 C (W*H) (cs.map .bool)) :
 Calls Tryz.prog 85 #[f.val,.agg #[W,H,.slice C (W*H) cc]] w fun e w'=>e=.returned (.agg #[.int .i64 (oY (PM f cs)),.int .i64 (oY (PN f cs))])∧Bl w w':=by
 have hfo:=fun (a:Anc) (BW BH:Nat) wx (q1:a.W=(BW:Int)) (q2:a.H=(BH:Int)) (q3:a.m=BW*BH) (q4:a.box.inP f.W f.H=true) hA hC=>KB f a C cc cs W H BW BH r wx dW.fW dW.fH dW.fr q1 q2 q3 hr8 dW.hW dW.hH q4 hA hC;have hat:=fun (a:Anc) (ha:a∈f.la)=>dW.at_ ha;have aCd:f.la.length≤10:=dW.hla;have hbx:=DO (cs:=cs) dW;have hby:=DP (cs:=cs) dW;obtain ⟨XS,hXS⟩:=aH0 (PM f cs);obtain ⟨YS,hYS⟩:=aH0 (PN f cs);rw[←hXS] at hbx;rw[←hYS] at hby
 rw[←hXS,←hYS];have hXl:XS.length=f.la.length:=(by rw[hXS];simp[PM]);have hYl:YS.length=f.la.length:=(by rw[hYS];simp[PN]);have HXt:=aHH (fun (i:Nat) (a:Anc) (hi:f.la[i]? = some a)=>show XS.take (i+1)=XS.take i++[(dD f cs a).1] by rw[hXS];exact vZ _ hi);have HYt:=aHH (fun (i:Nat) (a:Anc) (hi:f.la[i]? = some a)=>show YS.take (i+1)=YS.take i++[(dD f cs a).2.1] by rw[hYS];exact vZ _ hi);obtain ⟨nm,fW,fH,reach,dark,AL,ac,la,FL,fc,lf,RL,rc,lr⟩:=f;simp only at aCd hXl hYl;let w1:=(((w).alloc (.cells #[nm,fW,fH,reach,dark,.slice AL la.length ac,.slice FL lf.length fc,.slice RL lr.length rc] 26)).alloc (.cells #[W,H,.slice C (W*H) cc] 43)).alloc (.cells #[.int .i64 0,.int .i64 0] 143);obtain ⟨w1b,w11,w12,w13⟩:=aHQ (x:=w1) w _ _ _ _ _ _ rfl;obtain ⟨FA,hFA⟩:=aH0 (dD ⟨nm,fW,fH,reach,dark,AL,ac,la,FL,fc,lf,RL,rc,lr⟩ cs);rw[←hFA] at HXt HYt hfo;unfold Frm.val Anc.val at hfo;obtain ⟨Hfo,Hat,HFA,HC,Hbx,Hby,HXl,HYl⟩:=aHN hfo hat (hF.ancs.bl w1b) (hC.bl w1b) hbx hby hXl hYl;have k1:=w11.all8;have k2:=w12.all3;have dM:=aHH w1b;unfold Frm.val;clear hfo hat hF hC w1b hbx hby hFA hXS hYS hXl hYl dW
 go_in
 go_upto_region 1 with fail;rw[show ((w.alloc (.cells #[nm,fW,fH,reach,dark,.slice AL la.length ac,.slice FL lf.length fc,.slice RL lr.length rc] 26)).alloc (.cells #[W,H,.slice C (W*H) cc] 43)).alloc (.cells #[.int .i64 0,.int .i64 0] 143)=w1 from rfl];clear_value w1;go_wp2_with fail;go_loopw [5,6,13] (fun b5 b6 u wr=>∃i:Nat,i≤la.length∧u=.int .i64 i∧Bl w1 wr∧Two wr w1.heap.size 3 b5 i ((XS.take i).map (.int .i64)) b6 i ((YS.take i).map (.int .i64))) (fun _ _ u _=>la.length-(RowKit.intOf u).toNat);case atStart=>exact ⟨0,Nat.zero_le _,rfl,Bl.refl _,Two.nil _ _ _⟩
 case round=>
  obtain ⟨i,hi,rfl,hbr,htw⟩:=hrel;by_cases hlt:i<la.length
  ·have hg:la[i]? = some la[i]:=aH2 hlt;obtain ⟨a,ha2⟩:=aH0 (la[i]);rw[←ha2] at hg;obtain ⟨ad,e1,j1,j2,j3,j4,j5⟩:=(HFA.out.bl hbr).at_ hg;subst e1;obtain ⟨BW,BH,q1,q2,q3,q4,q5,q6,q7,q8⟩:=Hat.out a (List.mem_of_getElem? hg);have HAr:=aHH (HFA.out.2 a (List.mem_of_getElem? hg));have aAO:=fun wx hA hC=>Hfo.out a BW BH wx q1 q2 q3 q4 hA hC;have htx:=HXt.out _ _ hg;have hty:=HYt.out _ _ hg;obtain ⟨fx,hfx⟩:=aH0 ((FA a).1);obtain ⟨fy,hfy⟩:=aH0 ((FA a).2.1);obtain ⟨fn,hfn⟩:=aH0 ((FA a).2.2);rw[←hfx,←hfy,←hfn] at aAO;rw[←hfx] at htx;rw[←hfy] at hty;obtain ⟨Htx,Hty,HTw,Hbr,aEb⟩:=aHK htx hty htw hbr aAO;have k1:=(w11.bl hbr).all8;clear hg ha2 htx hty hfx hfy hfn htw hbr aAO q1 q2 q3 q4;go_upto_region 5 with fail;obtain ⟨w3,hw3⟩:=aH0 (wr.alloc (.cells #[a.W,a.H,.slice a.A a.m a.c,a.X,a.Y] 85));have b3:=aHV hw3;have hb3:=aHU hw3;rw[←hw3];have Hb3:=aHH (Hbr.out.trans hb3);have aG7:=aHH hb3;have k1:=(w11.bl Hb3.out).all8;have k2:=(w12.bl Hb3.out).all3;have k3:=b3.all5;clear hw3 b3 hb3 j1 j2 j3 j4 j5;go_upto_region 6 with (go_at_call 142;refine (aEb.out _ (HAr.out.bl Hb3.out) (HC.out.bl Hb3.out)).mono ?_;rintro e w4 ⟨rfl,hb4⟩);obtain ⟨w5,hw5⟩:=aH0 (w4.alloc (.cells #[fx,fy,fn] 87));have b5:=aHV hw5;have hb5:=aHU hw5;rw[←hw5];have aAW:=aHH (HTw.out.bl (aG7.out.trans hb4));have aEr:=aAW.out.bl hb5;have VK:=Hb3.out.trans (hb4.trans hb5);have hwr:=(Hb3.out.trans hb4).le;clear hw5 k1 k2 k3;refine pY (fun wx=>Bl w1 wx∧Blk wx (w4.heap.size) 87 #[fx,fy,fn]) [(true,0),(true,1),(true,2),(true,5),(true,6),(true,7)] (.one 3 [] (.one 4 [] (.one 8 [] (.one 9 [(true,10),(true,11)] .none .none) .none) (.one 8 [] (.one 4 [] (.one 9 [(true,10),(true,11)] .none .none) .none) .none)) (.one 8 [] (.one 3 [] (.one 4 [] (.one 9 [(true,10),(true,11)] .none .none) .none) .none) .none)) (by kernel_rfl) (by kernel_rfl) (by kernel_rfl) (by kernel_rfl) ⟨Bl.drew VK,(b5).drew⟩ ?_;obtain ⟨wxd,VU⟩:=aH0 ((w5).drew);have HBD:Bl w1 wxd:=(by rw[VU];exact Bl.drew VK);rw[←VU];have HKD:Blk wxd (w4.heap.size) 87 #[fx,fy,fn]:=(by rw[VU];exact (b5).drew);have HTD:=(aEr).bl (show Bl w5 wxd by rw[VU];exact Bl.drew (Bl.refl _));clear VU;apply FlowS.mv _ rfl
   ·intro a b;simp only[sqA,Act.eval,sqC];exact b
   iterate 2
    apply FlowS.calm2 _ _ rfl rfl
    ·intro w' hb' K' hK';obtain ⟨aAT,aAU⟩:=hb';obtain ⟨hc',hf'⟩:=aAT.rule;have kq':=aAU.all3;go_simp;try go_ints
     exact hK'
    ·intro a b;simp only[sqA];exact b
   apply FlowS.mv _ rfl
   ·intro a b;simp only[sqA,Act.eval,sqC];exact b
   iterate 2
    apply FlowS.calm2 _ _ rfl rfl
    ·intro w' hb' K' hK';obtain ⟨aAT,aAU⟩:=hb';obtain ⟨hc',hf'⟩:=aAT.rule;have kq':=aAU.all3;go_simp;try go_ints
     exact hK'
    ·intro a b;simp only[sqA];exact b
   refine Tree.fork ?_;refine Tree.part rfl ?_ ?_
   ·skip
    go_wp2_with fail;obtain ⟨wx3,EU⟩:=aH0 ((wxd).alloc (.cells #[fx] 3));have bk3:Blk wx3 (wxd).heap.size 3 #[fx]:=(by rw[EU];exact Blk.new _ _ _);have bb3:=aHU EU;rw[←EU];clear EU;have HB3:Bl w1 wx3:=(HBD).trans bb3;have bkK_3:=(HKD).bl bb3;have HT3:=(HTD).bl bb3;have LR:=bb3.le;refine ⟨⟨HB3,bkK_3⟩,?_⟩;refine Tree.fork ?_;refine Tree.part rfl ?_ ?_
    ·skip
     refine bA (w1:=w1) rfl (.tmp 21) (.tmp 24) 47 rfl 3 (.int .i64 0) 8 Tryz.underlying47 fJ rfl w1.heap.size u5 i _ _ _ _ rfl HT3 (wxd.heap.size) (.int .i64 fx) rfl bk3 rfl HB3 (Nat.le_refl _) (HB3).le (by omega) (by unfold maxLen;omega) ?_;intro vn4 wx4 HT4 HB4 aCm kk4;have bk3_4:Blk wx4 wxd.heap.size 3 #[fx]:=(kk4 _ (bk3).lt (fun he=>by
      have h:=(HTD.x.lt _ he).2;omega)).trans (bk3)
     have bkK_4:Blk wx4 (w4.heap.size) 87 #[fx,fy,fn]:=(kk4 _ (bkK_3).lt (fun he=>by
      have h:=((aAW.out).x.lt _ he).2;omega)).trans (bkK_3)
     go_wp2_with fail;refine ⟨⟨HB4,bkK_4⟩,?_⟩;refine Tree.fork ?_;refine Tree.part rfl ?_ ?_
     ·skip
      go_wp2_with fail;obtain ⟨wx8,sU⟩:=aH0 ((wx4).alloc (.cells #[fy] 3));have bk8:Blk wx8 (wx4).heap.size 3 #[fy]:=(by rw[sU];exact Blk.new _ _ _);have bb8:=aHU sU;rw[←sU];clear sU;have HB8:Bl w1 wx8:=(HB4).trans bb8;have bk3_8:=(bk3_4).bl bb8;have bkK_8:=(bkK_4).bl bb8;have HT8:=(HT4).bl bb8;have YL:=bb8.le;refine ⟨⟨HB8,bkK_8⟩,?_⟩;refine Tree.fork ?_;refine Tree.last rfl ?_ ?_
      ·skip
       refine bA (w1:=w1) rfl (.tmp 26) (.tmp 29) 47 rfl 3 (.int .i64 0) 8 Tryz.underlying47 fJ rfl w1.heap.size u6 i _ _ _ _ rfl (HT8).swap (wx4.heap.size) (.int .i64 fy) rfl bk8 rfl HB8 (Nat.le_refl _) (HB8).le (by omega) (by unfold maxLen;omega) ?_;intro vn9 wx9 HT9 HB9 aCn kk9
       replace HT9:=HT9.swap
       have bk3_9:Blk wx9 wxd.heap.size 3 #[fx]:=(kk9 _ (bk3_8).lt (fun he=>by
        have h:=(HTD.y.lt _ he).2;omega)).trans (bk3_8)
       have bk8_9:Blk wx9 wx4.heap.size 3 #[fy]:=(kk9 _ (bk8).lt (fun he=>by
        have h:=(HTD.y.lt _ he).2;omega)).trans (bk8)
       have bkK_9:Blk wx9 (w4.heap.size) 87 #[fx,fy,fn]:=(kk9 _ (bkK_8).lt (fun he=>by
        have h:=((aAW.out).y.lt _ he).2;omega)).trans (bkK_8)
       go_wp2_with fail;refine ⟨⟨HB9,bkK_9⟩,?_⟩
       iterate 2
        apply FlowS.asg _ rfl
        ·intro a b;simp only[sqA,Act.eval,sqC];exact b
       refine FlowS.done ?_;go_wp2_with fail;exact ⟨⟨i+1,hlt,by go_num,HB9,by rw[Htx.out,Hty.out,aIp,aIp];exact HT9⟩,by simp[RowKit.intOf];omega⟩
      exact Tree.nil
     exact Tree.nil
    refine Tree.part rfl ?_ ?_
    ·skip
     go_wp2_with fail;obtain ⟨wx8,sU⟩:=aH0 ((wx3).alloc (.cells #[fy] 3));have bk8:Blk wx8 (wx3).heap.size 3 #[fy]:=(by rw[sU];exact Blk.new _ _ _);have bb8:=aHU sU;rw[←sU];clear sU;have HB8:Bl w1 wx8:=(HB3).trans bb8;have bk3_8:=(bk3).bl bb8;have bkK_8:=(bkK_3).bl bb8;have HT8:=(HT3).bl bb8;have YL:=bb8.le;refine ⟨⟨HB8,bkK_8⟩,?_⟩;refine Tree.fork ?_;refine Tree.part rfl ?_ ?_
     ·skip
      refine bA (w1:=w1) rfl (.tmp 21) (.tmp 24) 47 rfl 3 (.int .i64 0) 8 Tryz.underlying47 fJ rfl w1.heap.size u5 i _ _ _ _ rfl HT8 (wxd.heap.size) (.int .i64 fx) rfl bk3_8 rfl HB8 (Nat.le_refl _) (HB8).le (by omega) (by unfold maxLen;omega) ?_;intro vn4 wx4 HT4 HB4 aCm kk4;have bk3_4:Blk wx4 wxd.heap.size 3 #[fx]:=(kk4 _ (bk3_8).lt (fun he=>by
       have h:=(HTD.x.lt _ he).2;omega)).trans (bk3_8)
      have bk8_4:Blk wx4 wx3.heap.size 3 #[fy]:=(kk4 _ (bk8).lt (fun he=>by
       have h:=(HTD.x.lt _ he).2;omega)).trans (bk8)
      have bkK_4:Blk wx4 (w4.heap.size) 87 #[fx,fy,fn]:=(kk4 _ (bkK_8).lt (fun he=>by
       have h:=((aAW.out).x.lt _ he).2;omega)).trans (bkK_8)
      go_wp2_with fail;refine ⟨⟨HB4,bkK_4⟩,?_⟩;refine Tree.fork ?_;refine Tree.last rfl ?_ ?_
      ·skip
       refine bA (w1:=w1) rfl (.tmp 26) (.tmp 29) 47 rfl 3 (.int .i64 0) 8 Tryz.underlying47 fJ rfl w1.heap.size u6 i _ _ _ _ rfl (HT4).swap (wx3.heap.size) (.int .i64 fy) rfl bk8_4 rfl HB4 (Nat.le_refl _) (HB4).le (by omega) (by unfold maxLen;omega) ?_;intro vn9 wx9 HT9 HB9 aCn kk9
       replace HT9:=HT9.swap
       have bk3_9:Blk wx9 wxd.heap.size 3 #[fx]:=(kk9 _ (bk3_4).lt (fun he=>by
        have h:=(HTD.y.lt _ he).2;omega)).trans (bk3_4)
       have bk8_9:Blk wx9 wx3.heap.size 3 #[fy]:=(kk9 _ (bk8_4).lt (fun he=>by
        have h:=(HTD.y.lt _ he).2;omega)).trans (bk8_4)
       have bkK_9:Blk wx9 (w4.heap.size) 87 #[fx,fy,fn]:=(kk9 _ (bkK_4).lt (fun he=>by
        have h:=((aAW.out).y.lt _ he).2;omega)).trans (bkK_4)
       go_wp2_with fail;refine ⟨⟨HB9,bkK_9⟩,?_⟩
       iterate 2
        apply FlowS.asg _ rfl
        ·intro a b;simp only[sqA,Act.eval,sqC];exact b
       refine FlowS.done ?_;go_wp2_with fail;exact ⟨⟨i+1,hlt,by go_num,HB9,by rw[Htx.out,Hty.out,aIp,aIp];exact HT9⟩,by simp[RowKit.intOf];omega⟩
      exact Tree.nil
     exact Tree.nil
    exact Tree.nil
   refine Tree.part rfl ?_ ?_
   ·skip
    go_wp2_with fail;obtain ⟨wx8,sU⟩:=aH0 ((wxd).alloc (.cells #[fy] 3));have bk8:Blk wx8 (wxd).heap.size 3 #[fy]:=(by rw[sU];exact Blk.new _ _ _);have bb8:=aHU sU;rw[←sU];clear sU;have HB8:Bl w1 wx8:=(HBD).trans bb8;have bkK_8:=(HKD).bl bb8;have HT8:=(HTD).bl bb8;have YL:=bb8.le;refine ⟨⟨HB8,bkK_8⟩,?_⟩;refine Tree.fork ?_;refine Tree.part rfl ?_ ?_
    ·skip
     go_wp2_with fail;obtain ⟨wx3,EU⟩:=aH0 ((wx8).alloc (.cells #[fx] 3));have bk3:Blk wx3 (wx8).heap.size 3 #[fx]:=(by rw[EU];exact Blk.new _ _ _);have bb3:=aHU EU;rw[←EU];clear EU;have HB3:Bl w1 wx3:=(HB8).trans bb3;have bk8_3:=(bk8).bl bb3;have bkK_3:=(bkK_8).bl bb3;have HT3:=(HT8).bl bb3;have LR:=bb3.le;refine ⟨⟨HB3,bkK_3⟩,?_⟩;refine Tree.fork ?_;refine Tree.part rfl ?_ ?_
     ·skip
      refine bA (w1:=w1) rfl (.tmp 21) (.tmp 24) 47 rfl 3 (.int .i64 0) 8 Tryz.underlying47 fJ rfl w1.heap.size u5 i _ _ _ _ rfl HT3 (wx8.heap.size) (.int .i64 fx) rfl bk3 rfl HB3 (Nat.le_refl _) (HB3).le (by omega) (by unfold maxLen;omega) ?_;intro vn4 wx4 HT4 HB4 aCm kk4;have bk8_4:Blk wx4 wxd.heap.size 3 #[fy]:=(kk4 _ (bk8_3).lt (fun he=>by
       have h:=(HTD.x.lt _ he).2;omega)).trans (bk8_3)
      have bk3_4:Blk wx4 wx8.heap.size 3 #[fx]:=(kk4 _ (bk3).lt (fun he=>by
       have h:=(HTD.x.lt _ he).2;omega)).trans (bk3)
      have bkK_4:Blk wx4 (w4.heap.size) 87 #[fx,fy,fn]:=(kk4 _ (bkK_3).lt (fun he=>by
       have h:=((aAW.out).x.lt _ he).2;omega)).trans (bkK_3)
      go_wp2_with fail;refine ⟨⟨HB4,bkK_4⟩,?_⟩;refine Tree.fork ?_;refine Tree.last rfl ?_ ?_
      ·skip
       refine bA (w1:=w1) rfl (.tmp 26) (.tmp 29) 47 rfl 3 (.int .i64 0) 8 Tryz.underlying47 fJ rfl w1.heap.size u6 i _ _ _ _ rfl (HT4).swap (wxd.heap.size) (.int .i64 fy) rfl bk8_4 rfl HB4 (Nat.le_refl _) (HB4).le (by omega) (by unfold maxLen;omega) ?_;intro vn9 wx9 HT9 HB9 aCn kk9
       replace HT9:=HT9.swap
       have bk8_9:Blk wx9 wxd.heap.size 3 #[fy]:=(kk9 _ (bk8_4).lt (fun he=>by
        have h:=(HTD.y.lt _ he).2;omega)).trans (bk8_4)
       have bk3_9:Blk wx9 wx8.heap.size 3 #[fx]:=(kk9 _ (bk3_4).lt (fun he=>by
        have h:=(HTD.y.lt _ he).2;omega)).trans (bk3_4)
       have bkK_9:Blk wx9 (w4.heap.size) 87 #[fx,fy,fn]:=(kk9 _ (bkK_4).lt (fun he=>by
        have h:=((aAW.out).y.lt _ he).2;omega)).trans (bkK_4)
       go_wp2_with fail;refine ⟨⟨HB9,bkK_9⟩,?_⟩
       iterate 2
        apply FlowS.asg _ rfl
        ·intro a b;simp only[sqA,Act.eval,sqC];exact b
       refine FlowS.done ?_;go_wp2_with fail;exact ⟨⟨i+1,hlt,by go_num,HB9,by rw[Htx.out,Hty.out,aIp,aIp];exact HT9⟩,by simp[RowKit.intOf];omega⟩
      exact Tree.nil
     exact Tree.nil
    exact Tree.nil
   exact Tree.nil
  ·obtain rfl:i=la.length:=(by omega);rw[aID (by rw[HXl.out];exact Nat.le_refl _),aID (by rw[HYl.out];exact Nat.le_refl _)] at htw;have HTw:=aHH htw;have Hbr:=aHH hbr;have B13:=aHH (w13.bl Hbr.out);clear hbr;by_cases hn:la.length=0
   ·have hx:=htw.x;obtain ⟨A5,c5,rfl,-⟩:=bL hx;obtain ⟨A6,c6,rfl,-⟩:=bL htw.y;have k3:=B13.out.all2;have hXn:XS=[]:=List.eq_nil_of_length_eq_zero (by rw[HXl.out,hn]);have hYn:YS=[]:=List.eq_nil_of_length_eq_zero (by rw[HYl.out,hn]);have HX:=aHH (show oY XS=0 by rw[hXn,vV]);have HY:=aHH (show oY YS=0 by rw[hYn,vV]);clear htw hx hXn hYn;go_wp2_with fail;obtain ⟨wS,hwS⟩:=aH0 ((wr.setCell ⟨w.heap.size+1+1,0,none⟩ (.int .i64 0)).setCell ⟨w.heap.size+1+1,1,none⟩ (.int .i64 0));have bS:Blk wS (w.heap.size+1+1) 143 #[.int .i64 0,.int .i64 0]:=(by rw[hwS];exact (B13.out.set_ 0 _).set_ 1 _);have hS:Bl w wS:=(by rw[hwS];exact ((dM.out.trans Hbr.out).setCell (by show _≤_+1+1;omega) _).setCell (by show _≤_+1+1;omega) _);rw[←hwS];have kF:=bS.all2;refine aIx (v:=.agg #[.int .i64 0,.int .i64 0]) (by simp[results,Tryz.results85,go_sem,kF]) rfl ⟨by rw[HX.out,HY.out],hS⟩
   ·have hn0:0<la.length:=Nat.pos_of_ne_zero hn;have hx:=htw.x;have hy:=htw.y;have hne:=htw.ne;rcases hx.2 with ⟨-,h0⟩|⟨g,cx,cur,rfl,hgB,hgh,hcx,-⟩
    ·exact absurd h0 hn
    rcases hy.2 with ⟨-,h0⟩|⟨g2,cy,cur2,rfl,aCo,aEs,hcy,-⟩
    ·exact absurd h0 hn
    have hg2:g2≠g:=fun e=>hne g rfl (by rw[e];rfl);have hlx:=(hx.lt g rfl).2;have hly:=(hy.lt g2 rfl).2;have Hx:=aHH hx;have Hy:=aHH hy;have hs1:=rR w1.heap.size g cx 3 XS wr (by rw[HXl.out];exact hx) (by rw[HXl.out];omega);rw[HXl.out] at hs1;obtain ⟨Hs1,HgB,aEt,Hlx,Hly,Hg2,Hn0⟩:=aHM hs1 hgB aCo hlx hly hg2 hn0;have aG6:=B13.out.lt;have aEu:=w13.lt;clear htw hx hy hne hgh aEs hs1 hgB aCo hlx hly hg2;go_wp2_with fail;refine Hs1.out.mono ?_;rintro e w3 ⟨rfl,hr3,LR,hk3,YG⟩;obtain ⟨Hr3,Hk3,Hb3,aEv⟩:=aHJ hr3 hk3 (YG w1 Hbr.out HgB.out) LR;have hy3:=NF Hy.out (hk3 g2 Hly.out Hg2.out);have aAV:=rR w1.heap.size g2 cy 3 YS w3 (by rw[HYl.out];exact hy3) (by rw[HYl.out];omega);rw[HYl.out] at aAV;have Hs2:=aHH aAV;clear hr3 hk3 YG hy3 aAV LR;go_wp2_with fail;refine Hs2.out.mono ?_;rintro e w4 ⟨rfl,hr4,-,hk4,aCp⟩;have hb4:=aCp w1 Hb3.out aEt.out;have Hb4:=aHH hb4;have hr5:=BV Hr3.out (hk4 g (Nat.lt_of_lt_of_le Hlx.out aEv.out) (fun e=>Hg2.out e.symm));rw[←HXl.out] at hr5;rw[←HYl.out] at hr4;have kx:=v7 (by rw[HXl.out];exact Hn0.out) hr5;have ky:=v7 (by rw[HYl.out];exact Hn0.out) hr4;rw[HXl.out] at kx;rw[HYl.out] at ky;have B4:=aHH (w13.bl hb4);have k3:=B4.out.all2;obtain ⟨lm,hlm⟩:=aH0 (la.length-1);obtain ⟨mi,hmi⟩:=aH0 (lm / 2);rw[←hlm,←hmi] at kx ky;have hoi:((la.length:Int)-1)=(lm:Int):=(by omega);have hoj:((lm:Int) / 2)=(mi:Int):=(by omega);have hok:(lm:Int).tdiv 2=(mi:Int):=(by rw[Int.tdiv_eq_ediv_of_nonneg (by omega)];exact hoj);have hml:(mi:Int)<(la.length:Int):=(by omega);have hmc:(mi:Int)<(cx:Int)∧(mi:Int)<(cy:Int):=(by omega);obtain ⟨mx,hmx⟩:=aH0 (oY XS);obtain ⟨my,hmy⟩:=aH0 (oY YS);rw[←hmx] at kx;rw[←hmy] at ky;have Hmx:=aHH hmx;have Hmy:=aHH hmy;clear hr4 hk4 aCp hb4 hr5 hlm hmi hmx hmy;go_upto_region 12 with fail;refine aA [(true,0),(true,1),(true,2),(true,3),(true,4),(true,5),(true,6),(true,7),(true,8),(true,9),(true,10),(true,11),(true,12),(true,13),(true,14),(false,15)] (fun i=>i==15) (by kernel_rfl) (by kernel_rfl) (by kernel_rfl) (by kernel_rfl) ?_
    iterate 2
     apply Flow.mv _ rfl
     ·intro a b;simp only[sqA,Act.eval,sqC];exact b
    iterate 5
     apply Flow.calm2 _ _ rfl rfl
     ·intro a b c d;obtain ⟨e,f⟩:=b.rule;go_simp;(try go_ints);exact d
     ·intro a b;simp only[sqA];exact b
    iterate 2
     apply Flow.mv _ rfl
     ·intro a b;simp only[sqA,Act.eval,sqC];exact b
    iterate 6
     apply Flow.calm2 _ _ rfl rfl
     ·intro a b c d;obtain ⟨e,f⟩:=b.rule;go_simp;(try go_ints);exact d
     ·intro a b;simp only[sqA];exact b
    refine Flow.tail _ rfl ?_;go_wp2_with fail;obtain ⟨wS,hwS⟩:=aH0 (((w4.setCell ⟨w.heap.size+1+1,0,none⟩ (.int .i64 mx)).setCell ⟨w.heap.size+1+1,1,none⟩ (.int .i64 my)).drew);have bS:Blk wS (w.heap.size+1+1) 143 #[mx,my]:=(by rw[hwS];exact ((B4.out.set_ 0 _).set_ 1 _).drew);have hS:Bl w wS:=(by rw[hwS];exact (((dM.out.trans Hb4.out).setCell (by show _≤_+1+1;omega) _).setCell (by show _≤_+1+1;omega) _).drew);rw[←hwS];have kF:=bS.all2;refine aIx (v:=.agg #[mx,my]) (by simp[results,Tryz.results85,go_sem,kF]) rfl ⟨by rw[←Hmx.out,←Hmy.out],hS⟩
end Go.Proofs.YtllefinciimffaaGreatDoor
