import Derived.Test.YtllefinciimffaaGreatDoorMClaimTopForms24
set_option maxHeartbeats 20000000
set_option maxRecDepth 100000
namespace Go.Proofs.YtllefinciimffaaGreatDoor
open Go.RowKit Go.Shelf
theorem nN:(Tryz.prog.info? 3).map (fun i=>(i.zero,i.size,i.bytes))=some (some (.int .i64 0),1,8):=by kernel_rfl
theorem aDk {f:Frm} {cs:List Bool} {w:World} {A:Option Addr} {i:Nat} {a:Anc} (h:Reads w 3 A f.la.length (f.la.flatMap (jF f cs))) (hi:f.la[i]? = some a):∃ad,A=some ad∧w.cell? (ad.add (i*3))=some (.int .i64 (dM f cs a).1)∧w.cell? ⟨(ad.add (i*3)).block,(ad.add (i*3)).off+1,none⟩=some (.int .i64 (dM f cs a).2.1) ∧
 w.cell? ⟨(ad.add (i*3)).block,(ad.add (i*3)).off+2,none⟩=some (.int .i64 (dM f cs a).2.2):=by
 obtain ⟨ad,e,key⟩:=gM (jF f cs) 3 (fun _=>rfl) h hi;have k0:=key 0 _ (by omega) rfl;have k1:=key 1 _ (by omega) rfl;have k2:=key 2 _ (by omega) rfl;rw[Addr.add_zero'] at k0;rw[Addr.add_succ'] at k1 k2;exact ⟨ad,e,k0,k1,k2⟩
theorem PC {α β:Type} (f:α→β) {l:List α} {i:Nat} {a:α} (h:l[i]? = some a):(l.map f).take (i+1)=(l.map f).take i++[f a]:=by
 refine eI ?_;rw[aLG,h];rfl
theorem XB {w w':World} {g:Nat} (h:w'.heap[g]? = w.heap[g]?) (j:Nat):w'.cell? ⟨g,j,none⟩=w.cell? ⟨g,j,none⟩:=by simp only[World.cell?,h]
theorem S4 {w w':World} {g n:Nat} {xs:List Value} (h:Reads w 1 (some ⟨g,0,none⟩) n xs) (hb:w'.heap[g]? = w.heap[g]?):Reads w' 1 (some ⟨g,0,none⟩) n xs:=by
 refine ⟨h.1,fun hk => ?_⟩;obtain ⟨ad,e,hc⟩:=h.2 hk;obtain rfl:=aLZ e;refine ⟨_,rfl,fun j u hu => ?_⟩;have:=hc j u hu;rw[Addr.add_lit] at this ⊢;rw[XB hb];exact this
theorem aA6 {w w':World} {B g n cap:Nat} {T:TypeId} {xs:List Value} (h:w.ownsRow B T 1 (.slice (some ⟨g,0,none⟩) n cap) n xs) (hb:w'.heap[g]? = w.heap[g]?):w'.ownsRow B T 1 (.slice (some ⟨g,0,none⟩) n cap) n xs:=by
 refine ⟨h.1,?_⟩;rcases h.2 with ⟨h1,-⟩|⟨g',cap',cur,e,r1,r2,r3⟩
 ·cases h1
 ·injection e with e1 e2 e3;obtain rfl:g=g':=(by injection e1 with e1;injection e1);exact .inr ⟨g,cap',cur,by rw[e3],r1,hb.trans r2,r3⟩
theorem PD {w:World} {g:Nat} {l:List Int} (h:0<l.length) (hr:Reads w 1 (some ⟨g,0,none⟩) l.length ((nE l).map (.int .i64))):w.cell? ⟨g,(l.length-1) / 2,none⟩=some (.int .i64 (uC l)):=by
 obtain ⟨ad,e,hc⟩:=hr.2 h;obtain rfl:=aLZ e;have:=hc ((l.length-1) / 2) (.int .i64 (uC l)) (by rw[aLG,WC h];rfl);rw[Addr.add_lit,Nat.zero_add] at this;exact this
theorem S5 (f:Frm) (C:Option Addr) (cc:Nat) (cs:List Bool) (W H r:Nat) (w:World) (cM:Fits f W H r) (hF:FrmAt w f) (hC:Reads w 1 C (W*H) (cs.map .bool)) :
 Calls Tryz.prog 136 #[f.val,.agg #[W,H,.slice C (W*H) cc]] w fun e w'=>e=.returned (.agg #[.int .i64 (uC (ZV f cs)),.int .i64 (uC (ZW f cs))])∧Bl w w':=by
 have han:=fun wx hF hC=>zM f C cc cs W H r wx cM hF hC;have aFc:f.la.length≤10:=cM.hla;have hbx:=WA (cs:=cs) cM;have hby:=WB (cs:=cs) cM;obtain ⟨XS,hXS⟩:=aLt (ZV f cs);obtain ⟨YS,hYS⟩:=aLt (ZW f cs);rw[←hXS] at hbx;rw[←hYS] at hby
 rw[←hXS,←hYS];have hXl:XS.length=f.la.length:=(by rw[hXS];simp[ZV]);have hYl:YS.length=f.la.length:=(by rw[hYS];simp[ZW]);obtain ⟨HFn,HXt,HYt⟩:=aLb (fun (wx:World) (A:Option Addr) (i:Nat) (a:Anc) (h:Reads wx 3 A f.la.length (f.la.flatMap (jF f cs))) (hi:f.la[i]? = some a)=>aDk h hi) (fun (i:Nat) (a:Anc) (hi:f.la[i]? = some a)=>show XS.take (i+1)=XS.take i++[(dM f cs a).1] by rw[hXS];exact PC _ hi) (fun (i:Nat) (a:Anc) (hi:f.la[i]? = some a)=>show YS.take (i+1)=YS.take i++[(dM f cs a).2.1] by rw[hYS];exact PC _ hi);obtain ⟨nm,fW,fH,reach,dark,AL,ac,la,FL,fc,lf,RL,rc,lr⟩:=f;simp only at aFc hXl hYl;let w1:=(((w).alloc (.cells #[nm,fW,fH,reach,dark,.slice AL la.length ac,.slice FL lf.length fc,.slice RL lr.length rc] 26)).alloc (.cells #[W,H,.slice C (W*H) cc] 43)).alloc (.cells #[.int .i64 0,.int .i64 0] 143);obtain ⟨w1b,w11,w12,w13⟩:=aLj (x:=w1) w _ _ _ _ _ _ rfl;obtain ⟨FC,hFC⟩:=aLt (jF ⟨nm,fW,fH,reach,dark,AL,ac,la,FL,fc,lf,RL,rc,lr⟩ cs);obtain ⟨FA,hFA⟩:=aLt (dM ⟨nm,fW,fH,reach,dark,AL,ac,la,FL,fc,lf,RL,rc,lr⟩ cs);rw[←hFC] at han;rw[←hFC,←hFA] at HFn;rw[←hFA] at HXt HYt;unfold Frm.val at han;obtain ⟨Han,HF,HC,Hbx,Hby,HXl,HYl⟩:=aLf han (hF.bl w1b) (hC.bl w1b) hbx hby hXl hYl;have k1:=w11.all8;have k2:=w12.all3;have dV:=aLa w1b;unfold Frm.val;clear han hF hC w1b hbx hby hFC hFA hXS hYS hXl hYl cM
 go_in
 go_upto_region 1 with fail;rw[show ((w.alloc (.cells #[nm,fW,fH,reach,dark,.slice AL la.length ac,.slice FL lf.length fc,.slice RL lr.length rc] 26)).alloc (.cells #[W,H,.slice C (W*H) cc] 43)).alloc (.cells #[.int .i64 0,.int .i64 0] 143)=w1 from rfl];clear_value w1;go_wp2_with fail;refine (Han.out w1 HF.out HC.out).mono ?_;rintro e w2 ⟨A,c,rfl,hra,hb2⟩;have Hra:=aLa hra;have Hb2:=aLa hb2;have hs2:=hb2.le;clear hra hb2 k1 k2;go_wp2_with fail;go_loopw [5,6,14] (fun b5 b6 u wr=>∃i:Nat,i≤la.length∧u=.int .i64 i∧Bl w2 wr∧Two wr w2.heap.size 3 b5 i ((XS.take i).map (.int .i64)) b6 i ((YS.take i).map (.int .i64))) (fun _ _ u _=>la.length-(RowKit.intOf u).toNat);case atStart=>exact ⟨0,Nat.zero_le _,rfl,Bl.refl _,Two.nil _ _ _⟩
 case round=>
  obtain ⟨i,hi,rfl,hbr,htw⟩:=hrel;by_cases hlt:i<la.length
  ·have hg:la[i]? = some la[i]:=aLv hlt;obtain ⟨a,ha2⟩:=aLt (la[i]);rw[←ha2] at hg;obtain ⟨ad,e1,j1,j2,j3⟩:=HFn.out _ _ _ _ (Hra.out.bl hbr) hg;subst e1;have htx:=HXt.out _ _ hg;have hty:=HYt.out _ _ hg;obtain ⟨fx,hfx⟩:=aLt ((FA a).1);obtain ⟨fy,hfy⟩:=aLt ((FA a).2.1);obtain ⟨fn,hfn⟩:=aLt ((FA a).2.2);rw[←hfx] at htx j1;rw[←hfy] at hty j2;rw[←hfn] at j3;obtain ⟨Htx,Hty,HTw,Hbr⟩:=aLc htx hty htw hbr;clear hg ha2 htx hty hfx hfy hfn htw hbr;go_upto_region 5 with fail;obtain ⟨w5,hw5⟩:=aLt (wr.alloc (.cells #[fx,fy,fn] 87));have b5:=aLo hw5;have hb5:=aLn hw5;rw[←hw5];have aKm:=HTw.out.bl hb5;have aEX:=Hbr.out.trans hb5;have b5b:Blk w5 wr.heap.size 87 #[fx,fy,fn]:=b5;have kf:=b5.all3;have kfx:∀wx,Bl w5 wx→wx.cell? ⟨wr.heap.size,0,none⟩=some (.int .i64 fx):=fun wx h=>(b5.bl h).all3.1;have hwr:=Hbr.out.le;clear hw5 j1 j2 j3;refine rI (fun wx=>Bl w2 wx∧Blk wx (wr.heap.size) 87 #[fx,fy,fn]) [(true,0),(true,1),(true,2),(true,5),(true,6),(true,7)] (.one 3 [] (.one 4 [] (.one 8 [] (.one 9 [(true,10),(true,11)] .none .none) .none) (.one 8 [] (.one 4 [] (.one 9 [(true,10),(true,11)] .none .none) .none) .none)) (.one 8 [] (.one 3 [] (.one 4 [] (.one 9 [(true,10),(true,11)] .none .none) .none) .none) .none)) (by kernel_rfl) (by kernel_rfl) (by kernel_rfl) (by kernel_rfl) ⟨Bl.drew aEX,(b5).drew⟩ ?_;obtain ⟨wxd,aBQ⟩:=aLt ((w5).drew);have HBD:Bl w2 wxd:=(by rw[aBQ];exact Bl.drew aEX);rw[←aBQ];have HKD:Blk wxd (wr.heap.size) 87 #[fx,fy,fn]:=(by rw[aBQ];exact (b5).drew);have HTD:=(aKm).bl (show Bl w5 wxd by rw[aBQ];exact Bl.drew (Bl.refl _));clear aBQ;apply FlowS.mv _ rfl
   ·intro a b;simp only[sqA,Act.eval,sqC];exact b
   iterate 2
    apply FlowS.calm2 _ _ rfl rfl
    ·intro w' hb' K' hK';obtain ⟨aHu,aHv⟩:=hb';obtain ⟨hc',hf'⟩:=aHu.rule;have kq':=aHv.all3;go_simp;try go_ints
     exact hK'
    ·intro a b;simp only[sqA];exact b
   apply FlowS.mv _ rfl
   ·intro a b;simp only[sqA,Act.eval,sqC];exact b
   iterate 2
    apply FlowS.calm2 _ _ rfl rfl
    ·intro w' hb' K' hK';obtain ⟨aHu,aHv⟩:=hb';obtain ⟨hc',hf'⟩:=aHu.rule;have kq':=aHv.all3;go_simp;try go_ints
     exact hK'
    ·intro a b;simp only[sqA];exact b
   refine Tree.fork ?_;refine Tree.part rfl ?_ ?_
   ·skip
    go_wp2_with fail;obtain ⟨wx3,aBR⟩:=aLt ((wxd).alloc (.cells #[fx] 3));have bk3:Blk wx3 (wxd).heap.size 3 #[fx]:=(by rw[aBR];exact Blk.new _ _ _);have bb3:=aLn aBR;rw[←aBR];clear aBR;have HB3:Bl w2 wx3:=(HBD).trans bb3;have bkK_3:=(HKD).bl bb3;have HT3:=(HTD).bl bb3;have N2:=bb3.le;refine ⟨⟨HB3,bkK_3⟩,?_⟩;refine Tree.fork ?_;refine Tree.part rfl ?_ ?_
    ·skip
     refine dK (w1:=w2) rfl (.tmp 18) (.tmp 21) 47 rfl 3 (.int .i64 0) 8 Tryz.underlying47 nN rfl w2.heap.size u5 i _ _ _ _ rfl HT3 (wxd.heap.size) (.int .i64 fx) rfl bk3 rfl HB3 (Nat.le_refl _) (HB3).le (by omega) (by unfold maxLen;omega) ?_;intro vn4 wx4 HT4 HB4 aGi kk4;have bk3_4:Blk wx4 wxd.heap.size 3 #[fx]:=(kk4 _ (bk3).lt (fun he=>by
      have h:=(HTD.x.lt _ he).2;omega)).trans (bk3)
     have bkK_4:Blk wx4 (wr.heap.size) 87 #[fx,fy,fn]:=(kk4 _ (bkK_3).lt (fun he=>by
      have h:=((HTw.out).x.lt _ he).2;omega)).trans (bkK_3)
     go_wp2_with fail;refine ⟨⟨HB4,bkK_4⟩,?_⟩;refine Tree.fork ?_;refine Tree.part rfl ?_ ?_
     ·skip
      go_wp2_with fail;obtain ⟨wx8,xR⟩:=aLt ((wx4).alloc (.cells #[fy] 3));have bk8:Blk wx8 (wx4).heap.size 3 #[fy]:=(by rw[xR];exact Blk.new _ _ _);have bb8:=aLn xR;rw[←xR];clear xR;have HB8:Bl w2 wx8:=(HB4).trans bb8;have bk3_8:=(bk3_4).bl bb8;have bkK_8:=(bkK_4).bl bb8;have HT8:=(HT4).bl bb8;have aGe:=bb8.le;refine ⟨⟨HB8,bkK_8⟩,?_⟩;refine Tree.fork ?_;refine Tree.last rfl ?_ ?_
      ·skip
       refine dK (w1:=w2) rfl (.tmp 23) (.tmp 26) 47 rfl 3 (.int .i64 0) 8 Tryz.underlying47 nN rfl w2.heap.size u6 i _ _ _ _ rfl (HT8).swap (wx4.heap.size) (.int .i64 fy) rfl bk8 rfl HB8 (Nat.le_refl _) (HB8).le (by omega) (by unfold maxLen;omega) ?_;intro vn9 wx9 HT9 HB9 aIK kk9
       replace HT9:=HT9.swap
       have bk3_9:Blk wx9 wxd.heap.size 3 #[fx]:=(kk9 _ (bk3_8).lt (fun he=>by
        have h:=(HTD.y.lt _ he).2;omega)).trans (bk3_8)
       have bk8_9:Blk wx9 wx4.heap.size 3 #[fy]:=(kk9 _ (bk8).lt (fun he=>by
        have h:=(HTD.y.lt _ he).2;omega)).trans (bk8)
       have bkK_9:Blk wx9 (wr.heap.size) 87 #[fx,fy,fn]:=(kk9 _ (bkK_8).lt (fun he=>by
        have h:=((HTw.out).y.lt _ he).2;omega)).trans (bkK_8)
       go_wp2_with fail;refine ⟨⟨HB9,bkK_9⟩,?_⟩
       iterate 2
        apply FlowS.asg _ rfl
        ·intro a b;simp only[sqA,Act.eval,sqC];exact b
       refine FlowS.done ?_;go_wp2_with fail;exact ⟨⟨i+1,hlt,by go_num,HB9,by rw[Htx.out,Hty.out,aLS,aLS];exact HT9⟩,by simp[RowKit.intOf];omega⟩
      exact Tree.nil
     exact Tree.nil
    refine Tree.part rfl ?_ ?_
    ·skip
     go_wp2_with fail;obtain ⟨wx8,xR⟩:=aLt ((wx3).alloc (.cells #[fy] 3));have bk8:Blk wx8 (wx3).heap.size 3 #[fy]:=(by rw[xR];exact Blk.new _ _ _);have bb8:=aLn xR;rw[←xR];clear xR;have HB8:Bl w2 wx8:=(HB3).trans bb8;have bk3_8:=(bk3).bl bb8;have bkK_8:=(bkK_3).bl bb8;have HT8:=(HT3).bl bb8;have aGe:=bb8.le;refine ⟨⟨HB8,bkK_8⟩,?_⟩;refine Tree.fork ?_;refine Tree.part rfl ?_ ?_
     ·skip
      refine dK (w1:=w2) rfl (.tmp 18) (.tmp 21) 47 rfl 3 (.int .i64 0) 8 Tryz.underlying47 nN rfl w2.heap.size u5 i _ _ _ _ rfl HT8 (wxd.heap.size) (.int .i64 fx) rfl bk3_8 rfl HB8 (Nat.le_refl _) (HB8).le (by omega) (by unfold maxLen;omega) ?_;intro vn4 wx4 HT4 HB4 aGi kk4;have bk3_4:Blk wx4 wxd.heap.size 3 #[fx]:=(kk4 _ (bk3_8).lt (fun he=>by
       have h:=(HTD.x.lt _ he).2;omega)).trans (bk3_8)
      have bk8_4:Blk wx4 wx3.heap.size 3 #[fy]:=(kk4 _ (bk8).lt (fun he=>by
       have h:=(HTD.x.lt _ he).2;omega)).trans (bk8)
      have bkK_4:Blk wx4 (wr.heap.size) 87 #[fx,fy,fn]:=(kk4 _ (bkK_8).lt (fun he=>by
       have h:=((HTw.out).x.lt _ he).2;omega)).trans (bkK_8)
      go_wp2_with fail;refine ⟨⟨HB4,bkK_4⟩,?_⟩;refine Tree.fork ?_;refine Tree.last rfl ?_ ?_
      ·skip
       refine dK (w1:=w2) rfl (.tmp 23) (.tmp 26) 47 rfl 3 (.int .i64 0) 8 Tryz.underlying47 nN rfl w2.heap.size u6 i _ _ _ _ rfl (HT4).swap (wx3.heap.size) (.int .i64 fy) rfl bk8_4 rfl HB4 (Nat.le_refl _) (HB4).le (by omega) (by unfold maxLen;omega) ?_;intro vn9 wx9 HT9 HB9 aIK kk9
       replace HT9:=HT9.swap
       have bk3_9:Blk wx9 wxd.heap.size 3 #[fx]:=(kk9 _ (bk3_4).lt (fun he=>by
        have h:=(HTD.y.lt _ he).2;omega)).trans (bk3_4)
       have bk8_9:Blk wx9 wx3.heap.size 3 #[fy]:=(kk9 _ (bk8_4).lt (fun he=>by
        have h:=(HTD.y.lt _ he).2;omega)).trans (bk8_4)
       have bkK_9:Blk wx9 (wr.heap.size) 87 #[fx,fy,fn]:=(kk9 _ (bkK_4).lt (fun he=>by
        have h:=((HTw.out).y.lt _ he).2;omega)).trans (bkK_4)
       go_wp2_with fail;refine ⟨⟨HB9,bkK_9⟩,?_⟩
       iterate 2
        apply FlowS.asg _ rfl
        ·intro a b;simp only[sqA,Act.eval,sqC];exact b
       refine FlowS.done ?_;go_wp2_with fail;exact ⟨⟨i+1,hlt,by go_num,HB9,by rw[Htx.out,Hty.out,aLS,aLS];exact HT9⟩,by simp[RowKit.intOf];omega⟩
      exact Tree.nil
     exact Tree.nil
    exact Tree.nil
   refine Tree.part rfl ?_ ?_
   ·skip
    go_wp2_with fail;obtain ⟨wx8,xR⟩:=aLt ((wxd).alloc (.cells #[fy] 3));have bk8:Blk wx8 (wxd).heap.size 3 #[fy]:=(by rw[xR];exact Blk.new _ _ _);have bb8:=aLn xR;rw[←xR];clear xR;have HB8:Bl w2 wx8:=(HBD).trans bb8;have bkK_8:=(HKD).bl bb8;have HT8:=(HTD).bl bb8;have aGe:=bb8.le;refine ⟨⟨HB8,bkK_8⟩,?_⟩;refine Tree.fork ?_;refine Tree.part rfl ?_ ?_
    ·skip
     go_wp2_with fail;obtain ⟨wx3,aBR⟩:=aLt ((wx8).alloc (.cells #[fx] 3));have bk3:Blk wx3 (wx8).heap.size 3 #[fx]:=(by rw[aBR];exact Blk.new _ _ _);have bb3:=aLn aBR;rw[←aBR];clear aBR;have HB3:Bl w2 wx3:=(HB8).trans bb3;have bk8_3:=(bk8).bl bb3;have bkK_3:=(bkK_8).bl bb3;have HT3:=(HT8).bl bb3;have N2:=bb3.le;refine ⟨⟨HB3,bkK_3⟩,?_⟩;refine Tree.fork ?_;refine Tree.part rfl ?_ ?_
     ·skip
      refine dK (w1:=w2) rfl (.tmp 18) (.tmp 21) 47 rfl 3 (.int .i64 0) 8 Tryz.underlying47 nN rfl w2.heap.size u5 i _ _ _ _ rfl HT3 (wx8.heap.size) (.int .i64 fx) rfl bk3 rfl HB3 (Nat.le_refl _) (HB3).le (by omega) (by unfold maxLen;omega) ?_;intro vn4 wx4 HT4 HB4 aGi kk4;have bk8_4:Blk wx4 wxd.heap.size 3 #[fy]:=(kk4 _ (bk8_3).lt (fun he=>by
       have h:=(HTD.x.lt _ he).2;omega)).trans (bk8_3)
      have bk3_4:Blk wx4 wx8.heap.size 3 #[fx]:=(kk4 _ (bk3).lt (fun he=>by
       have h:=(HTD.x.lt _ he).2;omega)).trans (bk3)
      have bkK_4:Blk wx4 (wr.heap.size) 87 #[fx,fy,fn]:=(kk4 _ (bkK_3).lt (fun he=>by
       have h:=((HTw.out).x.lt _ he).2;omega)).trans (bkK_3)
      go_wp2_with fail;refine ⟨⟨HB4,bkK_4⟩,?_⟩;refine Tree.fork ?_;refine Tree.last rfl ?_ ?_
      ·skip
       refine dK (w1:=w2) rfl (.tmp 23) (.tmp 26) 47 rfl 3 (.int .i64 0) 8 Tryz.underlying47 nN rfl w2.heap.size u6 i _ _ _ _ rfl (HT4).swap (wxd.heap.size) (.int .i64 fy) rfl bk8_4 rfl HB4 (Nat.le_refl _) (HB4).le (by omega) (by unfold maxLen;omega) ?_;intro vn9 wx9 HT9 HB9 aIK kk9
       replace HT9:=HT9.swap
       have bk8_9:Blk wx9 wxd.heap.size 3 #[fy]:=(kk9 _ (bk8_4).lt (fun he=>by
        have h:=(HTD.y.lt _ he).2;omega)).trans (bk8_4)
       have bk3_9:Blk wx9 wx8.heap.size 3 #[fx]:=(kk9 _ (bk3_4).lt (fun he=>by
        have h:=(HTD.y.lt _ he).2;omega)).trans (bk3_4)
       have bkK_9:Blk wx9 (wr.heap.size) 87 #[fx,fy,fn]:=(kk9 _ (bkK_4).lt (fun he=>by
        have h:=((HTw.out).y.lt _ he).2;omega)).trans (bkK_4)
       go_wp2_with fail;refine ⟨⟨HB9,bkK_9⟩,?_⟩
       iterate 2
        apply FlowS.asg _ rfl
        ·intro a b;simp only[sqA,Act.eval,sqC];exact b
       refine FlowS.done ?_;go_wp2_with fail;exact ⟨⟨i+1,hlt,by go_num,HB9,by rw[Htx.out,Hty.out,aLS,aLS];exact HT9⟩,by simp[RowKit.intOf];omega⟩
      exact Tree.nil
     exact Tree.nil
    exact Tree.nil
   exact Tree.nil
  ·obtain rfl:i=la.length:=(by omega);rw[aL6 (by rw[HXl.out];exact Nat.le_refl _),aL6 (by rw[HYl.out];exact Nat.le_refl _)] at htw;have HTw:=aLa htw;have Hbr:=aLa (Hb2.out.trans hbr);have B13:=aLa (w13.bl Hbr.out);clear hbr;by_cases hn:la.length=0
   ·have hx:=htw.x;obtain ⟨A5,c5,rfl,-⟩:=cU hx;obtain ⟨A6,c6,rfl,-⟩:=cU htw.y;have k3:=B13.out.all2;have hXn:XS=[]:=List.eq_nil_of_length_eq_zero (by rw[HXl.out,hn]);have hYn:YS=[]:=List.eq_nil_of_length_eq_zero (by rw[HYl.out,hn]);have HX:=aLa (show uC XS=0 by rw[hXn,FK]);have HY:=aLa (show uC YS=0 by rw[hYn,FK]);clear htw hx hXn hYn;go_wp2_with fail;obtain ⟨wS,hwS⟩:=aLt ((wr.setCell ⟨w.heap.size+1+1,0,none⟩ (.int .i64 0)).setCell ⟨w.heap.size+1+1,1,none⟩ (.int .i64 0));have bS:Blk wS (w.heap.size+1+1) 143 #[.int .i64 0,.int .i64 0]:=(by rw[hwS];exact (B13.out.set_ 0 _).set_ 1 _);have hS:Bl w wS:=(by rw[hwS];exact ((dV.out.trans Hbr.out).setCell (by show _≤_+1+1;omega) _).setCell (by show _≤_+1+1;omega) _);rw[←hwS];have kF:=bS.all2;refine aL0 (v:=.agg #[.int .i64 0,.int .i64 0]) (by simp[results,Tryz.results136,go_sem,kF]) rfl ⟨by rw[HX.out,HY.out],hS⟩
   ·have hn0:0<la.length:=Nat.pos_of_ne_zero hn;have hx:=htw.x;have hy:=htw.y;have hne:=htw.ne;rcases hx.2 with ⟨-,h0⟩|⟨g,cx,cur,rfl,hgB,hgh,hcx,-⟩
    ·exact absurd h0 hn
    rcases hy.2 with ⟨-,h0⟩|⟨g2,cy,cur2,rfl,aIL,aKn,hcy,-⟩
    ·exact absurd h0 hn
    have hg2:g2≠g:=fun e=>hne g rfl (by rw[e];rfl);have hlx:=(hx.lt g rfl).2;have hly:=(hy.lt g2 rfl).2;have Hx:=aLa hx;have Hy:=aLa hy;have hs1:=IM w2.heap.size g cx 3 XS wr (by rw[HXl.out];exact hx) (by rw[HXl.out];omega);rw[HXl.out] at hs1;obtain ⟨Hs1,HgB,aKo,Hlx,Hly,Hg2,Hn0⟩:=aLf hs1 hgB aIL hlx hly hg2 hn0;have hw13:=B13.out.lt;have hlt13:=w13.lt;clear htw hx hy hne hgh aKn hs1 hgB aIL hlx hly hg2;go_wp2_with fail;refine Hs1.out.mono ?_;rintro e w3 ⟨rfl,hr3,N2,hk3,aEb⟩;obtain ⟨Hr3,Hk3,Hb3,aKp⟩:=aLc hr3 hk3 (aEb w1 Hbr.out (aMb hs2 HgB.out)) N2;have hy3:=aA6 Hy.out (hk3 g2 Hly.out Hg2.out);have aHw:=IM w2.heap.size g2 cy 3 YS w3 (by rw[HYl.out];exact hy3) (by rw[HYl.out];omega);rw[HYl.out] at aHw;have Hs2:=aLa aHw;clear hr3 hk3 aEb hy3 aHw N2;go_wp2_with fail;refine Hs2.out.mono ?_;rintro e w4 ⟨rfl,hr4,-,hk4,aIM⟩;have hb4:=aIM w1 Hb3.out (aMb hs2 aKo.out);have Hb4:=aLa hb4;have hr5:=S4 Hr3.out (hk4 g (Nat.lt_of_lt_of_le Hlx.out aKp.out) (fun e=>Hg2.out e.symm));rw[←HXl.out] at hr5;rw[←HYl.out] at hr4;have kx:=PD (by rw[HXl.out];exact Hn0.out) hr5;have ky:=PD (by rw[HYl.out];exact Hn0.out) hr4;rw[HXl.out] at kx;rw[HYl.out] at ky;have B4:=aLa (w13.bl hb4);have k3:=B4.out.all2;obtain ⟨lm,hlm⟩:=aLt (la.length-1);obtain ⟨mi,hmi⟩:=aLt (lm / 2);rw[←hlm,←hmi] at kx ky;have hoi:((la.length:Int)-1)=(lm:Int):=(by omega);have hoj:((lm:Int) / 2)=(mi:Int):=(by omega);have hok:(lm:Int).tdiv 2=(mi:Int):=(by rw[Int.tdiv_eq_ediv_of_nonneg (by omega)];exact hoj);have hml:(mi:Int)<(la.length:Int):=(by omega);have hmc:(mi:Int)<(cx:Int)∧(mi:Int)<(cy:Int):=(by omega);obtain ⟨mx,hmx⟩:=aLt (uC XS);obtain ⟨my,hmy⟩:=aLt (uC YS);rw[←hmx] at kx;rw[←hmy] at ky;have Hmx:=aLa hmx;have Hmy:=aLa hmy;clear hr4 hk4 aIM hb4 hr5 hlm hmi hmx hmy;go_upto_region 11 with fail;refine aA [(true,0),(true,1),(true,2),(true,3),(true,4),(true,5),(true,6),(true,7),(true,8),(true,9),(true,10),(true,11),(true,12),(false,13)] (fun i=>i==13) (by kernel_rfl) (by kernel_rfl) (by kernel_rfl) (by kernel_rfl) ?_
    iterate 2
     apply Flow.mv _ rfl
     ·intro a b;simp only[sqA,Act.eval,sqC];exact b
    iterate 4
     apply Flow.calm2 _ _ rfl rfl
     ·intro a b c d;obtain ⟨e,f⟩:=b.rule;go_simp;(try go_ints);exact d
     ·intro a b;simp only[sqA];exact b
    iterate 2
     apply Flow.mv _ rfl
     ·intro a b;simp only[sqA,Act.eval,sqC];exact b
    iterate 5
     apply Flow.calm2 _ _ rfl rfl
     ·intro a b c d;obtain ⟨e,f⟩:=b.rule;go_simp;(try go_ints);exact d
     ·intro a b;simp only[sqA];exact b
    refine Flow.tail _ rfl ?_;go_wp2_with fail;obtain ⟨wS,hwS⟩:=aLt (((((w4.setCell ⟨w.heap.size+1+1,0,none⟩ (.int .i64 mx)).setCell ⟨w.heap.size+1+1,1,none⟩ (.int .i64 my)).setCell ⟨w.heap.size+1+1,0,none⟩ (.int .i64 mx)).setCell ⟨w.heap.size+1+1,1,none⟩ (.int .i64 my)).drew);have bS:Blk wS (w.heap.size+1+1) 143 #[mx,my]:=(by rw[hwS];exact ((((B4.out.set_ 0 _).set_ 1 _).set_ 0 _).set_ 1 _).drew);have hS:Bl w wS:=(by rw[hwS];exact (((((dV.out.trans Hb4.out).setCell (by show _≤_+1+1;omega) _).setCell (by show _≤_+1+1;omega) _).setCell (by show _≤_+1+1;omega) _).setCell (by show _≤_+1+1;omega) _).drew);rw[←hwS];have kF:=bS.all2;refine aL0 (v:=.agg #[mx,my]) (by simp[results,Tryz.results136,go_sem,kF]) rfl ⟨by rw[←Hmx.out,←Hmy.out],hS⟩
theorem XC (f:Frm) (C:Option Addr) (cc:Nat) (cs:List Bool) (W H r:Nat) (w:World) (cM:Fits f W H r) (hF:FrmAt w f) (hC:Reads w 1 C (W*H) (cs.map .bool)) :
 Calls Tryz.prog 78 #[f.val,.agg #[W,H,.slice C (W*H) cc]] w fun e w'=>∃v,e=.returned v∧BPage w.heap.size w' v W H (rL f cs)∧Bl w w':=by
 have hof:=fun wx hF hC=>S5 f C cc cs W H r wx cM hF hC;have hbx:=WA (cs:=cs) cM;have hby:=WB (cs:=cs) cM;have e1:=cM.fW;have e2:=cM.fH;have hW:=cM.hW;have hH:=cM.hH;have hWH:=cM.hWH;have hs0:aE (W:Int) (H:Int)=0:=by
  have:=aL9 W H;unfold aE;rw[if_pos (by omega),if_neg (by omega)]
 obtain ⟨PB,hPB⟩:=aLt (rL f cs);rw[←hPB];have aGj:PB=eS W H (CQ cs W H (-(uC (ZV f cs))) (-(uC (ZW f cs)))):=(by rw[hPB];unfold rL;rw[e1,e2,aL8,aL8]);obtain ⟨px,hpx⟩:=aLt (uC (ZV f cs));obtain ⟨py,hpy⟩:=aLt (uC (ZW f cs));rw[←hpx] at hof hbx aGj;rw[←hpy] at hof hby aGj;have aIN:eS W H (fZ (List.replicate (W*H) false) cs W H W H (-px) (-py))=PB:=by
  rw[aGj];exact qC _ _ _ _ fun x y hx hy=>wH cs W H _ _ x y hx hy
 obtain ⟨nm,fW,fH,reach,dark,AL,ac,la,FL,fc,lf,RL,rc,lr⟩:=f;simp only at e1 e2;subst e1 e2;let w1:=(((w).alloc (.cells #[nm,W,H,reach,dark,.slice AL la.length ac,.slice FL lf.length fc,.slice RL lr.length rc] 26)).alloc (.cells #[W,H,.slice C (W*H) cc] 43)).alloc (.cells #[.int .i64 0,.int .i64 0,.slice none 0 0] 43);obtain ⟨w1b,w11,w12,w13⟩:=aLj (x:=w1) w _ _ _ _ _ _ rfl;have sz1:w1.heap.size=w.heap.size+3:=(by simp[w1]);unfold Frm.val at hof;obtain ⟨Hof,Hs0,aKq,HC⟩:=aLc (hof w1 (hF.bl w1b) (hC.bl w1b)) hs0 aIN (hC.bl w1b);have k1:=w11.all8;have k2:=w12.all3;have dV:=aLa w1b;have Hbk:=aLa (fun wx=>yK W H wx hs0);unfold Frm.val;clear hF hC hof cM w1b hs0 hPB aGj hpx hpy aIN
 go_in
 go_upto_region 1 with fail;rw[show ((w.alloc (.cells #[nm,W,H,reach,dark,.slice AL la.length ac,.slice FL lf.length fc,.slice RL lr.length rc] 26)).alloc (.cells #[W,H,.slice C (W*H) cc] 43)).alloc (.cells #[.int .i64 0,.int .i64 0,.slice none 0 0] 43)=w1 from rfl];clear_value w1;go_upto_region 2 with (go_at_call 136;refine Hof.out.mono ?_;rintro e w2 ⟨rfl,hb2⟩);obtain ⟨w3,hw3⟩:=aLt (w2.alloc (.cells #[px,py] 143));have b3:=aLo hw3;have hb3:=aLn hw3;rw[←hw3];have B3:=aLa b3;have Hb3:=aLa (hb2.trans hb3);have k1:=(w11.bl Hb3.out).all8;clear hw3 b3 hb3 hb2 k2;go_upto_region 3 with (go_at_call 34;refine (Hbk.out _).mono ?_;rintro e w4 ⟨v4,rfl,⟨g4,rfl,hg4,aCv,aFl⟩,hb4⟩);obtain ⟨w5,hw5⟩:=aLt (w4.alloc (.cells #[W,H,.slice (some ⟨g4,0,none⟩) (W*H) (W*H)] 43));have b5:=aLo hw5;have hb5:=aLn hw5;rw[←hw5];have Hb5:=aLa (Hb3.out.trans (hb4.trans hb5));have k2:=(w12.bl Hb5.out).all3;have k3:=(B3.out.bl (hb4.trans hb5)).all2;have k4:=b5.all3;have dF:=qI W H W H _ _ (List.replicate (W*H) false) cs (-px) (-py) w5 (BPage.is ⟨g4,rfl,hg4.bl hb5,aCv,Nat.zero_le _⟩) ⟨C,cc,rfl,HC.out.bl Hb5.out⟩ Hs0.out Hs0.out (by omega) (by omega);rw[aKq.out] at dF;have m8:=aLa dF;have hle5:=Hb5.out.le;clear k1 hw5 b5 hb5 hb4 hg4 aCv aFl dF;go_upto_region 4 with (go_at_call 35;refine m8.out.mono ?_;rintro e w6 ⟨v6,rfl,⟨g6,rfl,hg6,aDS,aEf⟩,hb6⟩);obtain ⟨w7,hw7⟩:=aLt (w6.alloc (.cells #[W,H,.slice (some ⟨g6,0,none⟩) (W*H) (W*H)] 43));have b7:=aLo hw7;have hb7:=aLn hw7;rw[←hw7];obtain ⟨Hb7,HG,Hgl⟩:=aLb (Hb5.out.trans (hb6.trans hb7)) (hg6.bl hb7) aDS;have B2:=aLa (w13.bl Hb7.out);have k5:=b7.all3;have k6:=B2.out.all3;have LD:g6≠w.heap.size+1+1:=(by omega);have hgw:w.heap.size≤g6:=(by omega);clear k2 k3 k4 hw7 b7 hb7 hb6 hg6 aDS;go_wp2_with fail;obtain ⟨wS,hwS⟩:=aLt (((w7.setCell ⟨w.heap.size+1+1,0,none⟩ (.int .i64 W)).setCell ⟨w.heap.size+1+1,1,none⟩ (.int .i64 H)).setCell ⟨w.heap.size+1+1,2,none⟩ (.slice (some ⟨g6,0,none⟩) (W*H) (W*H)));have bS:Blk wS (w.heap.size+1+1) 43 #[W,H,.slice (some ⟨g6,0,none⟩) (W*H) (W*H)]:=(by rw[hwS];exact ((B2.out.set_ 0 _).set_ 1 _).set_ 2 _);have bG:Blk wS g6 4 (PB.map Value.bool).toArray:=(by rw[hwS];exact ((HG.out.far LD _).far LD _).far LD _);have hS:Bl w wS:=(by rw[hwS];exact (((dV.out.trans Hb7.out).setCell (by show _≤_+1+1;omega) _).setCell (by show _≤_+1+1;omega) _).setCell (by show _≤_+1+1;omega) _);rw[←hwS];have kF:=bS.all3;refine aL0 (v:=.agg #[W,H,.slice (some ⟨g6,0,none⟩) (W*H) (W*H)]) (by simp[results,Tryz.results78,go_sem,kF]) rfl ⟨_,rfl,⟨g6,rfl,bG,Hgl.out,hgw⟩,hS⟩
end Go.Proofs.YtllefinciimffaaGreatDoor
