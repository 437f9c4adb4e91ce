import Derived.Test.YtllefinciimffaaGreatDoorMClaimFields14
set_option maxHeartbeats 20000000
set_option maxRecDepth 100000
namespace Go.Proofs.YtllefinciimffaaGreatDoor
open Go.RowKit
theorem GN (r : Nat) (G : Int → Int → Bool) (F : Int → Int → Nat) (kg : FuncId) (capg : Array Value) (kf : FuncId) (cap : Array Value) (w : World) (hr : r ≤ 8) (hentg : ∀ args w, (callFunc kg args).run Tryz.prog w = .ok (.enter kg args) w) (ZF : ∀ args w, (callFunc kf args).run Tryz.prog w = .ok (.enter kf args) w)
 (hG:∀wx (x y:Int),Bl w wx→-8≤x∧x≤8→-8≤y∧y≤8→Calls Tryz.prog kg (#[.int .i64 x,.int .i64 y]++capg) wx fun e w'=>e=.returned (.bool (G x y))∧Bl wx w')
 (hF:∀wx (x y:Int),Bl w wx→-8≤x∧x≤8→-8≤y∧y≤8→G x y=true→Calls Tryz.prog kf (#[.int .i64 x,.int .i64 y]++cap) wx fun e w'=>e=.returned (.int .i64 (F x y))∧Bl wx w') :
 Calls Tryz.prog 186 #[r, .func (.func kg) #[] capg, .func (.func kf) #[] cap] w
  fun e w'=>∃X Y N fd,e=.returned (.tuple #[.int .i64 X,.int .i64 Y,.int .i64 N])∧StP (fun j=>G (vP r j) (vQ r j)) (fun j=>F (vP r j) (vQ r j)) r (2*r+1) 0 X Y N fd∧Bl w w':=by
 obtain ⟨ok,hok⟩:∃o:Nat→Bool,o=fun j=>G (vP r j) (vQ r j):=⟨_,rfl⟩;obtain ⟨num,RM⟩:∃o:Nat→Nat,o=fun j=>F (vP r j) (vQ r j):=⟨_,rfl⟩;rw[←hok,←RM];obtain ⟨HG,HF,HOk,aDT,St0⟩:=aHK hG hF (show ∀j,ok j=G (vP r j) (vQ r j) from fun j=>by rw[hok]) (show ∀j,num j=F (vP r j) (vQ r j) from fun j=>by rw[RM]) (StP.start ok num r);clear hG hF hok RM
 go_in
 go_wp2_with fail;go_loopw [9,10,11,12,13] (fun a b c d u wr=>∃(f:Nat) (X Y N:Int) (fd:Bool),f≤2*r+1∧u=.int .i64 f∧a=.int .i64 X∧b=.int .i64 Y∧c=.int .i64 N∧d=.bool fd∧Hid (StP ok num r f 0 X Y N fd)∧Bl w wr) (fun _ _ _ _ u _=>2*r+1-(intOf u).toNat);case atStart=>exact ⟨0,0,0,0,false,Nat.zero_le _,rfl,rfl,rfl,rfl,rfl,St0,Bl.refl _⟩
 case round=>
  obtain ⟨f,X,Y,N,fd,hf,rfl,rfl,rfl,rfl,rfl,hst,hbr⟩:=hrel;by_cases hlt:f<2*r+1
  ·have d1:decide ((f:Int)≤2*(r:Int))=true:=(by simp;omega);go_wp2_with fail;go_loopw [9,10,11,12,14] (fun a b c d u wr=>∃(v:Nat) (X Y N:Int) (fd:Bool),v≤2*r+1∧u=.int .i64 ((v:Int)-r)∧a=.int .i64 X∧b=.int .i64 Y∧c=.int .i64 N∧d=.bool fd∧Hid (StP ok num r f (v*(2*r+1)) X Y N fd)∧Bl w wr) (fun _ _ _ _ u _=>(r+1-intOf u).toNat);case atStart=>exact ⟨0,X,Y,N,fd,Nat.zero_le _,by simp,rfl,rfl,rfl,rfl,by rw[Nat.zero_mul];exact hst,hbr⟩
   case round=>
    clear hst hbr
    rename_i wo _ _ _ _ _ _ _
    obtain ⟨v,X,Y,N,fd,hv,rfl,rfl,rfl,rfl,rfl,hst,hbr⟩:=hrel;by_cases iH:v<2*r+1
    ·have d2:decide ((v:Int)-(r:Int)≤(r:Int))=true:=(by simp;omega);go_wp2_with fail;go_loopw [9,10,11,12,15] (fun a b c d u wr=>∃(x:Nat) (X Y N:Int) (fd:Bool),x≤2*r+1∧u=.int .i64 ((x:Int)-r)∧a=.int .i64 X∧b=.int .i64 Y∧c=.int .i64 N∧d=.bool fd∧Hid (StP ok num r f (v*(2*r+1)+x) X Y N fd)∧Bl w wr) (fun _ _ _ _ u _=>(r+1-intOf u).toNat);case atStart=>exact ⟨0,X,Y,N,fd,Nat.zero_le _,by simp,rfl,rfl,rfl,rfl,hst,hbr⟩
     case round=>
      clear hst hbr
      rename_i wo2 _ _ _ _ _ _ _
      obtain ⟨x,X,Y,N,fd,hx,rfl,rfl,rfl,rfl,rfl,hst,hbr⟩:=hrel;by_cases RB:x<2*r+1
      ·obtain ⟨q,hq⟩:=aH0 (iK r (v*(2*r+1)+x));have edx:=JN r v x RB;have edy:=JO r v x RB;have eq:(((x:Int)-r).natAbs:Int)+(((v:Int)-r).natAbs:Int)=(q:Int):=by
        rw[hq];unfold iK;rw[edx,edy];simp
       have hm:v*(2*r+1)+x<(2*r+1)*(2*r+1):=d8 RB iH;have aDU:=HOk.out (v*(2*r+1)+x);have aAI:=aDT.out (v*(2*r+1)+x);rw[edx,edy] at aDU aAI;have aCV:=HG.out wr ((x:Int)-r) ((v:Int)-r) hbr (by omega) (by omega);have cI:=fun wx (hx:Bl w wx) (hg:G ((x:Int)-r) ((v:Int)-r)=true)=>HF.out wx ((x:Int)-r) ((v:Int)-r) hx (by omega) (by omega) hg;rw[←aAI] at cI;rw[←aDU] at aCV cI;obtain ⟨n,hn⟩:=aH0 (num (v*(2*r+1)+x));rw[←hn] at cI;obtain ⟨bk,hbk⟩:=aH0 (ok (v*(2*r+1)+x));rw[←hbk] at aCV cI;have b1:-1000000≤(x:Int)-r∧(x:Int)-r≤1000000:=(by omega);have b2:-1000000≤(v:Int)-r∧(v:Int)-r≤1000000:=(by omega);obtain ⟨aCW,Hq,Hm,Edx,Edy,Hn,Hbk,Hcl⟩:=aHN aCV hq hm edx edy hn hbk cI;clear aCV hq hm edx edy hn aAI aDU hbk cI;by_cases N1:q=f
       ·subst N1;cases bk with
        |false=>have Hs:=aHH (hst.out.skip (.inr Hbk.out.symm));go_wp2_with (go_at_call 240;refine (wX _ _ (by omega)).mono ?_;rintro e w' ⟨rfl,rfl⟩);refine aCW.out.mono ?_;rintro e w1 ⟨rfl,hb1⟩;go_wp2_with fail;exact ⟨⟨x+1,_,_,_,fd,RB,by go_num,rfl,rfl,rfl,rfl,Hs,hbr.trans hb1⟩,by simp[intOf];omega⟩
        |true=>
         have fP:=aHH (fun wx hx=>Hcl.out wx hx rfl);clear Hcl;cases fd
         ·have hs:=hst.out.take Hm.out Hq.out.symm Hbk.out.symm (Or.inl rfl);rw[Edx.out,Edy.out,←Hn.out] at hs;have Hs:=aHH hs;clear hs;go_wp2_with (go_at_call 240;refine (wX _ _ (by omega)).mono ?_;rintro e w' ⟨rfl,rfl⟩);refine aCW.out.mono ?_;rintro e w1 ⟨rfl,hb1⟩;go_wp2_with fail;refine (fP.out w1 (hbr.trans hb1)).mono ?_;rintro e w2 ⟨rfl,hb2⟩;go_wp2_with fail;exact ⟨⟨x+1,_,_,_,true,RB,by go_num,rfl,rfl,rfl,rfl,Hs,(hbr.trans hb1).trans hb2⟩,by simp[intOf];omega⟩
         ·by_cases aDV:(n:Int)<N
          ·have hs:=hst.out.take Hm.out Hq.out.symm Hbk.out.symm (Or.inr (by rw[←Hn.out];exact aDV));rw[Edx.out,Edy.out,←Hn.out] at hs;have Hs:=aHH hs;clear hs;go_wp2_with (go_at_call 240;refine (wX _ _ (by omega)).mono ?_;rintro e w' ⟨rfl,rfl⟩);refine aCW.out.mono ?_;rintro e w1 ⟨rfl,hb1⟩;go_wp2_with fail;refine (fP.out w1 (hbr.trans hb1)).mono ?_;rintro e w2 ⟨rfl,hb2⟩;go_wp2_with fail;exact ⟨⟨x+1,_,_,_,true,RB,by go_num,rfl,rfl,rfl,rfl,Hs,(hbr.trans hb1).trans hb2⟩,by simp[intOf];omega⟩
          ·have hs:=hst.out.keep Hq.out.symm (by rw[←Hn.out];simp only[Bool.true_eq_false,false_or];exact aDV);have Hs:=aHH hs;clear hs;go_wp2_with (go_at_call 240;refine (wX _ _ (by omega)).mono ?_;rintro e w' ⟨rfl,rfl⟩);refine aCW.out.mono ?_;rintro e w1 ⟨rfl,hb1⟩;go_wp2_with fail;refine (fP.out w1 (hbr.trans hb1)).mono ?_;rintro e w2 ⟨rfl,hb2⟩;go_wp2_with fail;exact ⟨⟨x+1,_,_,_,true,RB,by go_num,rfl,rfl,rfl,rfl,Hs,(hbr.trans hb1).trans hb2⟩,by simp[intOf];omega⟩
       ·have hs:=hst.out.skip (.inl (by rw[←Hq.out];exact N1));have Hs:=aHH hs;have hne:((q:Int) != (f:Int))=true:=(by simp;omega);clear hs;go_wp2_with (go_at_call 240;refine (wX _ _ (by omega)).mono ?_;rintro e w' ⟨rfl,rfl⟩);exact ⟨⟨x+1,_,_,_,fd,RB,by go_num,rfl,rfl,rfl,rfl,Hs,hbr⟩,by simp[intOf];omega⟩
      ·obtain rfl:x=2*r+1:=(by omega);go_wp2_with fail;exact ⟨⟨v+1,X,Y,N,fd,iH,by go_num,rfl,rfl,rfl,rfl,by rw[Nat.add_mul,Nat.one_mul];exact hst,hbr⟩,by simp[intOf];omega⟩
    ·obtain rfl:v=2*r+1:=(by omega);go_wp2_with fail;exact ⟨⟨f+1,X,Y,N,fd,hlt,by go_num,rfl,rfl,rfl,rfl,aHH hst.out.level,hbr⟩,by simp[intOf];omega⟩
  ·obtain rfl:f=2*r+1:=(by omega);go_wp2_with fail;refine aIx (v:=.tuple #[.int .i64 X,.int .i64 Y,.int .i64 N]) (by simp[results,Tryz.results186,go_sem]) rfl ⟨X,Y,N,fd,rfl,hst.out,hbr⟩
def AncB (w:World) (g:Nat) (a:Anc):Prop:=Blk w g 85 #[a.W,a.H,.slice a.A a.m a.c,a.X,a.Y]
def FrmB (w:World) (g:Nat) (f:Frm):Prop:=Blk w g 26 #[f.name,f.W,f.H,f.reach,f.dark,.slice f.AL f.la.length f.ac,.slice f.FL f.lf.length f.fc,.slice f.RL f.lr.length f.rc]
theorem GO (f:Frm) (a:Anc) (ga gf W H:Nat) (x y:Int) (w:World) (hfW:f.W=(W:Int)) (hfH:f.H=(H:Int)) (hW:1≤W∧W≤4000) (hH:1≤H∧H≤4000) (hA:AncB w ga a) (hF:FrmB w gf f) (hX:0≤a.X∧a.X≤4000) (hY:0≤a.Y∧a.Y≤4000) (hx:-8≤x∧x≤8) (hy:-8≤y∧y≤8) :
 Calls Tryz.prog 185 #[x,y,.pointer (some ⟨ga,0,none⟩),.pointer (some ⟨gf,0,none⟩)] w fun e w'=>e=.returned (.bool (dG (a.X+x) (a.Y+y) a.W a.H W H))∧Bl w w':=by
 obtain ⟨nm,fW,fH,reach,dark,AL,ac,la,FL,fc,lf,RL,rc,lr⟩:=f;obtain ⟨aW,aH,A,am,aC,bs,X,Y⟩:=a;simp only at hfW hfH hX hY;subst hfW hfH;unfold AncB at hA;unfold FrmB at hF;have hip:=fun wx=>lO (X+x) (Y+y) aW aH W H wx;simp only[o7 (show 1≤(W:Int)∧(W:Int)≤4000 by omega) (show 1≤(H:Int)∧(H:Int)≤4000 by omega)] at hip;have Hip:=aHH hip;have k1:=hA.all5;have k2:=hF.all8;simp only at k1 k2;clear hip hA hF
 go_in
 go_wp2_with fail;refine (Hip.out _).mono ?_;rintro e w1 ⟨rfl,hb1⟩;go_wp2_with fail;go_ret;exact ⟨rfl,hb1⟩
theorem GP (a : Anc) (ga gb W H BW BH PX PY : Nat) (C : Option Addr) (cc : Nat) (cs : List Bool) (x y : Int) (w : World) (hW : W ≤ 4000) (hH : H ≤ 4000) (haW : a.W = (BW : Int)) (haH : a.H = (BH : Int)) (ham : a.m = BW * BH) (hA : AncB w ga a) (hB : Blk w gb 43 #[W, H, .slice C (W * H) cc]) (hR : Reads w 1 a.A a.m (a.bs.map .bool)) (hC : Reads w 1 C (W * H) (cs.map .bool))
 (hX:a.X+x=(PX:Int)) (hY:a.Y+y=(PY:Int)) (hx:-8≤x∧x≤8) (hy:-8≤y∧y≤8) (h1:PX+BW≤W) (h2:PY+BH≤H) :
 Calls Tryz.prog 187 #[x,y,.pointer (some ⟨ga,0,none⟩),.pointer (some ⟨gb,0,none⟩)] w fun e w'=>e=.returned (.int .i64 (AQ a.bs (fS BW BH (iU cs W PX PY)) BW BH 0 0 (BW*BH)))∧Bl w w':=by
 obtain ⟨aW,aH,A,am,aC,bs,X,Y⟩:=a;simp only at haW haH ham hX hY hR;subst haW haH ham;unfold AncB at hA;have hct:=fun wx (h:Bl w wx)=>wT W H PX PY BW BH C cc cs wx (hC.bl h) hW hH h1 h2;have hdf:=fun (R:Option Addr) (rc:Nat) wx (hr:Reads wx 1 A (BW*BH) (bs.map .bool)) (hq:Reads wx 1 R (BW*BH) ((fS BW BH (iU cs W PX PY)).map .bool))=>FI BW BH A R aC rc bs (fS BW BH (iU cs W PX PY)) 0 0 wx hr hq (by omega) (by omega) (by omega) (by omega);obtain ⟨gr,hgr⟩:=aH0 (fS BW BH (iU cs W PX PY));rw[←hgr] at hct hdf ⊢;obtain ⟨Hct,Hdf,HR⟩:=aHI hct hdf hR;have k1:=hA.all5;have k2:=hB.all3;simp only at k1;have bX:-5000≤X∧X≤5000:=(by omega);have bY:-5000≤Y∧Y≤5000:=(by omega);clear hct hdf hA hB hR hC hgr
 go_in
 go_upto_region 1 with fail;refine aHZ [aHX 0,aHX 1,aHX 2,aHX 3,aHX 4,aHX 5,aHX 6,aHX 7,aHX 8,aHX 9,aHX 10,aHX 11,aHX 12,aHX 13,aHX 14,aHX 15,aHX 16,aHX 17,aHY 18,aHY 19,aHX 20] (by kernel_rfl) ?_
 iterate 5
  apply Flow.calm2 _ _ rfl rfl
  ·intro a b c d;obtain ⟨e,f⟩:=b.rule;go_simp;(try go_ints);exact d
  ·intro a b;simp only[sqA];exact b
 apply Flow.mv _ rfl
 ·intro a b;simp only[sqA,Act.eval,sqC];exact b
 iterate 3
  apply Flow.calm2 _ _ rfl rfl
  ·intro a b c d;obtain ⟨e,f⟩:=b.rule;go_simp;(try go_ints);exact d
  ·intro a b;simp only[sqA];exact b
 apply Flow.mv _ rfl
 ·intro a b;simp only[sqA,Act.eval,sqC];exact b
 iterate 8
  apply Flow.calm2 _ _ rfl rfl
  ·intro a b c d;obtain ⟨e,f⟩:=b.rule;go_simp;(try go_ints);exact d
  ·intro a b;simp only[sqA];exact b
 apply Flow.move rfl;go_wp2_with fail;refine (Hct.out _ (Bl.refl _).drew).mono ?_;rintro e w1 ⟨R,rc,rfl,hr1,-,HB1⟩;have hb1:Bl w w1:=Bl.ofDrew HB1;go_wp2_with fail;refine ⟨fun _=>(by first|exact HB1|exact Bl.refl _),?_⟩;apply Flow.move rfl;go_wp2_with fail;refine (Hdf.out R rc _ (HR.out.bl hb1) hr1).mono ?_;rintro e w2 ⟨rfl,HB2⟩;go_wp2_with fail;refine ⟨fun _=>(by first|exact HB2|exact Bl.refl _),?_⟩;apply Flow.asg _ rfl
 ·intro a b;simp only[sqA,Act.eval,sqC];exact b
 refine Flow.done ?_;go_wp2_with fail;go_ret;exact ⟨rfl,hb1.trans HB2⟩
theorem KB (f : Frm) (a : Anc) (C : Option Addr) (cc : Nat) (cs : List Bool) (W H BW BH r : Nat) (w : World) (hfW : f.W = (W : Int)) (hfH : f.H = (H : Int)) (hfr : f.reach = (r : Int)) (haW : a.W = (BW : Int)) (haH : a.H = (BH : Int)) (ham : a.m = BW * BH) (hr : r ≤ 8)
 (hW:1≤W∧W≤4000) (hH:1≤H∧H≤4000) (hin:a.box.inP f.W f.H=true) (hA:Reads w 1 a.A a.m (a.bs.map .bool)) (hC:Reads w 1 C (W*H) (cs.map .bool)) :
 Calls Tryz.prog 142 #[f.val, a.val, .agg #[W, H, .slice C (W * H) cc]] w
  fun e w'=>e=.returned (.agg #[.int .i64 (dD f cs a).1,.int .i64 (dD f cs a).2.1,.int .i64 (dD f cs a).2.2])∧Bl w w':=by
 obtain ⟨FX,hFX⟩:=aH0 (dD f cs a);rw[←hFX];have VQ:=aIv (show decide (0≤a.X∧a.X<f.W∧0≤a.Y∧a.Y<f.H∧1≤a.W∧a.W≤f.W-a.X∧1≤a.H∧a.H≤f.H-a.Y)=true from hin);rw[hfW,hfH] at VQ;obtain ⟨nm,fW,fH,reach,dark,AL,ac,la,FL,fc,lf,RL,rc,lr⟩:=f;simp only at hfW hfH hfr hin;subst hfW hfH hfr;let w4:=((((w).alloc (.cells #[nm,W,H,r,dark,.slice AL la.length ac,.slice FL lf.length fc,.slice RL lr.length rc] 26)).alloc (.cells #[a.W,a.H,.slice a.A a.m a.c,a.X,a.Y] 85)).alloc (.cells #[W,H,.slice C (W*H) cc] 43)).alloc (.cells #[.int .i64 0,.int .i64 0,.int .i64 0] 87);obtain ⟨w4b,w41,w42,w43,w44⟩:=aHR (x:=w4) w _ _ _ _ _ _ _ _ rfl
 have hnr := GN r (fun x y => dG (a.X + x) (a.Y + y) a.W a.H W H) (fun x y => AQ a.bs (fS BW BH (iU cs W (a.X + x).toNat (a.Y + y).toNat)) BW BH 0 0 (BW * BH)) 185 #[.pointer (some ⟨w.heap.size + 1, 0, none⟩), .pointer (some ⟨w.heap.size, 0, none⟩)] 187 #[.pointer (some ⟨w.heap.size + 1, 0, none⟩), .pointer (some ⟨w.heap.size + 1 + 1, 0, none⟩)] w4 hr
  (fT Tryz.func185 (by kernel_rfl) rfl) (fT Tryz.func187 (by kernel_rfl) rfl)
  (fun wx x y hb hx hy=>GO ⟨nm,W,H,r,dark,AL,ac,la,FL,fc,lf,RL,rc,lr⟩ a _ _ W H x y wx rfl rfl hW hH (w42.bl hb) (w41.bl hb) (by omega) (by omega) hx hy)
  (fun wx x y hb hx hy hg=>by
    have hg2:=aIv (show decide (0≤a.X+x∧a.X+x<(W:Int)∧0≤a.Y+y∧a.Y+y<(H:Int)∧1≤a.W∧a.W≤(W:Int)-(a.X+x)∧1≤a.H∧a.H≤(H:Int)-(a.Y+y))=true from hg);rw[haW,haH] at hg2;exact GP a _ _ W H BW BH (a.X+x).toNat (a.Y+y).toNat C cc cs x y wx hW.2 hH.2 haW haH ham (w42.bl hb) (w43.bl hb) ((hA.bl w4b).bl hb) ((hC.bl w4b).bl hb) (by omega) (by omega) hx hy (by omega) (by omega))
 have LS:∀X Y N fd,StP (fun j=>dG (a.X+vP r j) (a.Y+vQ r j) a.W a.H W H) (fun j=>AQ a.bs (fS BW BH (iU cs W (a.X+vP r j).toNat (a.Y+vQ r j).toNat)) BW BH 0 0 (BW*BH)) r (2*r+1) 0 X Y N fd→(X,Y,N)=FX:=fun X Y N fd st=>by
  have e:=(st.eq (by
   obtain ⟨j,hj,hk⟩:=TI r hin;exact ⟨j,hj,hk⟩)).1
  rw[e,hFX];unfold dD;simp only[aIF];unfold BD
  congr 1
  ·funext j
   unfold aBc;rw[haW,haH,aIF,aIF]
 have Hnr:=aHH hnr;have aGH:=aHH LS;have k1:=w41.all8;have k4:=w44.all3;have aDV:=w44.lt;have W44:=aHH w44;have W4b:=aHH w4b;unfold Frm.val Anc.val;clear hnr LS hin VQ hA hC hFX haW haH ham w4b
 go_in
 go_wp2_with fail;refine Hnr.out.mono ?_;rintro e w5 ⟨X,Y,N,fd,rfl,hst,hb5⟩;have HX:=aHH (aGH.out X Y N fd hst);have B44:=aHH (W44.out.bl hb5);have k4:=B44.out.all3;have Hb5:=aHH (W4b.out.trans hb5);clear hst hb5;go_wp2_with fail;refine aIx (v:=.agg #[.int .i64 X,.int .i64 Y,.int .i64 N]) (by simp[results,Tryz.results142,go_sem,k4]) rfl ⟨by rw[←HX.out],?_⟩
 repeat' (first|exact Hb5.out|refine Bl.setCell ?_ (by simp;try omega) _)
structure Fits (f:Frm) (W H r:Nat):Prop where
 fW:f.W=(W:Int)
 fH:f.H=(H:Int)
 fr:f.reach=(r:Int)
 hW:1≤W∧W≤4000
 hH:1≤H∧H≤4000
 hWH:W*H≤1048576
 hr:r≤40
 hla:f.la.length≤10
 anc:∀a∈f.la,fQ W H a=0
theorem Fits.at_ {f:Frm} {W H r:Nat} (h:Fits f W H r) {a:Anc} (ha:a∈f.la):∃BW BH:Nat,a.W=(BW:Int)∧a.H=(BH:Int)∧a.m=BW*BH∧a.box.inP f.W f.H=true∧1≤BW*BH∧BW*BH≤1048576∧BW≤4000∧BH≤4000:=by
 obtain ⟨h1,-,h3⟩:=GG (h.anc a ha);have hs:aM a.W a.H=0:=by
  apply Classical.byContradiction;intro hne;unfold aF at h1;rw[if_neg hne] at h1;exact hne h1
 have hz:=aR hs;obtain ⟨BW,BH,q1,q2,q3,-,-,-⟩:=dQ h1;rw[q1,q2] at hz;have e:=aIG BW BH;refine ⟨BW,BH,q1,q2,q3,by rw[h.fW,h.fH];exact h3,Nat.mul_pos (by omega) (by omega),by omega,by omega,by omega⟩
end Go.Proofs.YtllefinciimffaaGreatDoor
namespace Go.Proofs.YtllefinciimffaaGreatDoor
def PM (f:Frm) (cs:List Bool):List Int:=f.la.map fun a=>(dD f cs a).1
def PN (f:Frm) (cs:List Bool):List Int:=f.la.map fun a=>(dD f cs a).2.1
def oY (l:List Int):Int:=(mO l).getD ((l.length-1) / 2) 0
theorem TJ {l:List Int} {m:Int} (hm:0≤m) (h:∀x∈l,-m≤x∧x≤m):-m≤oY l∧oY l≤m:=by
 unfold oY;rw[aH4];cases hg:(mO l)[(l.length-1) / 2]? with
 |none=>exact ⟨by show -m≤0;omega,hm⟩
 |some x=>exact h x (SG.1 (List.mem_of_getElem? hg))
theorem DO {f:Frm} {cs:List Bool} {W H r:Nat} (h:Fits f W H r):-40≤oY (PM f cs)∧oY (PM f cs)≤40:=
 TJ (m:=40) (by decide) fun x hx=>by
  obtain ⟨a,ha,rfl⟩:=aIK.1 hx;obtain ⟨BW,BH,-,-,-,q,-⟩:=h.at_ ha;exact (GF q (by rw[h.fr];exact h.hr)).2.2.1
theorem DP {f:Frm} {cs:List Bool} {W H r:Nat} (h:Fits f W H r):-40≤oY (PN f cs)∧oY (PN f cs)≤40:=
 TJ (m:=40) (by decide) fun x hx=>by
  obtain ⟨a,ha,rfl⟩:=aIK.1 hx;obtain ⟨BW,BH,-,-,-,q,-⟩:=h.at_ ha;exact (GF q (by rw[h.fr];exact h.hr)).2.2.2
theorem aAk {l:List Int} (h:0<l.length):(mO l)[(l.length-1) / 2]? = some (oY l):=by
 have hlt:(l.length-1) / 2<(mO l).length:=(by rw[wW];omega);unfold oY;rw[aH4,aH2 hlt];rfl
theorem vV:oY []=0:=by simp[oY,mO]
def kW (f:Frm) (cs:List Bool):List Bool:=fS f.W.toNat f.H.toNat (uD cs f.W.toNat f.H.toNat (-(oY (PM f cs))) (-(oY (PN f cs))))
theorem GQ (cs:List Bool) (W H:Nat) (x y:Int) (u v:Nat) (hu:u<W) (hv:v<H):oJ (List.replicate (W*H) false) cs W H W H x y u v=uD cs W H x y u v:=by
 have hp:pix (List.replicate (W*H) false) W u v=false:=by
  unfold pix;rw[aH4,List.getElem?_replicate];split<;>rfl
 cases ha:iL W H W H x y with
 |true=>
  rw[uC hp ha];unfold uD;cases hc:atI cs W H ((u:Int)-x) ((v:Int)-y) with
  |false=>rfl
  |true=>
   exfalso;have h:0≤(u:Int)-x∧(u:Int)-x<W∧0≤(v:Int)-y∧(v:Int)-y<H:=by
    apply Classical.byContradiction;intro hn;rw[CR _ _ _ _ _ hn] at hc;cases hc
   unfold iL at ha;simp at ha;omega
 |false=>rw[FJ hp ha];rfl
end Go.Proofs.YtllefinciimffaaGreatDoor
namespace Go.Proofs.YtllefinciimffaaGreatDoor
open Go.RowKit
theorem jI (x:Int) (w:World) (hx:-1000000≤x∧x≤1000000):Calls Tryz.prog 221 #[x] w fun e w'=>e=.returned x.natAbs∧w=w':=by
 have hm:max x (-x)=(x.natAbs:Int):=(by rw[Int.max_def];split<;>omega);have Hm:=aHH hm;clear hm
 go_in
 go_wp2
 go_ret;exact ⟨by rw[←Hm.out];rfl,rfl⟩
theorem TK {w h i:Nat} (f:Nat→Nat→Bool) (hi:i<w*h):(fS w h f).getD i false=f (i % w) (i / w):=by
 rw[List.getD,CQ w h f i hi];rfl
theorem W6 (bs cs:List Bool) (W w h X Y i:Nat) (hi:i<w*h):AQ bs (fS w h (iU cs W X Y)) w h 0 0 (i+1)=AQ bs (fS w h (iU cs W X Y)) w h 0 0 i+(if (bs.getD i false != pix cs W (X+i % w) (Y+i / w))=true then 1 else 0):=by
 have e:=WK bs (fS w h (iU cs W X Y)) w h i hi;rw[TK _ hi] at e;show AQ bs (fS w h (iU cs W X Y)) w h 0 0 i+(if sX bs (fS w h (iU cs W X Y)) w h 0 0 i then 1 else 0)=_;rw[e];rfl
theorem PO {ok:Nat→Bool} {num:Nat→Nat} {r m:Nat} (h:ok m=false):mD ok num r (m+1)=mD ok num r m:=by
 show wU ok num r m (mD ok num r m)=_;unfold wU;rw[if_neg (fun k=>by rw[h] at k;exact absurd k.1 (by decide))]
theorem PP {ok:Nat→Bool} {num:Nat→Nat} {r m:Nat} {x y n:Int} (hs:mD ok num r m=(x,y,n)) (h:ok m=true) (hc:n<0∨(num m:Int)<n∨((num m:Int)=n∧(iK r m:Int)<x.natAbs+y.natAbs)):mD ok num r (m+1)=(vP r m,vQ r m,(num m:Int)):=by
 show wU ok num r m (mD ok num r m)=_;unfold wU;rw[hs,if_pos ⟨h,hc⟩]
theorem PQ {ok:Nat→Bool} {num:Nat→Nat} {r m:Nat} {x y n:Int} (hs:mD ok num r m=(x,y,n)) (hc:¬(n<0∨(num m:Int)<n∨((num m:Int)=n∧(iK r m:Int)<x.natAbs+y.natAbs))):mD ok num r (m+1)=(x,y,n):=by
 show wU ok num r m (mD ok num r m)=_;unfold wU;rw[hs,if_neg (fun k=>hc k.2)]
theorem W7 (f : Frm) (a : Anc) (C : Option Addr) (cc : Nat) (cs : List Bool) (W H BW BH r : Nat) (w : World) (hfW : f.W = (W : Int)) (hfH : f.H = (H : Int)) (hfr : f.reach = (r : Int)) (haW : a.W = (BW : Int)) (haH : a.H = (BH : Int)) (ham : a.m = BW * BH) (hr : r ≤ 40)
 (hW:1≤W∧W≤4000) (hH:1≤H∧H≤4000) (hWH:W*H≤1048576) (hin:a.box.inP f.W f.H=true) (hA:Reads w 1 a.A a.m (a.bs.map .bool)) (hC:Reads w 1 C (W*H) (cs.map .bool)) :
 Calls Tryz.prog 160 #[f.val, a.val, .agg #[W, H, .slice C (W * H) cc]] w
  fun e w'=>e=.returned (.agg #[.int .i64 (dD f cs a).1,.int .i64 (dD f cs a).2.1,.int .i64 (dD f cs a).2.2])∧Bl w w':=by
 obtain ⟨nm,fW,fH,reach,dark,AL,ac,la,FL,fc,lf,RL,rc,lr⟩:=f;obtain ⟨aW,aH,A,am,aC,bs,X,Y⟩:=a;simp only at hfW hfH hfr haW haH ham hin hA;subst hfW hfH hfr haW haH ham;obtain ⟨ok,hok⟩:=aH0 (okA ⟨BW,BH,A,BW*BH,aC,bs,X,Y⟩ W H r);obtain ⟨num,RM⟩:=aH0 (aBc ⟨BW,BH,A,BW*BH,aC,bs,X,Y⟩ cs W r);obtain ⟨FD,hFD⟩:=aH0 (mD ok num r);have aFs:dD ⟨nm,W,H,r,dark,AL,ac,la,FL,fc,lf,RL,rc,lr⟩ cs ⟨BW,BH,A,BW*BH,aC,bs,X,Y⟩=FD ((2*r+1)*(2*r+1)):=by
  rw[hFD,hok,RM];rfl
 rw[aFs];have VQ:=aIv (show decide (0≤X∧X<(W:Int)∧0≤Y∧Y<(H:Int)∧1≤(BW:Int)∧(BW:Int)≤(W:Int)-X∧1≤(BH:Int)∧(BH:Int)≤(H:Int)-Y)=true from hin);obtain ⟨HOk,aDT,HFD,HA,HC⟩:=aHK hok RM hFD hA hC;have ub:W≤4000∧H≤4000∧1≤W∧1≤H∧BW≤4000∧BH≤4000∧1≤BW∧1≤BH:=(by omega);have aDE:0<BW*BH:=Nat.mul_pos (by omega) (by omega);have hmB:BW*BH≤16000000:=(by have:=aIH (show BW≤4000 by omega) (show BH≤4000 by omega);omega);have ubX:0≤X∧X≤4000∧0≤Y∧Y≤4000:=(by omega);let w3:=(((w).alloc (.cells #[nm,W,H,r,dark,.slice AL la.length ac,.slice FL lf.length fc,.slice RL lr.length rc] 26)).alloc (.cells #[BW,BH,.slice A (BW*BH) aC,X,Y] 85)).alloc (.cells #[W,H,.slice C (W*H) cc] 43);obtain ⟨w3b,w31,w32,w33⟩:=aHQ (x:=w3) w _ _ _ _ _ _ rfl;have hbx:=fun wx=>nU ⟨BW,BH,A,BW*BH,aC,bs,X,Y⟩ wx;have hip:=fun (x y:Int) wx=>mN x y BW BH W H wx hW hH;unfold Anc.val Anc.box Bx.val at hbx;have Hbx:=aHH hbx;have Hip:=aHH hip;have k1:=w31.all8;have k2:=w32.all5;have k3:=w33.all3;have lw3:w3.heap.size=w.heap.size+3:=(by simp[w3]);obtain ⟨B1,B2,B3,W3b,FD0⟩:=aHK w31 w32 w33 w3b (show FD 0=(0,0,-1) by rw[hFD];rfl);unfold Frm.val Anc.val;clear hok RM hFD hA hC hbx hip aFs hin VQ w31 w32 w33 w3b
 go_in
 go_upto_region 2 with fail;obtain ⟨w4,hw4⟩:=aH0 (w3.alloc (.cells #[.int .i64 0,.int .i64 0,.int .i64 (-1)] 87))
 change Code.wp _ _ _ _ (w3.alloc (.cells #[.int .i64 0,.int .i64 0,.int .i64 (-1)] 87))
 have e3:w3.heap.size=w.heap.size+1+1+1:=(by simp[w3]);rw[←hw4];obtain ⟨g,hg⟩:=aH0 (w.heap.size+1+1+1);have hg3:w3.heap.size≤g:=(by omega);have b4:Blk w4 g 87 #[.int .i64 0,.int .i64 0,.int .i64 (-1)]:=(by rw[hw4,hg,←e3];exact Blk.new w3 _ _);have hb4:=aHU hw4;rw[←hg];obtain ⟨B4,Hb4,Hg3⟩:=aHI b4 hb4 hg3;have k1:=(B1.out.bl hb4).all8;clear_value w3;clear hw4 e3 hg b4 hb4 lw3 k2 k3 hg3;go_wp2_with fail;go_loopw [7] (fun u wr=>∃(v:Nat) (x y n:Int),v≤2*r+1∧u=.int .i64 ((v:Int)-r)∧Hid (FD (v*(2*r+1))=(x,y,n))∧Hid (Blk wr g 87 #[x,.int .i64 y,.int .i64 n])∧Bl w3 wr) (fun u _=>(r+1-intOf u).toNat);case atStart=>exact ⟨0,0,0,-1,Nat.zero_le _,by simp,by rw[Nat.zero_mul];exact FD0,B4,Hb4.out⟩
 case round=>
  clear k1;obtain ⟨v,x0,y0,n0,hv,rfl,hst,hF,hbr⟩:=hrel;have k1:=(B1.out.bl hbr).all8;by_cases hlt:v<2*r+1
  ·have d1:decide ((v:Int)-(r:Int)≤(r:Int))=true:=(by simp;omega);go_wp2_with fail;go_loopw [8] (fun u wy=>∃(x:Nat) (xx yy nn:Int),x≤2*r+1∧u=.int .i64 ((x:Int)-r)∧Hid (FD (v*(2*r+1)+x)=(xx,yy,nn))∧Hid (Blk wy g 87 #[xx,yy,nn])∧Bl w3 wy) (fun u _=>(r+1-intOf u).toNat);case atStart=>exact ⟨0,x0,y0,n0,Nat.zero_le _,by simp,hst,hF,hbr⟩
   case round=>
    clear hst hbr hF k1;rename World=>wq;obtain ⟨x,X0,Y0,N0,hx,rfl,hst,hF,hbr⟩:=hrel;have k1:=(B1.out.bl hbr).all8;by_cases iH:x<2*r+1
    ·have d2:decide ((x:Int)-(r:Int)≤(r:Int))=true:=(by simp;omega);have k2:=(B2.out.bl hbr).all5;obtain ⟨P,hP⟩:=aH0 (X+((x:Int)-(r:Int)):Int);obtain ⟨Q,hQ⟩:=aH0 (Y+((v:Int)-(r:Int)):Int);obtain ⟨m,hm⟩:=aH0 (v*(2*r+1)+x);have edx:=JN r v x iH;have edy:=JO r v x iH;have aFt:ok m=dG P Q BW BH W H:=(by rw[HOk.out,hm];unfold okA;rw[edx,edy,hP,hQ]);have bP:-5000≤P∧P≤5000:=(by omega);have bQ:-5000≤Q∧Q≤5000:=(by omega);have eP:=hP.symm;have eQ:=hQ.symm;rw[←hm] at hst edx edy;obtain ⟨aFu,Hm,HP,HQ,Hbr,Edx,Edy⟩:=aHM aFt hm hP hQ hbr edx edy;clear aFt hm hP hQ edx edy hbr;go_wp2_with fail;refine (Hbx.out _).mono ?_;rintro e w5 ⟨rfl,hb5⟩;have k1:=(B1.out.bl (Hbr.out.trans hb5)).all8;go_upto_region 10 with fail;obtain ⟨w6,hw6⟩:=aH0 (w5.alloc (.cells #[P,Q,BW,BH] 58));have b6:=aHV hw6;have ZK:=aHU hw6;rw[←hw6];obtain ⟨Hb6,F6,B6⟩:=aHI (Hbr.out.trans (hb5.trans ZK)) (hF.out.bl (hb5.trans ZK)) b6;have k1:=(B1.out.bl Hb6.out).all8;have k4:=b6.all4;clear hw6 b6 ZK hb5 hF k2;go_wp2_with fail;refine (Hip.out P Q _).mono ?_;rintro e w7 ⟨rfl,hb7⟩;obtain ⟨F7,B7,Hb7⟩:=aHI (F6.out.bl hb7) (B6.out.bl hb7) (Hb6.out.trans hb7);have k1:=(B1.out.bl Hb7.out).all8;clear k4 hb7;cases hpg:dG P Q BW BH W H with
     |false=>have HX:=aHH (show FD (m+1)=(X0,Y0,N0) by rw[HFD.out,PO (by rw[aFu.out,hpg]),←HFD.out];exact hst.out);clear hpg;go_wp2_with fail;exact ⟨⟨x+1,X0,Y0,N0,iH,by go_num,by rw[show v*(2*r+1)+(x+1)=m+1 by rw[Hm.out];omega];exact HX,F7,Hb7.out⟩,by simp[intOf];omega⟩
     |true=>
      have aGI:=aHH (aFu.out.trans hpg);have VQ:=aIv (show decide (0≤P∧P<(W:Int)∧0≤Q∧Q<(H:Int)∧1≤(BW:Int)∧(BW:Int)≤(W:Int)-P∧1≤(BH:Int)∧(BH:Int)≤(H:Int)-Q)=true from hpg);obtain ⟨PX,rfl⟩:=Int.eq_ofNat_of_zero_le VQ.1;obtain ⟨PY,rfl⟩:=Int.eq_ofNat_of_zero_le VQ.2.2.1;have hx1:PX+BW≤W:=(by omega);have hy1:PY+BH≤H:=(by omega);have Hnm:=aHH (show num m=AQ bs (fS BW BH (iU cs W PX PY)) BW BH 0 0 (BW*BH) by
       rw[aDT.out];unfold aBc;simp only[aIF];rw[Edx.out,Edy.out,←HP.out,←HQ.out,aIF,aIF])
      obtain ⟨gr,hgr⟩:=aH0 (fS BW BH (iU cs W PX PY));have hcut:=fun i (hi:i<BW*BH)=>W6 bs cs W BW BH PX PY i hi;rw[←hgr] at Hnm hcut;have aCX:=aHH hcut;have k2:=(B2.out.bl Hb7.out).all5;clear hpg VQ hgr hcut bP bQ;go_wp2_with fail;go_loopw [10,55] (fun n u wy=>∃i:Nat,i≤BW*BH∧u=.int .i64 i∧n=.int .i64 (AQ bs gr BW BH 0 0 i)∧Bl w7 wy) (fun _ u _=>BW*BH-(intOf u).toNat);case atStart=>exact ⟨0,Nat.zero_le _,rfl,rfl,Bl.refl _⟩
      case round=>
       clear k1 k2;rename World=>wy;obtain ⟨i,hi,rfl,rfl,hby⟩:=hrel;by_cases RB:i<BW*BH
       ·have hWp:¬(BW=0):=(by rintro rfl;simp at aDE);have k3:=(B3.out.bl (Hb7.out.trans hby)).all3;have k4:=(B7.out.bl hby).all4;have mlt:i % BW<BW:=Nat.mod_lt _ (by omega);have dlt:i / BW<BH:=Nat.div_lt_of_lt_mul RB;obtain ⟨ad,ua,eA,hu,hca⟩:=((HA.out.bl W3b.out).bl (Hb7.out.trans hby)).at_ RB;have hua:ua=.bool (bs.getD i false):=by
         simp only[aId,Option.map_eq_some_iff] at hu;obtain ⟨b,hb1,hb2⟩:=hu;rw[←hb2,List.getD,hb1];rfl
        clear hu;subst hua eA;have RP:=aCX.out i RB;obtain ⟨xi,hxi⟩:=aH0 (i % BW);obtain ⟨yi,hyi⟩:=aH0 (i / BW);rw[←hxi,←hyi] at RP;rw[←hxi] at mlt;rw[←hyi] at dlt;have f1:(i:Int) % (BW:Int)=(xi:Int):=(by rw[hxi];simp);have f2:(i:Int) / (BW:Int)=(yi:Int):=(by rw[hyi];simp);obtain ⟨cd,eC,hcc⟩:=((HC.out.bl W3b.out).bl (Hb7.out.trans hby)).place (show PX+xi<W by omega) (show PY+yi<H by omega);subst eC;have hk:=d8 (show PX+xi<W by omega) (show PY+yi<H by omega);obtain ⟨k,hkk⟩:=aH0 ((PY+yi)*W+(PX+xi));rw[←hkk] at hcc hk;obtain ⟨T1,hT1⟩:=aH0 ((PY+yi)*W);have f3:((PY:Int)+(yi:Int))*(W:Int)=(T1:Int):=(by rw[hT1];simp);have f4:(T1:Int)+(PX:Int)+(xi:Int)=(k:Int):=(by rw[hkk,←hT1];simp;omega);have f5:T1≤16000000:=(by rw[hT1];have:=aIH (show PY+yi≤4000 by omega) (show W≤4000 by omega);omega);have f6:(k:Int)<(W:Int)*(H:Int):=(by have:=aIG W H;omega);have hcl:=C6 bs gr BW BH 0 0 i;obtain ⟨n,hn⟩:=aH0 (AQ bs gr BW BH 0 0 i);obtain ⟨va,hva⟩:=aH0 (bs.getD i false);obtain ⟨vb,hvb⟩:=aH0 (pix cs W (PX+xi) (PY+yi));rw[←hn] at RP hcl ⊢;rw[←hva] at RP hca;rw[←hvb] at RP hcc;have aGJ:=aHH RP;have Hby:=aHH hby
        have k2:=(B2.out.bl (Hb7.out.trans hby)).all5;clear hxi hyi hkk hT1 hn hva hvb RP hby
        go_upto_region 15 with fail;refine aHZ [aHX 0,aHX 1,aHX 2,aHX 3,aHX 4,aHX 5,aHX 6,aHX 7,aHX 8,aHX 9,aHX 10,aHX 11,aHX 12,aHX 13,aHX 14,aHX 15,aHX 16,aHX 17,aHX 18,aHX 19,aHX 20,aHX 21,aHX 22,aHX 23] (by kernel_rfl) ?_;apply Flow.mv _ rfl
        ·intro a b;simp only[sqA,Act.eval,sqC];exact b
        iterate 4
         apply Flow.calm2 _ _ rfl rfl
         ·intro a b c d;obtain ⟨e,f⟩:=b.rule;go_simp;(try go_ints);exact d
         ·intro a b;simp only[sqA];exact b
        apply Flow.mv _ rfl
        ·intro a b;simp only[sqA,Act.eval,sqC];exact b
        iterate 10
         apply Flow.calm2 _ _ rfl rfl
         ·intro a b c d;obtain ⟨e,f⟩:=b.rule;go_simp;(try go_ints);exact d
         ·intro a b;simp only[sqA];exact b
        apply Flow.mv _ rfl
        ·intro a b;simp only[sqA,Act.eval,sqC];exact b
        iterate 7
         apply Flow.calm2 _ _ rfl rfl
         ·intro a b c d;obtain ⟨e,f⟩:=b.rule;go_simp;(try go_ints);exact d
         ·intro a b;simp only[sqA];exact b
        refine Flow.done ?_;cases va<;>cases vb
        all_goals
         go_wp2_with fail;exact ⟨⟨i+1,RB,by go_num,by rw[aGJ.out];simp,Hby.out.drew⟩,by simp[intOf];omega⟩
       ·obtain rfl:i=BW*BH:=(by omega);rw[←Hnm.out];have aCY:mD ok num r m=(X0,Y0,N0):=(by rw[←HFD.out];exact hst.out);have hbd:=(vR ok num r m).bd (by rw[Hm.out];exact Nat.le_of_lt (d8 iH hlt)) hr;rw[aCY] at hbd;simp only at hbd;have RQ:=fun (hc:N0<0∨(num m:Int)<N0∨((num m:Int)=N0∧(iK r m:Int)<X0.natAbs+Y0.natAbs))=>PP aCY aGI.out hc;have zD:=fun (hc:¬(N0<0∨(num m:Int)<N0∨((num m:Int)=N0∧(iK r m:Int)<X0.natAbs+Y0.natAbs)))=>PQ (ok:=ok) (num:=num) (r:=r) (m:=m) aCY hc;have N1:(iK r m:Int)=(((x:Int)-r).natAbs:Int)+(((v:Int)-r).natAbs:Int):=(by unfold iK;rw[Edx.out,Edy.out];simp);have aGK:num m≤16000000:=(by rw[Hnm.out];have:=C6 bs gr BW BH 0 0 (BW*BH);omega);rw[←HFD.out] at RQ zD;rw[N1,Edx.out,Edy.out] at RQ;rw[N1] at zD;obtain ⟨n,hn⟩:=aH0 (num m);rw[←hn] at RQ zD aGK ⊢;obtain ⟨qa,hqa⟩:=aH0 (((x:Int)-r).natAbs);obtain ⟨qb,hqb⟩:=aH0 (((v:Int)-r).natAbs);obtain ⟨qx,hqx⟩:=aH0 X0.natAbs;obtain ⟨qy,hqy⟩:=aH0 Y0.natAbs;rw[←hqa,←hqb,←hqx,←hqy] at RQ zD;have a1:(((x:Int)-r).natAbs:Int)=(qa:Int):=(by rw[hqa]);have a2:(((v:Int)-r).natAbs:Int)=(qb:Int):=(by rw[hqb]);have a3:(X0.natAbs:Int)=(qx:Int):=(by rw[hqx]);have a4:(Y0.natAbs:Int)=(qy:Int):=(by rw[hqy]);have a5:qa≤100∧qb≤100∧qx≤100∧qy≤100:=(by omega);have b1:-1000000≤(x:Int)-r∧(x:Int)-r≤1000000:=(by omega);have b2:-1000000≤(v:Int)-r∧(v:Int)-r≤1000000:=(by omega);have Hby:=aHH (Hb7.out.trans hby);have Fy:=aHH (F7.out.bl hby);have kF:=(F7.out.bl hby).all3;clear hqa hqb hqx hqy hn N1 hst aCY hby d1 d2 ub aDE hmB ubX hx1 hy1 eP eQ hWH;go_upto_region 18 with fail;rcases (show N0<0∨(¬N0<0∧(n:Int)<N0)∨(¬N0<0∧(n:Int)=N0∧(qa:Int)+qb<qx+qy)∨(¬N0<0∧(n:Int)=N0∧¬((qa:Int)+qb<qx+qy))∨(¬N0<0∧N0<(n:Int)) by omega) with c1|⟨c1,c2⟩|⟨c1,c2,c3⟩|⟨c1,c2,c3⟩|⟨c1,c2⟩
        ·have Hs:=aHH (RQ (Or.inl c1));clear RQ zD;refine aHZ [aHX 0,aHX 1,aHX 2,aHX 3,aHX 4,aHX 5,aHX 6,aHX 7,aHX 8,aHX 9,aHX 10,aHX 11,aHX 12,aHX 13,aHX 14,aHX 15,aHX 17,aHX 20,aHX 21,aHX 23,aHX 24,aHY 16,aHY 18,aHX 19,aHY 22,aHY 25,aHX 26,aHX 27,aHX 28,aHX 29] (by kernel_rfl) ?_
         iterate 3
          apply Flow.calm2 _ _ rfl rfl
          ·intro a b c d;obtain ⟨e,f⟩:=b.rule;go_simp;(try go_ints);exact d
          ·intro a b;simp only[sqA];exact b
         apply Flow.mv _ rfl
         ·intro a b;simp only[sqA,Act.eval,sqC];exact b
         iterate 4
          first
           | (apply Flow.pass rfl (by rfl))
           | (apply Flow.calmG _ rfl (by rfl)
              ·intro a b;obtain ⟨e,f⟩:=b.rule;go_simp;all_goals (try rfl))
          simp only[sqA];try go_ints
         apply Flow.calm2 _ _ rfl rfl
         ·intro a b c d;obtain ⟨e,f⟩:=b.rule;go_simp;(try go_ints);exact d
         ·intro a b;simp only[sqA];exact b
         apply Flow.mv _ rfl
         ·intro a b;simp only[sqA,Act.eval,sqC];exact b
         iterate 11
          first
           | (apply Flow.pass rfl (by rfl))
           | (apply Flow.calmG _ rfl (by rfl)
              ·intro a b;obtain ⟨e,f⟩:=b.rule;go_simp;all_goals (try rfl))
          simp only[sqA];try go_ints
         apply Flow.move rfl;go_wp2_with fail;first|refine ⟨fun _=>Bl.refl _,?_⟩|refine ⟨Bl.refl _,?_⟩
         apply Flow.move rfl;go_wp2_with fail;first|refine ⟨fun _=>Bl.refl _,?_⟩|refine ⟨Bl.refl _,?_⟩
         first
          | (apply Flow.pass rfl (by rfl))
          | (apply Flow.calmG _ rfl (by rfl)
             ·intro a b;obtain ⟨e,f⟩:=b.rule;go_simp;all_goals (try rfl))
         simp only[sqA];try go_ints
         apply Flow.move rfl;go_wp2_with fail;first|refine ⟨fun _=>Bl.refl _,?_⟩|refine ⟨Bl.refl _,?_⟩
         apply Flow.move rfl;go_wp2_with fail;first|refine ⟨fun _=>Bl.refl _,?_⟩|refine ⟨Bl.refl _,?_⟩
         iterate 3
          first
           | (apply Flow.pass rfl (by rfl))
           | (apply Flow.calmG _ rfl (by rfl)
              ·intro a b;obtain ⟨e,f⟩:=b.rule;go_simp;all_goals (try rfl))
          simp only[sqA];try go_ints
         apply Flow.calm2 _ _ rfl rfl
         ·intro a b c d;obtain ⟨e,f⟩:=b.rule;go_simp;(try go_ints);exact d
         ·intro a b;simp only[sqA];exact b
         refine Flow.done ?_;go_wp2_with fail;exact ⟨⟨x+1,_,_,_,iH,by go_num,by rw[show v*(2*r+1)+(x+1)=m+1 by rw[Hm.out];omega];exact Hs,aHH (by simpa using (((Fy.out.set_ 0 (.int .i64 ((x:Int)-r))).set_ 1 (.int .i64 ((v:Int)-r))).set_ 2 (.int .i64 n)).drew),(((Hby.out.setCell Hg3.out _).setCell Hg3.out _).setCell Hg3.out _).drew⟩,by simp[intOf];omega⟩
        ·have Hs:=aHH (RQ (Or.inr (Or.inl c2)));clear RQ zD;refine aHZ [aHX 0,aHX 1,aHX 2,aHX 3,aHX 4,aHX 5,aHX 6,aHX 7,aHX 8,aHX 9,aHX 10,aHX 11,aHX 12,aHX 13,aHX 14,aHX 15,aHX 17,aHX 20,aHX 21,aHX 23,aHX 24,aHY 16,aHY 18,aHX 19,aHY 22,aHY 25,aHX 26,aHX 27,aHX 28,aHX 29] (by kernel_rfl) ?_
         iterate 3
          apply Flow.calm2 _ _ rfl rfl
          ·intro a b c d;obtain ⟨e,f⟩:=b.rule;go_simp;(try go_ints);exact d
          ·intro a b;simp only[sqA];exact b
         apply Flow.mv _ rfl
         ·intro a b;simp only[sqA,Act.eval,sqC];exact b
         iterate 4
          first
           | (apply Flow.pass rfl (by rfl))
           | (apply Flow.calmG _ rfl (by rfl)
              ·intro a b;obtain ⟨e,f⟩:=b.rule;go_simp;all_goals (try rfl))
          simp only[sqA];try go_ints
         apply Flow.calm2 _ _ rfl rfl
         ·intro a b c d;obtain ⟨e,f⟩:=b.rule;go_simp;(try go_ints);exact d
         ·intro a b;simp only[sqA];exact b
         apply Flow.mv _ rfl
         ·intro a b;simp only[sqA,Act.eval,sqC];exact b
         iterate 11
          first
           | (apply Flow.pass rfl (by rfl))
           | (apply Flow.calmG _ rfl (by rfl)
              ·intro a b;obtain ⟨e,f⟩:=b.rule;go_simp;all_goals (try rfl))
          simp only[sqA];try go_ints
         apply Flow.move rfl;go_wp2_with fail;first|refine ⟨fun _=>Bl.refl _,?_⟩|refine ⟨Bl.refl _,?_⟩
         apply Flow.move rfl;go_wp2_with fail;first|refine ⟨fun _=>Bl.refl _,?_⟩|refine ⟨Bl.refl _,?_⟩
         first
          | (apply Flow.pass rfl (by rfl))
          | (apply Flow.calmG _ rfl (by rfl)
             ·intro a b;obtain ⟨e,f⟩:=b.rule;go_simp;all_goals (try rfl))
         simp only[sqA];try go_ints
         apply Flow.move rfl;go_wp2_with fail;first|refine ⟨fun _=>Bl.refl _,?_⟩|refine ⟨Bl.refl _,?_⟩
         apply Flow.move rfl;go_wp2_with fail;first|refine ⟨fun _=>Bl.refl _,?_⟩|refine ⟨Bl.refl _,?_⟩
         iterate 3
          first
           | (apply Flow.pass rfl (by rfl))
           | (apply Flow.calmG _ rfl (by rfl)
              ·intro a b;obtain ⟨e,f⟩:=b.rule;go_simp;all_goals (try rfl))
          simp only[sqA];try go_ints
         apply Flow.calm2 _ _ rfl rfl
         ·intro a b c d;obtain ⟨e,f⟩:=b.rule;go_simp;(try go_ints);exact d
         ·intro a b;simp only[sqA];exact b
         refine Flow.done ?_;go_wp2_with fail;exact ⟨⟨x+1,_,_,_,iH,by go_num,by rw[show v*(2*r+1)+(x+1)=m+1 by rw[Hm.out];omega];exact Hs,aHH (by simpa using (((Fy.out.set_ 0 (.int .i64 ((x:Int)-r))).set_ 1 (.int .i64 ((v:Int)-r))).set_ 2 (.int .i64 n)).drew),(((Hby.out.setCell Hg3.out _).setCell Hg3.out _).setCell Hg3.out _).drew⟩,by simp[intOf];omega⟩
        ·have Hs:=aHH (RQ (Or.inr (Or.inr ⟨c2,c3⟩)));clear RQ zD;subst c2;refine aHZ [aHX 0,aHX 1,aHX 2,aHX 3,aHX 4,aHX 5,aHX 6,aHX 7,aHX 8,aHX 9,aHX 10,aHX 11,aHX 12,aHX 13,aHX 14,aHX 15,aHX 17,aHX 20,aHX 21,aHX 23,aHX 24,aHY 16,aHY 18,aHX 19,aHY 22,aHY 25,aHX 26,aHX 27,aHX 28,aHX 29] (by kernel_rfl) ?_
         iterate 3
          apply Flow.calm2 _ _ rfl rfl
          ·intro a b c d;obtain ⟨e,f⟩:=b.rule;go_simp;(try go_ints);exact d
          ·intro a b;simp only[sqA];exact b
         apply Flow.mv _ rfl
         ·intro a b;simp only[sqA,Act.eval,sqC];exact b
         iterate 4
          first
           | (apply Flow.pass rfl (by rfl))
           | (apply Flow.calmG _ rfl (by rfl)
              ·intro a b;obtain ⟨e,f⟩:=b.rule;go_simp;all_goals (try rfl))
          simp only[sqA];try go_ints
         apply Flow.calm2 _ _ rfl rfl
         ·intro a b c d;obtain ⟨e,f⟩:=b.rule;go_simp;(try go_ints);exact d
         ·intro a b;simp only[sqA];exact b
         apply Flow.mv _ rfl
         ·intro a b;simp only[sqA,Act.eval,sqC];exact b
         iterate 11
          first
           | (apply Flow.pass rfl (by rfl))
           | (apply Flow.calmG _ rfl (by rfl)
              ·intro a b;obtain ⟨e,f⟩:=b.rule;go_simp;all_goals (try rfl))
          simp only[sqA];try go_ints
         apply Flow.move rfl;go_wp2_with fail;refine (jI _ _ (by omega)).mono ?_;rintro e w' ⟨rfl,rfl⟩;go_wp2_with fail;refine ⟨fun _=>(by first|exact HB1|exact Bl.refl _),?_⟩;apply Flow.move rfl;go_wp2_with fail;refine (jI _ _ (by omega)).mono ?_;rintro e w' ⟨rfl,rfl⟩;go_wp2_with fail;refine ⟨fun _=>(by first|exact HB2|exact Bl.refl _),?_⟩
         first
          | (apply Flow.pass rfl (by rfl))
          | (apply Flow.calmG _ rfl (by rfl)
             ·intro a b;obtain ⟨e,f⟩:=b.rule;go_simp;all_goals (try rfl))
         simp only[sqA];try go_ints
         apply Flow.move rfl;go_wp2_with fail;refine (jI _ _ (by omega)).mono ?_;rintro e w' ⟨rfl,rfl⟩;go_wp2_with fail;refine ⟨fun _=>(by first|exact HB3|exact Bl.refl _),?_⟩;apply Flow.move rfl;go_wp2_with fail;refine (jI _ _ (by omega)).mono ?_;rintro e w' ⟨rfl,rfl⟩;go_wp2_with fail;refine ⟨fun _=>(by first|exact HB4|exact Bl.refl _),?_⟩
         iterate 3
          first
           | (apply Flow.pass rfl (by rfl))
           | (apply Flow.calmG _ rfl (by rfl)
              ·intro a b;obtain ⟨e,f⟩:=b.rule;go_simp;all_goals (try rfl))
          simp only[sqA];try go_ints
         apply Flow.calm2 _ _ rfl rfl
         ·intro a b c d;obtain ⟨e,f⟩:=b.rule;go_simp;(try go_ints);exact d
         ·intro a b;simp only[sqA];exact b
         refine Flow.done ?_;go_wp2_with fail;exact ⟨⟨x+1,_,_,_,iH,by go_num,by rw[show v*(2*r+1)+(x+1)=m+1 by rw[Hm.out];omega];exact Hs,aHH (by simpa using (((Fy.out.set_ 0 (.int .i64 ((x:Int)-r))).set_ 1 (.int .i64 ((v:Int)-r))).set_ 2 (.int .i64 n)).drew),(((Hby.out.setCell Hg3.out _).setCell Hg3.out _).setCell Hg3.out _).drew⟩,by simp[intOf];omega⟩
        ·have Hs:=aHH (zD (by omega));clear RQ zD;subst c2;refine aHZ [aHX 0,aHX 1,aHX 2,aHX 3,aHX 4,aHX 5,aHX 6,aHX 7,aHX 8,aHX 9,aHX 10,aHX 11,aHX 12,aHX 13,aHX 14,aHX 15,aHX 17,aHX 20,aHX 21,aHX 23,aHX 24,aHY 16,aHY 18,aHX 19,aHY 22,aHY 25,aHX 26,aHX 27,aHX 28,aHX 29] (by kernel_rfl) ?_
         iterate 3
          apply Flow.calm2 _ _ rfl rfl
          ·intro a b c d;obtain ⟨e,f⟩:=b.rule;go_simp;(try go_ints);exact d
          ·intro a b;simp only[sqA];exact b
         apply Flow.mv _ rfl
         ·intro a b;simp only[sqA,Act.eval,sqC];exact b
         iterate 4
          first
           | (apply Flow.pass rfl (by rfl))
           | (apply Flow.calmG _ rfl (by rfl)
              ·intro a b;obtain ⟨e,f⟩:=b.rule;go_simp;all_goals (try rfl))
          simp only[sqA];try go_ints
         apply Flow.calm2 _ _ rfl rfl
         ·intro a b c d;obtain ⟨e,f⟩:=b.rule;go_simp;(try go_ints);exact d
         ·intro a b;simp only[sqA];exact b
         apply Flow.mv _ rfl
         ·intro a b;simp only[sqA,Act.eval,sqC];exact b
         iterate 11
          first
           | (apply Flow.pass rfl (by rfl))
           | (apply Flow.calmG _ rfl (by rfl)
              ·intro a b;obtain ⟨e,f⟩:=b.rule;go_simp;all_goals (try rfl))
          simp only[sqA];try go_ints
         apply Flow.move rfl;go_wp2_with fail;refine (jI _ _ (by omega)).mono ?_;rintro e w' ⟨rfl,rfl⟩;go_wp2_with fail;refine ⟨fun _=>(by first|exact HB1|exact Bl.refl _),?_⟩;apply Flow.move rfl;go_wp2_with fail;refine (jI _ _ (by omega)).mono ?_;rintro e w' ⟨rfl,rfl⟩;go_wp2_with fail;refine ⟨fun _=>(by first|exact HB2|exact Bl.refl _),?_⟩
         first
          | (apply Flow.pass rfl (by rfl))
          | (apply Flow.calmG _ rfl (by rfl)
             ·intro a b;obtain ⟨e,f⟩:=b.rule;go_simp;all_goals (try rfl))
         simp only[sqA];try go_ints
         apply Flow.move rfl;go_wp2_with fail;refine (jI _ _ (by omega)).mono ?_;rintro e w' ⟨rfl,rfl⟩;go_wp2_with fail;refine ⟨fun _=>(by first|exact HB3|exact Bl.refl _),?_⟩;apply Flow.move rfl;go_wp2_with fail;refine (jI _ _ (by omega)).mono ?_;rintro e w' ⟨rfl,rfl⟩;go_wp2_with fail;refine ⟨fun _=>(by first|exact HB4|exact Bl.refl _),?_⟩
         iterate 3
          first
           | (apply Flow.pass rfl (by rfl))
           | (apply Flow.calmG _ rfl (by rfl)
              ·intro a b;obtain ⟨e,f⟩:=b.rule;go_simp;all_goals (try rfl))
          simp only[sqA];try go_ints
         apply Flow.calm2 _ _ rfl rfl
         ·intro a b c d;obtain ⟨e,f⟩:=b.rule;go_simp;(try go_ints);exact d
         ·intro a b;simp only[sqA];exact b
         refine Flow.done ?_;go_wp2_with fail;exact ⟨⟨x+1,_,_,_,iH,by go_num,by rw[show v*(2*r+1)+(x+1)=m+1 by rw[Hm.out];omega];exact Hs,aHH Fy.out.drew,Hby.out.drew⟩,by simp[intOf];omega⟩
        ·have Hs:=aHH (zD (by omega));have c3:((n:Int)==N0)=false:=(by simp;omega);have c4:¬(n:Int)<N0:=(by omega);have c5:decide ((n:Int)<N0)=false:=aIt c4;clear RQ zD;refine aHZ [aHX 0,aHX 1,aHX 2,aHX 3,aHX 4,aHX 5,aHX 6,aHX 7,aHX 8,aHX 9,aHX 10,aHX 11,aHX 12,aHX 13,aHX 14,aHX 15,aHX 17,aHX 20,aHX 21,aHX 23,aHX 24,aHY 16,aHY 18,aHX 19,aHY 22,aHY 25,aHX 26,aHX 27,aHX 28,aHX 29] (by kernel_rfl) ?_
         iterate 3
          apply Flow.calm2 _ _ rfl rfl
          ·intro a b c d;obtain ⟨e,f⟩:=b.rule;go_simp;(try go_ints);exact d
          ·intro a b;simp only[sqA];exact b
         apply Flow.mv _ rfl
         ·intro a b;simp only[sqA,Act.eval,sqC];exact b
         iterate 4
          first
           | (apply Flow.pass rfl (by rfl))
           | (apply Flow.calmG _ rfl (by rfl)
              ·intro a b;obtain ⟨e,f⟩:=b.rule;go_simp;all_goals (try rfl))
          simp only[sqA];try go_ints
         apply Flow.calm2 _ _ rfl rfl
         ·intro a b c d;obtain ⟨e,f⟩:=b.rule;go_simp;(try go_ints);exact d
         ·intro a b;simp only[sqA];exact b
         apply Flow.mv _ rfl
         ·intro a b;simp only[sqA,Act.eval,sqC];exact b
         iterate 11
          first
           | (apply Flow.pass rfl (by rfl))
           | (apply Flow.calmG _ rfl (by rfl)
              ·intro a b;obtain ⟨e,f⟩:=b.rule;go_simp;all_goals (try rfl))
          simp only[sqA];try go_ints
         apply Flow.move rfl;go_wp2_with fail;first|refine ⟨fun _=>Bl.refl _,?_⟩|refine ⟨Bl.refl _,?_⟩
         apply Flow.move rfl;go_wp2_with fail;first|refine ⟨fun _=>Bl.refl _,?_⟩|refine ⟨Bl.refl _,?_⟩
         first
          | (apply Flow.pass rfl (by rfl))
          | (apply Flow.calmG _ rfl (by rfl)
             ·intro a b;obtain ⟨e,f⟩:=b.rule;go_simp;all_goals (try rfl))
         simp only[sqA];try go_ints
         apply Flow.move rfl;go_wp2_with fail;first|refine ⟨fun _=>Bl.refl _,?_⟩|refine ⟨Bl.refl _,?_⟩
         apply Flow.move rfl;go_wp2_with fail;first|refine ⟨fun _=>Bl.refl _,?_⟩|refine ⟨Bl.refl _,?_⟩
         iterate 3
          first
           | (apply Flow.pass rfl (by rfl))
           | (apply Flow.calmG _ rfl (by rfl)
              ·intro a b;obtain ⟨e,f⟩:=b.rule;go_simp;all_goals (try rfl))
          simp only[sqA];try go_ints
         apply Flow.calm2 _ _ rfl rfl
         ·intro a b c d;obtain ⟨e,f⟩:=b.rule;go_simp;(try go_ints);exact d
         ·intro a b;simp only[sqA];exact b
         refine Flow.done ?_;go_wp2_with fail;exact ⟨⟨x+1,_,_,_,iH,by go_num,by rw[show v*(2*r+1)+(x+1)=m+1 by rw[Hm.out];omega];exact Hs,aHH Fy.out.drew,Hby.out.drew⟩,by simp[intOf];omega⟩
    ·obtain rfl:x=2*r+1:=(by omega);go_wp2_with fail;exact ⟨⟨v+1,X0,Y0,N0,hlt,by go_num,by rw[Nat.add_mul,Nat.one_mul];exact hst,hF,hbr⟩,by simp[intOf];omega⟩
  ·obtain rfl:v=2*r+1:=(by omega);have kF:=hF.out.all3;go_wp2_with fail;refine aIx (v:=.agg #[x0,y0,n0]) (by simp[results,Tryz.results160,go_sem,kF]) rfl ⟨by rw[hst.out],W3b.out.trans (((hbr.setCell Hg3.out _).setCell Hg3.out _).setCell Hg3.out _)⟩
end Go.Proofs.YtllefinciimffaaGreatDoor
