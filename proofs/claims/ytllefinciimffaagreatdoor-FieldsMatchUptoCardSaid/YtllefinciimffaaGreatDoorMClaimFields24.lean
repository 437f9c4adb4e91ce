import Derived.Test.YtllefinciimffaaGreatDoorMClaimFields23
import Derived.Shelf.GgClosure.StringsIndexFuncTop
import Derived.Laws.RangeAny
import Derived.Ground.GgwProg
set_option maxHeartbeats 20000000
set_option maxRecDepth 100000
namespace Go.Proofs.YtllefinciimffaaGreatDoor
open Go.RowKit Go.Shelf
theorem iC (a b:List Int):aB (aB a :: b)=aB (a++b):=by
 induction a with
 |nil=>exact bT
 |cons x a ih=>
  by_cases hx:x=0
  ·rw[cV hx,aIO,cV hx,ih]
  ·rw[aIO,aJ hx,aJ hx,aJ hx]
theorem G6 (l m:List Int):aB (l++[aB m])=aB (l++m):=by
 induction l with
 |nil=>
  show (if aB m=0 then 0 else aB m)=aB m;split
  ·rename_i h;rw[h]
  ·rfl
 |cons x l ih=>
  by_cases hx:x=0
  ·rw[aIO,cV hx,aIO,cV hx,ih]
  ·rw[aIO,aIO,aJ hx,aJ hx]
theorem QF (W H:Int) (tw:Bool) (f:Fld):oD W H tw f=aB [aB [aE (!cG f.name) 5,aE tw 6,aE (!inB f.kind 1 4) 1],aB [aB [aB [(if cC f.kind then aE (!decide (f.box=Bx.zero)) 2 else aE (!f.box.inP W H) 13),aE (cC f.kind != decide (0<f.marks.length)) 2,aE (decide (20<f.marks.length)) 4],dJ W H f.marks],aE (!inB f.most 0 1000) 3,aE (!decide (f.kind=1)&&!decide (f.most=0)) 2]]:=by
 have h1:∀(c:List Int) (p r1 r2:Int),aB [aB [aB c,p],r1,r2]=aB (c++[p,r1,r2]):=fun c p r1 r2=>by
  rw[iC,aIO,iC];rfl
 rw[h1,iC,G6];rfl
def gJ (e:Int) (W H:Int) (l:List Bx):Int:=aB [e,dJ W H l]
theorem z6 (W H:Int) (l:List Bx) (b:Bx):aB [dJ W H l,aE (!b.inP W H) 13]=dJ W H (l++[b]):=by
 unfold dJ;rw[List.any_append];cases h1:(l.any fun b => !b.inP W H)<;>cases h2:b.inP W H<;>simp[h2,aE,aB]
theorem DZ (e W H:Int) (l:List Bx) (b:Bx):aB [gJ e W H l,aE (!b.inP W H) 13]=gJ e W H (l++[b]):=by
 unfold gJ;rw[←z6];by_cases h:e=0
 ·rw[cV h,cV h,iC,iC];simp[aB]
 ·rw[aJ h,aJ h,aJ h]
theorem QG (fs:List Fld) (t:List UInt8):decide (∃l∈fs,gB t l=true)=decide (t∈fs.map Fld.name):=by
 apply decide_eq_decide.2;constructor
 ·rintro ⟨l,hl,h⟩;exact aIK.2 ⟨l,hl,aIv h⟩
 ·intro h;obtain ⟨l,hl,h2⟩:=aIK.1 h;exact ⟨l,hl,aIu h2⟩
theorem FldsAt.take {w:World} {L:Option Addr} {l:List Fld} (h:FldsAt w L l) (i:Nat) (hi:i≤l.length):FldsAt w L (l.take i):=by
 have e:(l.take i).flatMap Fld.cells=(l.flatMap Fld.cells).take (i*9):=by
  conv=>rhs;rw[←aIh i l,aIL]
  rw[aIz (by rw[lS Fld.cells 9 (fun _=>rfl),aH7];omega)]
 refine ⟨?_,fun f hf=>h.2 f (List.mem_of_mem_take hf)⟩;rw[e];refine ⟨by rw[aH7,lS Fld.cells 9 (fun _=>rfl),aH7];omega,fun hp => ?_⟩;obtain ⟨ad,e1,hc⟩:=h.1.2 (by rw[aH7] at hp;omega);refine ⟨ad,e1,fun j u hj=>hc j u ?_⟩;rw[List.getElem?_take] at hj;split at hj
 ·exact hj
 ·cases hj
theorem yF (b:Nat) (x y:Fld) (w:World) (hb:Blk w b 61 #[x.name,x.kind,x.box.X,x.box.Y,x.box.W,x.box.H,.slice x.M x.marks.length x.mc,x.most,.bool x.needed]) :
 Calls Tryz.prog 116 #[y.val,.pointer (some ⟨b,0,none⟩)] w fun e w'=>e=.returned (.bool (gB x.name y))∧Bl w w':=by
 have k1:=hb.all9;have hlt:=hb.lt;obtain ⟨nm,hnm⟩:=aH0 x.name;rw[←hnm] at k1 ⊢;clear hnm hb;unfold Fld.val gB;by_cases he:y.name=nm
 ·rw[aIu he]
  go_in
  go_wp2_with fail;go_ret;exact ⟨by simp[he],(Bl.refl _).alloc _⟩
 ·rw[aIt he]
  go_in
  go_wp2_with fail;go_ret;exact ⟨by simp[he],(Bl.refl _).alloc _⟩
theorem KW (L:Option Addr) (c:Nat) (fs:List Fld) (i:Nat) (hi:i≤fs.length) (b:Nat) (x:Fld) (w:World) (hL:FldsAt w L fs) (hb:Blk w b 61 #[x.name,x.kind,x.box.X,x.box.Y,x.box.W,x.box.H,.slice x.M x.marks.length x.mc,x.most,.bool x.needed]) (hn:fs.length≤9223372036854775807) :
 ∀wx,Bl w wx→Calls Tryz.prog 25 #[.slice L i c,.func (.func 116) #[] #[.pointer (some ⟨b,0,none⟩)]] wx fun e w'=>e=.returned (.bool (decide (x.name∈(fs.take i).map Fld.name)))∧Bl wx w':=by
 intro wx hx;have hl:(fs.take i).length=i:=(by simp;omega);have hT:TestsG Fld.val Tryz.prog 116 #[.pointer (some ⟨b,0,none⟩)] wx (fs.take i) (gB x.name):=
  ⟨fT Tryz.func116 (by kernel_rfl) rfl,fun wy y hy _=>yF b x y wy (hb.bl (hx.trans hy))⟩
 have h:=oX L c (fs.take i) _ _ _ wx ((hL.bl hx).take i hi) hT (by omega);rw[hl] at h;rw[←QG];exact h
theorem z7 (f:Frm) (i:Nat) (x:Fld) (W H:Nat) (w:World) (hfW:f.W=(W:Int)) (hfH:f.H=(H:Int)) (hW:1≤W∧W≤4000) (hH:1≤H∧H≤4000) (hF:FrmAt w f) (hx:f.lf[i]? = some x) :
 Calls Tryz.prog 55 #[f.val,i] w fun e w'=>e=.returned (.int .i64 (n9 W H ((f.lf.take i).map Fld.name) x))∧Bl w w':=by
 obtain ⟨nm,fW,fH,reach,dark,AL,ac,la,FL,fc,lf,RL,rc,lr⟩:=f;simp only at hfW hfH hx;subst hfW hfH;obtain ⟨FE,hFE⟩:=aH0 (n9 W H ((lf.take i).map Fld.name) x);show Calls _ _ _ w fun e w'=>e=.returned (.int .i64 (n9 W H ((lf.take i).map Fld.name) x))∧Bl w w';rw[←hFE];obtain ⟨tw,htw⟩:=aH0 (decide (x.name∈(lf.take i).map Fld.name));have aFI:FE=oD W H tw x:=(by rw[hFE,htw];rfl);have HFE:=aHH aFI;have aAz:i<lf.length:=(aH3.1 hx).1;have hfn:=hF.fn;have aGU:lf.length≤fc∧lf.length≤9223372036854775807:=hF.fn;obtain ⟨hM,hmc,hml,hnl⟩:=hF.flds.2 x (List.mem_of_getElem? hx);let w1:=(w).alloc (.cells #[nm,W,H,reach,dark,.slice AL la.length ac,.slice FL lf.length fc,.slice RL lr.length rc] 26);obtain ⟨w1b,w11⟩:=aHO (x:=w1) w _ _ rfl;have hFl:FldsAt w1 FL lf:=FldsAt.bl hF.flds w1b;obtain ⟨ad,e1,j1,j2,j3,j4,j5,j6,j7,j8,j9⟩:=hFl.at_ hx;have hnm:=fun wx=>tC ⟨x.name.toArray⟩ wx (by rw[Lib.size_mk];exact hnl);obtain ⟨HNm,HFl,HM,Htw⟩:=aHJ hnm hFl (hM.bl w1b) htw;have k1:=w11.all8;have dM:=aHH w1b;unfold Frm.val;clear hF hnm hFl hM hFE aFI htw w1b hfn hx;subst e1
 go_in
 go_upto_region 1 with fail;rw[show w.alloc (.cells #[nm,W,H,reach,dark,.slice AL la.length ac,.slice (some ad) lf.length fc,.slice RL lr.length rc] 26)=w1 from rfl];clear_value w1;go_upto_region 2 with fail;obtain ⟨w2,hw2⟩:=aH0 (w1.alloc (.cells #[x.name,x.kind,x.box.X,x.box.Y,x.box.W,x.box.H,.slice x.M x.marks.length x.mc,x.most,.bool x.needed] 61));have b2:=aHV hw2;have hb2:=aHU hw2;rw[←hw2];have k1:=(w11.bl hb2).all8;have k2:=b2.all9;have aEc:=KW (some ad) fc lf i (by omega) w1.heap.size x w2 (HFl.out.bl hb2) b2 aGU.2;rw[←Htw.out] at aEc;have aFJ:=aHH aEc;have hic:(i:Int)≤(fc:Int):=(by omega);obtain ⟨E1,hE1⟩:=aH0 (aB [aE (!cG x.name) 5,aE tw 6,aE (!inB x.kind 1 4) 1]);obtain ⟨HE1,B2,Hb2⟩:=aHI hE1 b2 hb2;clear hw2 aEc hE1 b2 hb2 j1 j2 j3 j4 j5 j6 j7 j8 j9;refine aHZ [aHX 0,aHX 1,aHX 5,aHX 6,aHX 7,aHX 8,aHX 9,aHX 12,aHX 13,aHY 2,aHX 3,aHY 4,aHY 10,aHY 11,aHY 14,aHX 15,aHY 16,aHY 17,aHY 18,aHX 19] (by kernel_rfl) ?_
 iterate 4
  apply Flow.calm2 _ _ rfl rfl
  ·intro a b c d;obtain ⟨e,f⟩:=b.rule;go_simp;(try go_ints);exact d
  ·intro a b;simp only[sqA];exact b
 apply Flow.mv _ rfl
 ·intro a b;simp only[sqA,Act.eval,sqC];exact b
 iterate 4
  apply Flow.calm2 _ _ rfl rfl
  ·intro a b c d;obtain ⟨e,f⟩:=b.rule;go_simp;(try go_ints);exact d
  ·intro a b;simp only[sqA];exact b
 apply Flow.move rfl;go_wp2_with fail;refine (HNm.out _).mono ?_;rintro e w3 ⟨rfl,HB1⟩;have hb3:Bl w2 w3:=Bl.ofDrew HB1;have k1:=(w11.bl (Hb2.out.trans hb3)).all8;have k2:=(B2.out.bl hb3).all9;go_wp2_with fail;refine ⟨fun _=>(by first|exact HB1|exact Bl.refl _),?_⟩;apply Flow.calm2 _ _ rfl rfl
 ·intro a b c d;obtain ⟨e,f⟩:=b.rule;go_simp;(try go_ints);exact d
 ·intro a b;simp only[sqA];exact b
 apply Flow.move rfl;go_wp2_with fail;refine (aI _ _ _).mono ?_;rintro e w' ⟨rfl,rfl⟩;go_wp2_with fail;refine ⟨fun _=>(by first|exact HB2|exact Bl.refl _),?_⟩;apply Flow.move rfl;go_wp2_with fail;refine (aFJ.out _ hb3).mono ?_;rintro e w4 ⟨rfl,HB3⟩;have hb4:Bl w2 w4:=hb3.trans HB3;have k1:=(w11.bl (Hb2.out.trans hb4)).all8;have k2:=(B2.out.bl hb4).all9;go_wp2_with fail;refine ⟨fun _=>(by first|exact HB3|exact Bl.refl _),?_⟩;apply Flow.move rfl;go_wp2_with fail;refine (aI _ _ _).mono ?_;rintro e w' ⟨rfl,rfl⟩;go_wp2_with fail;refine ⟨fun _=>(by first|exact HB4|exact Bl.refl _),?_⟩;apply Flow.move rfl;go_wp2_with fail;refine (eJ _ _ _ _).mono ?_;rintro e w' ⟨rfl,rfl⟩;go_wp2_with fail;refine ⟨fun _=>(by first|exact HB5|exact Bl.refl _),?_⟩;apply Flow.calm2 _ _ rfl rfl
 ·intro a b c d;obtain ⟨e,f⟩:=b.rule;go_simp;(try go_ints);exact d
 ·intro a b;simp only[sqA];exact b
 apply Flow.move rfl;go_wp2_with fail;refine (aI _ _ _).mono ?_;rintro e w' ⟨rfl,rfl⟩;go_wp2_with fail;refine ⟨fun _=>(by first|exact HB6|exact Bl.refl _),?_⟩;apply Flow.move rfl;go_wp2_with fail;first|refine ⟨fun _ => ?_,?_⟩|refine ⟨?_,?_⟩
 ·repeat' (first|exact Bl.refl _|refine Bl.drewL ?_|refine Bl.drew ?_|refine Bl.alloc ?_ _)
 apply Flow.move rfl;go_wp2_with fail;refine (iY _ _ _ _ _ (Blk.new _ _ _)).mono ?_;rintro e w' ⟨rfl,rfl⟩;go_wp2_with fail;refine ⟨fun _=>(by first|exact HB8|exact Bl.refl _),?_⟩;apply Flow.asg _ rfl
 ·intro a b;simp only[sqA,Act.eval,sqC];exact b
 refine Flow.done ?_;rw[←HE1.out];have hb5:Bl w2 (w4.alloc (.cells #[.int .i64 (aE (!cG x.name) 5),.int .i64 (aE tw 6),.int .i64 (aE (!inB x.kind 1 4) 1)] 27)):=hb4.alloc _;obtain ⟨w5,hw5⟩:=aH0 (w4.alloc (.cells #[.int .i64 (aE (!cG x.name) 5),.int .i64 (aE tw 6),.int .i64 (aE (!inB x.kind 1 4) 1)] 27));rw[←hw5] at hb5 ⊢;have Hb5:=aHH hb5;have k1:=(w11.bl (Hb2.out.trans hb5)).all8;have k2:=(B2.out.bl hb5).all9;have HE2:=aHH (HFE.out.trans (QF W H tw x));clear hb3 hb4 hb5 HB1 HB3 hw5;by_cases hz1:E1=0;case neg=>
  have hq:(E1 != 0)=true:=(by simp[hz1]);have HX:=aHH (show FE=E1 by rw[HE2.out,←HE1.out,aJ hz1]);clear hz1;go_wp2_with fail;go_ret;exact ⟨by rw[HX.out];rfl,dM.out.trans (Hb2.out.trans Hb5.out)⟩
 have hq:(E1 != 0)=false:=(by simp[hz1]);obtain ⟨mk,hmk⟩:=aH0 (cC x.kind);have hmr:=fun wx=>fC x.kind wx;rw[←hmk] at hmr;obtain ⟨E4,hE4⟩:∃e,e=(if mk=true then aE (!decide (x.box=Bx.zero)) 2 else aE (!x.box.inP W H) 13):=⟨_,rfl⟩;obtain ⟨E5,hE5⟩:=aH0 (aB [E4,aE (mk != decide (0<x.marks.length)) 2,aE (decide (20<x.marks.length)) 4]);have HE3:=aHH (show FE=aB [gJ E5 W H x.marks,aE (!inB x.most 0 1000) 3,aE (!decide (x.kind=1)&&!decide (x.most=0)) 2] by
  rw[HE2.out,←HE1.out,hz1,bT,←hmk,←hE4,←hE5];generalize aE (!inB x.most 0 1000) 3=r1;generalize aE (!decide (x.kind=1)&&!decide (x.most=0)) 2=r2;show (if aB [gJ E5 W H x.marks,r1,r2]=0 then 0 else aB [gJ E5 W H x.marks,r1,r2])=_;split
  ·rename_i h;rw[h]
  ·rfl)
 obtain ⟨Hmr,HE4,HE5⟩:=aHI hmr hE4 hE5;clear hz1 hmr hmk hE4 hE5 HE2;go_upto_if 39 with (go_at_call 117;refine (Hmr.out _).mono ?_;rintro e w' ⟨rfl,rfl⟩);go_cut [7] from 40 to 54 (fun s wc=>s=.int .i64 E4∧Bl w5 wc);case first=>
  cases mk with
  |true=>have ZP:=fun w'=>Y4 x.box ⟨0,0,0,0⟩ w';obtain ⟨bz,hbz⟩:∃b,b=(!decide (x.box=⟨0,0,0,0⟩)):=⟨_,rfl⟩;rw[←hbz] at ZP;have HX:=aHH (show E4=aE bz 2 by rw[HE4.out,if_pos rfl,hbz];try rfl);clear hbz;go_wp2_with (go_at_call 9;refine (aI _ _ _).mono ?_;rintro e w' ⟨rfl,rfl⟩);go_meet;case rel=>exact ⟨by rw[HX.out],Bl.refl _⟩
  |false=>have hip:=fun wx=>lO x.box.X x.box.Y x.box.W x.box.H W H wx;rw[o7 (show 1≤(W:Int)∧(W:Int)≤4000 by omega) (show 1≤(H:Int)∧(H:Int)≤4000 by omega)] at hip;have Hip:=aHH hip;have HX:=aHH (show E4=aE (!x.box.inP W H) 13 by rw[HE4.out];rfl);clear hip;go_wp2_with fail;refine (Hip.out _).mono ?_;rintro e w6 ⟨rfl,hb6⟩;go_wp2_with (go_at_call 9;refine (aI _ _ _).mono ?_;rintro e w' ⟨rfl,rfl⟩);go_meet;case rel=>exact ⟨by rw[HX.out];rfl,hb6⟩
 case rest=>
 rename World=>w6;obtain ⟨rfl,hb6⟩:=hcut;have Hb6:=aHH (Hb5.out.trans hb6);have k1:=(w11.bl (Hb2.out.trans Hb6.out)).all8;have k2:=(B2.out.bl Hb6.out).all9;have len20:decide (20<(x.marks.length:Int))=decide (20<x.marks.length):=decide_eq_decide.2 (by omega);have hf5:aB [E4,aE (!mk==decide (0<x.marks.length)) 2,aE (decide (20<(x.marks.length:Int))) 4]=E5:=(by rw[HE5.out,len20];cases mk<;>cases decide (0<x.marks.length)<;>rfl);have HF5:=aHH hf5;clear len20 hf5 hb6;go_upto_region 9 with fail;refine aHZ [aHX 0,aHX 1,aHX 2,aHX 4,aHX 5,aHX 6,aHX 7,aHX 10,aHX 11,aHX 12,aHX 13,aHY 3,aHX 8,aHY 9,aHY 14,aHY 15,aHY 16,aHX 17] (by kernel_rfl) ?_;apply Flow.mv _ rfl
 ·intro a b;simp only[sqA,Act.eval,sqC];exact b
 iterate 10
  apply Flow.calm2 _ _ rfl rfl
  ·intro a b c d;obtain ⟨e,f⟩:=b.rule;go_simp;(try go_ints);exact d
  ·intro a b;simp only[sqA];exact b
 apply Flow.move rfl;go_wp2_with fail;refine (Hmr.out _).mono ?_;rintro e w' ⟨rfl,rfl⟩;go_wp2_with fail;refine ⟨fun _=>(by first|exact HB1|exact Bl.refl _),?_⟩;apply Flow.calm2 _ _ rfl rfl
 ·intro a b c d;obtain ⟨e,f⟩:=b.rule;go_simp;(try go_ints);exact d
 ·intro a b;simp only[sqA];exact b
 apply Flow.move rfl;go_wp2_with fail;refine (aI _ _ _).mono ?_;rintro e w' ⟨rfl,rfl⟩;go_wp2_with fail;refine ⟨fun _=>(by first|exact HB2|exact Bl.refl _),?_⟩;apply Flow.move rfl;go_wp2_with fail;refine (aI _ _ _).mono ?_;rintro e w' ⟨rfl,rfl⟩;go_wp2_with fail;refine ⟨fun _=>(by first|exact HB3|exact Bl.refl _),?_⟩;apply Flow.move rfl;go_wp2_with fail;first|refine ⟨fun _ => ?_,?_⟩|refine ⟨?_,?_⟩
 ·repeat' (first|exact Bl.refl _|refine Bl.drewL ?_|refine Bl.drew ?_|refine Bl.alloc ?_ _)
 apply Flow.move rfl;go_wp2_with fail;refine (iY _ _ _ _ _ (Blk.new _ _ _).drew).mono ?_;rintro e w' ⟨rfl,rfl⟩;go_wp2_with fail;refine ⟨fun _=>(by first|exact HB5|exact Bl.refl _),?_⟩;apply Flow.asg _ rfl
 ·intro a b;simp only[sqA,Act.eval,sqC];exact b
 refine Flow.done ?_;rw[HF5.out];obtain ⟨w7,hw7⟩:=aH0 ((w6.alloc (.cells #[E4,.int .i64 (aE (!mk==decide (0<x.marks.length)) 2),.int .i64 (aE (decide (20<(x.marks.length:Int))) 4)] 27)).drew);have hb7:Bl w6 w7:=(by rw[hw7];exact ((Bl.refl _).alloc _).drew);rw[←hw7];have Hb7:=aHH (Hb6.out.trans hb7);have k1:=(w11.bl (Hb2.out.trans Hb7.out)).all8;have k2:=(B2.out.bl Hb7.out).all9;have HMx:=aHH (BxsAt.bl HM.out (Hb2.out.trans Hb7.out));have him:=fun (b:Bx) wx=>lO b.X b.Y b.W b.H W H wx;simp only[o7 (show 1≤(W:Int)∧(W:Int)≤4000 by omega) (show 1≤(H:Int)∧(H:Int)≤4000 by omega)] at him;have Him:=aHH him;have Hp0:=aHH (show E5=gJ E5 W H (x.marks.take 0) by
  unfold gJ dJ;simp only[List.take_zero,List.any_nil,fF];show E5=if E5=0 then 0 else E5;split
  ·rename_i h;exact h
  ·rfl)
 clear hw7 hb7 him Hmr aFJ HNm HF5;go_wp2_with fail;go_loopw [7,74] (fun p u wr=>∃i:Nat,i≤x.marks.length∧u=.int .i64 i∧p=.int .i64 (gJ E5 W H (x.marks.take i))∧Bl w7 wr) (fun _ u _=>x.marks.length-(RowKit.intOf u).toNat);case atStart=>exact ⟨0,Nat.zero_le _,rfl,by rw[←Hp0.out],Bl.refl _⟩
 case round=>
  clear k1 k2;obtain ⟨k,hk,rfl,rfl,hbr⟩:=hrel;have k1:=(w11.bl (Hb2.out.trans (Hb7.out.trans hbr))).all8;have k2:=(B2.out.bl (Hb7.out.trans hbr)).all9;by_cases hlt:k<x.marks.length
  ·have hg:x.marks[k]? = some x.marks[k]:=aH2 hlt;obtain ⟨b,hb⟩:=aH0 (x.marks[k]);rw[←hb] at hg;obtain ⟨adM,e1,j1,j2,j3,j4⟩:=BxsAt.at_ (BxsAt.bl HMx.out hbr) hg;have hst:=DZ E5 W H (x.marks.take k) b;rw[←eN hg] at hst;obtain ⟨PE,hPE⟩:=aH0 (gJ E5 W H (x.marks.take k));rw[←hPE] at hst ⊢;have Hst:=aHH hst;have Hbr:=aHH hbr;clear hg hb hst hPE hbr;rw[e1] at k2 ⊢;go_upto_region 13 with fail;obtain ⟨w8,hw8⟩:=aH0 (wr.alloc (.cells #[.int .i64 b.X,.int .i64 b.Y,.int .i64 b.W,.int .i64 b.H] 58));have b8:=aHV hw8;have hb8:=aHU hw8;rw[←hw8];have Hb8:=aHH (Hbr.out.trans hb8);have k1:=(w11.bl (Hb2.out.trans (Hb7.out.trans Hb8.out))).all8;have k3:=b8.all4;clear hw8 b8 hb8 j1 j2 j3 j4;go_wp2_with fail;refine (Him.out b _).mono ?_;rintro e w9 ⟨rfl,hb9⟩;have Hb9:=aHH (Hb8.out.trans hb9);clear hb9 k3;rw[←e1];go_wp2_with (first|(go_at_call 9;refine (aI _ _ _).mono ?_;rintro e w' ⟨rfl,rfl⟩)|(go_at_call 20;refine (dN _ _ _ _ (Blk.new _ _ _)).mono ?_;rintro e w' ⟨rfl,rfl⟩));exact ⟨⟨k+1,hlt,by go_num,by rw[←Hst.out];rfl,Hb9.out.alloc _⟩,by simp[RowKit.intOf];omega⟩
  ·obtain rfl:k=x.marks.length:=(by omega);rw[aH9];have HK1:=aHH k1;go_upto_region 15 with fail;by_cases c1:x.kind=1
   ·have q1:(x.kind != 1)=false:=(by simp[c1]);have hf:aB [gJ E5 W H x.marks,aE (!inB x.most 0 1000) 3,aE false 2]=FE:=(by rw[HE3.out,aIu c1];rfl);have HFL:=aHH hf;clear hf;refine aHZ [aHX 0,aHX 1,aHX 2,aHX 6,aHX 7,aHX 8,aHY 3,aHX 4,aHY 5,aHX 9,aHX 10,aHX 11,aHX 12,aHX 13,aHY 14,aHY 15,aHY 16,aHX 17] (by kernel_rfl) ?_;apply Flow.mv _ rfl
    ·intro a b;simp only[sqA,Act.eval,sqC];exact b
    iterate 5
     apply Flow.calm2 _ _ rfl rfl
     ·intro a b c d;obtain ⟨e,f⟩:=b.rule;go_simp;(try go_ints);exact d
     ·intro a b;simp only[sqA];exact b
    apply Flow.move rfl;go_wp2_with fail;refine (eJ _ _ _ _).mono ?_;rintro e w' ⟨rfl,rfl⟩;go_wp2_with fail;refine ⟨fun _=>(by first|exact HB1|exact Bl.refl _),?_⟩;apply Flow.calm2 _ _ rfl rfl
    ·intro a b c d;obtain ⟨e,f⟩:=b.rule;go_simp;(try go_ints);exact d
    ·intro a b;simp only[sqA];exact b
    apply Flow.move rfl;go_wp2_with fail;refine (aI _ _ _).mono ?_;rintro e w' ⟨rfl,rfl⟩;go_wp2_with fail;refine ⟨fun _=>(by first|exact HB2|exact Bl.refl _),?_⟩;apply Flow.mv _ rfl
    ·intro a b;simp only[sqA,Act.eval,sqC];exact b
    iterate 3
     first
      | (apply Flow.pass rfl (by rfl))
      | (apply Flow.calmG _ rfl (by rfl)
         ·intro a b;obtain ⟨e,f⟩:=b.rule;go_simp;all_goals (try rfl))
     simp only[sqA];try go_ints
    apply Flow.calm2 _ _ rfl rfl
    ·intro a b c d;obtain ⟨e,f⟩:=b.rule;go_simp;(try go_ints);exact d
    ·intro a b;simp only[sqA];exact b
    apply Flow.move rfl;go_wp2_with fail;refine (aI _ _ _).mono ?_;rintro e w' ⟨rfl,rfl⟩;go_wp2_with fail;refine ⟨fun _=>(by first|exact HB3|exact Bl.refl _),?_⟩;apply Flow.move rfl;go_wp2_with fail;first|refine ⟨fun _ => ?_,?_⟩|refine ⟨?_,?_⟩
    ·repeat' (first|exact Bl.refl _|refine Bl.drewL ?_|refine Bl.drew ?_|refine Bl.alloc ?_ _)
    apply Flow.move rfl;go_wp2_with fail;refine (iY _ _ _ _ _ (Blk.new _ _ _).drew).mono ?_;rintro e w' ⟨rfl,rfl⟩;go_wp2_with fail;refine ⟨fun _=>(by first|exact HB5|exact Bl.refl _),?_⟩;apply Flow.asg _ rfl
    ·intro a b;simp only[sqA,Act.eval,sqC];exact b
    refine Flow.done ?_;rw[HFL.out];go_wp2_with fail;go_ret;exact ⟨rfl,dM.out.trans (Hb2.out.trans (((Hb7.out.trans hbr).alloc _).drew))⟩
   ·have q1:(x.kind != 1)=true:=(by simp[c1]);by_cases c2:x.most=0
    ·have q2:(x.most != 0)=false:=(by simp[c2]);have hf:aB [gJ E5 W H x.marks,aE (!inB x.most 0 1000) 3,aE false 2]=FE:=(by rw[HE3.out,aIt c1,aIu c2];rfl);have HFL:=aHH hf;clear hf c2;refine aHZ [aHX 0,aHX 1,aHX 2,aHX 6,aHX 7,aHX 8,aHY 3,aHX 4,aHY 5,aHX 9,aHX 10,aHX 11,aHX 12,aHX 13,aHY 14,aHY 15,aHY 16,aHX 17] (by kernel_rfl) ?_;apply Flow.mv _ rfl
     ·intro a b;simp only[sqA,Act.eval,sqC];exact b
     iterate 5
      apply Flow.calm2 _ _ rfl rfl
      ·intro a b c d;obtain ⟨e,f⟩:=b.rule;go_simp;(try go_ints);exact d
      ·intro a b;simp only[sqA];exact b
     apply Flow.move rfl;go_wp2_with fail;refine (eJ _ _ _ _).mono ?_;rintro e w' ⟨rfl,rfl⟩;go_wp2_with fail;refine ⟨fun _=>(by first|exact HB1|exact Bl.refl _),?_⟩;apply Flow.calm2 _ _ rfl rfl
     ·intro a b c d;obtain ⟨e,f⟩:=b.rule;go_simp;(try go_ints);exact d
     ·intro a b;simp only[sqA];exact b
     apply Flow.move rfl;go_wp2_with fail;refine (aI _ _ _).mono ?_;rintro e w' ⟨rfl,rfl⟩;go_wp2_with fail;refine ⟨fun _=>(by first|exact HB2|exact Bl.refl _),?_⟩;apply Flow.mv _ rfl
     ·intro a b;simp only[sqA,Act.eval,sqC];exact b
     iterate 3
      first
       | (apply Flow.pass rfl (by rfl))
       | (apply Flow.calmG _ rfl (by rfl)
          ·intro a b;obtain ⟨e,f⟩:=b.rule;go_simp;all_goals (try rfl))
      simp only[sqA];try go_ints
     apply Flow.calm2 _ _ rfl rfl
     ·intro a b c d;obtain ⟨e,f⟩:=b.rule;go_simp;(try go_ints);exact d
     ·intro a b;simp only[sqA];exact b
     apply Flow.move rfl;go_wp2_with fail;refine (aI _ _ _).mono ?_;rintro e w' ⟨rfl,rfl⟩;go_wp2_with fail;refine ⟨fun _=>(by first|exact HB3|exact Bl.refl _),?_⟩;apply Flow.move rfl;go_wp2_with fail;first|refine ⟨fun _ => ?_,?_⟩|refine ⟨?_,?_⟩
     ·repeat' (first|exact Bl.refl _|refine Bl.drewL ?_|refine Bl.drew ?_|refine Bl.alloc ?_ _)
     apply Flow.move rfl;go_wp2_with fail;refine (iY _ _ _ _ _ (Blk.new _ _ _).drew).mono ?_;rintro e w' ⟨rfl,rfl⟩;go_wp2_with fail;refine ⟨fun _=>(by first|exact HB5|exact Bl.refl _),?_⟩;apply Flow.asg _ rfl
     ·intro a b;simp only[sqA,Act.eval,sqC];exact b
     refine Flow.done ?_;rw[HFL.out];go_wp2_with fail;go_ret;exact ⟨rfl,dM.out.trans (Hb2.out.trans (((Hb7.out.trans hbr).alloc _).drew))⟩
    ·have q2:(x.most != 0)=true:=(by simp[c2]);have hf:aB [gJ E5 W H x.marks,aE (!inB x.most 0 1000) 3,aE true 2]=FE:=(by rw[HE3.out,aIt c1,aIt c2];rfl);have HFL:=aHH hf;clear hf c2;refine aHZ [aHX 0,aHX 1,aHX 2,aHX 6,aHX 7,aHX 8,aHY 3,aHX 4,aHY 5,aHX 9,aHX 10,aHX 11,aHX 12,aHX 13,aHY 14,aHY 15,aHY 16,aHX 17] (by kernel_rfl) ?_;apply Flow.mv _ rfl
     ·intro a b;simp only[sqA,Act.eval,sqC];exact b
     iterate 5
      apply Flow.calm2 _ _ rfl rfl
      ·intro a b c d;obtain ⟨e,f⟩:=b.rule;go_simp;(try go_ints);exact d
      ·intro a b;simp only[sqA];exact b
     apply Flow.move rfl;go_wp2_with fail;refine (eJ _ _ _ _).mono ?_;rintro e w' ⟨rfl,rfl⟩;go_wp2_with fail;refine ⟨fun _=>(by first|exact HB1|exact Bl.refl _),?_⟩;apply Flow.calm2 _ _ rfl rfl
     ·intro a b c d;obtain ⟨e,f⟩:=b.rule;go_simp;(try go_ints);exact d
     ·intro a b;simp only[sqA];exact b
     apply Flow.move rfl;go_wp2_with fail;refine (aI _ _ _).mono ?_;rintro e w' ⟨rfl,rfl⟩;go_wp2_with fail;refine ⟨fun _=>(by first|exact HB2|exact Bl.refl _),?_⟩;apply Flow.mv _ rfl
     ·intro a b;simp only[sqA,Act.eval,sqC];exact b
     iterate 3
      first
       | (apply Flow.pass rfl (by rfl))
       | (apply Flow.calmG _ rfl (by rfl)
          ·intro a b;obtain ⟨e,f⟩:=b.rule;go_simp;all_goals (try rfl))
      simp only[sqA];try go_ints
     apply Flow.calm2 _ _ rfl rfl
     ·intro a b c d;obtain ⟨e,f⟩:=b.rule;go_simp;(try go_ints);exact d
     ·intro a b;simp only[sqA];exact b
     apply Flow.move rfl;go_wp2_with fail;refine (aI _ _ _).mono ?_;rintro e w' ⟨rfl,rfl⟩;go_wp2_with fail;refine ⟨fun _=>(by first|exact HB3|exact Bl.refl _),?_⟩;apply Flow.move rfl;go_wp2_with fail;first|refine ⟨fun _ => ?_,?_⟩|refine ⟨?_,?_⟩
     ·repeat' (first|exact Bl.refl _|refine Bl.drewL ?_|refine Bl.drew ?_|refine Bl.alloc ?_ _)
     apply Flow.move rfl;go_wp2_with fail;refine (iY _ _ _ _ _ (Blk.new _ _ _).drew).mono ?_;rintro e w' ⟨rfl,rfl⟩;go_wp2_with fail;refine ⟨fun _=>(by first|exact HB5|exact Bl.refl _),?_⟩;apply Flow.asg _ rfl
     ·intro a b;simp only[sqA,Act.eval,sqC];exact b
     refine Flow.done ?_;rw[HFL.out];go_wp2_with fail;go_ret;exact ⟨rfl,dM.out.trans (Hb2.out.trans (((Hb7.out.trans hbr).alloc _).drew))⟩
theorem KX (f:Frm) (w:World) (hF:FrmAt w f) (ha:f.la.length≤10) (hf:f.lf.length≤50) (hm:∀x∈f.lf,x.marks.length≤20) :
 Calls Tryz.prog 56 #[f.val] w fun e w'=>∃A c,e=.returned (.slice A (gK f.la f.lf).length c)∧BxsAt w' A (gK f.la f.lf)∧(gK f.la f.lf).length≤1100∧Bl w w':=by
 obtain ⟨nm,fW,fH,reach,dark,AL,ac,la,FL,fc,lf,RL,rc,lr⟩:=f;simp only at ha hf hm;let w1:=(w).alloc (.cells #[nm,fW,fH,reach,dark,.slice AL la.length ac,.slice FL lf.length fc,.slice RL lr.length rc] 26);obtain ⟨w1b,w11⟩:=aHO (x:=w1) w _ _ rfl;have HF:=aHH (hF.bl w1b);have Hm:=aHH hm;have hla:=hF.an.2;have hlf:=hF.fn.2;have k1:=w11.all8;obtain ⟨dM,HFA,HFF⟩:=aHI w1b (AncsAt.bl hF.ancs w1b) (FldsAt.bl hF.flds w1b);unfold Frm.val;clear hF hm w1b;show Calls _ _ _ w fun e w'=>∃A c,e=.returned (.slice A (gK la lf).length c)∧BxsAt w' A (gK la lf)∧(gK la lf).length≤1100∧Bl w w'
 go_in
 go_upto_region 2 with fail;rw[show w.alloc (.cells #[nm,fW,fH,reach,dark,.slice AL la.length ac,.slice FL lf.length fc,.slice RL lr.length rc] 26)=w1 from rfl];clear_value w1;go_wp2_with fail;go_loopw [3,11] (fun b u wr=>∃i:Nat,i≤la.length∧u=.int .i64 i∧Bl w1 wr∧wr.ownsRow w1.heap.size 58 4 b i (dI ((la.take i).map Anc.box))) (fun _ u _=>la.length-(RowKit.intOf u).toNat);case atStart=>exact ⟨0,Nat.zero_le _,rfl,Bl.refl _,World.ownsRow_nil _ _ _ _⟩
 case round=>
  obtain ⟨i,hi,rfl,hbr,aV⟩:=hrel;clear k1;by_cases hlt:i<la.length
  ·have hg:la[i]? = some la[i]:=aH2 hlt;obtain ⟨a,ha⟩:=aH0 (la[i]);rw[←ha] at hg;obtain ⟨ad,e1,j1,j2,j3,j4,j5⟩:=(HFA.out.bl hbr).at_ hg;obtain ⟨HG,HOw,Hbr⟩:=aHI hg aV hbr;have aD9:=hbr.le;clear hg ha aV;rw[e1];go_upto_region 5 with fail;obtain ⟨w5,hw5⟩:=aH0 (wr.alloc (.cells #[a.W,a.H,.slice a.A a.m a.c,a.X,a.Y] 85));have b5:=aHV hw5;have hb5:=aHU hw5;rw[←hw5];have HO5:=aHH (cX HOw.out hb5);have Hb5:=aHH (hbr.trans hb5);have aEd:=(hbr.trans hb5).le;have k2:=b5.all5;clear hw5 b5 hb5 j1 j2 j3 j4 j5 hbr;rw[←e1];go_wp2_with (at_builtin;refine aG (w1:=w1) rfl (.tmp 15) (.tmp 27) 59 rfl 58 (.agg #[.int .i64 0,.int .i64 0,.int .i64 0,.int .i64 0]) 4 32 Tryz.underlying59 o0 rfl (by omega) w1.heap.size _ i (dI ((la.take i).map Anc.box)) rfl (Hb5.out.alloc _) (Nat.le_refl _) (by simp;omega) (HO5.out.alloc _) (some ⟨w5.heap.size,0,none⟩) 1 1 [.int .i64 a.X,.int .i64 a.Y,.int .i64 a.W,.int .i64 a.H] rfl ((Blk.new w5 _ _).reads 1 4 rfl) (by simp[Value.oneCell']) (by unfold maxLen;omega) (by omega) ?_;intro v' w8 bF hb8 hg8;have vJ:=aHH bF;have Hb8:=aHH hb8;clear bF hb8 hg8);exact ⟨⟨i+1,hlt,by go_num,Hb8.out,by rw[eN HG.out,aIp,fM];exact vJ.out⟩,by simp[RowKit.intOf];omega⟩
  ·obtain rfl:i=la.length:=(by omega);rw[aH9] at aV;have k1:=(w11.bl hbr).all8;have aAM:bU la lf 0=la.map Anc.box:=(by simp[bU,gK]);have hl0:(bU la lf 0).length=la.length:=(by rw[aAM,aH6]);rw[←aAM] at aV;have vI:wr.ownsRow w1.heap.size 58 4 u3 (bU la lf 0).length (dI (bU la lf 0)):=(by rw[hl0];exact aV);obtain ⟨HOw,Hbr,aCc⟩:=aHI vI hbr (show (bU la lf 0).length≤10 by rw[hl0];exact ha);clear aV vI aAM hl0 hi hlt;go_wp2_with fail;go_loopw [3,33] (fun b u wq=>∃i:Nat,i≤lf.length∧u=.int .i64 i∧Bl w1 wq∧wq.ownsRow w1.heap.size 58 4 b (bU la lf i).length (dI (bU la lf i))∧(bU la lf i).length≤10+21*i) (fun _ u _=>lf.length-(RowKit.intOf u).toNat);case atStart=>exact ⟨0,Nat.zero_le _,rfl,hbr,HOw.out,aCc.out⟩
   case round=>
    clear Hbr hbr k1 HOw aCc;obtain ⟨i,hi,rfl,hbr,aV,hbl⟩:=hrel;by_cases hlt:i<lf.length
    ·have hg:lf[i]? = some lf[i]:=aH2 hlt;obtain ⟨x,hx⟩:=aH0 (lf[i]);rw[←hx] at hg;obtain ⟨ad,e1,j1,j2,j3,j4,j5,j6,j7,j8,j9⟩:=(HFF.out.bl hbr).at_ hg;obtain ⟨hM,hmc,hml,hnl⟩:=HFF.out.2 x (List.mem_of_getElem? hg);have V6:=Hm.out x (List.mem_of_getElem? hg);obtain ⟨HG,HOw,Hbr,HM⟩:=aHJ hg aV hbr hM;have hgx:=(show ∀k,u3.ownBlock=some k→k<wr.heap.size from fun k hk=>(aV.lt k hk).2);have Hgx:=aHH hgx;clear hg hx aV hM hgx;rw[e1];go_upto_region 10 with fail;obtain ⟨w5,hw5⟩:=aH0 (wr.alloc (.cells #[.string ⟨x.name.toArray⟩,.int .i64 x.kind,.int .i64 x.box.X,.int .i64 x.box.Y,.int .i64 x.box.W,.int .i64 x.box.H,.slice x.M x.marks.length x.mc,.int .i64 x.most,.bool x.needed] 61));have b5:=aHV hw5;have hb5:=aHU hw5;rw[←hw5];have hO5:=cX HOw.out hb5;have aAP:=hbr.trans hb5;have aEd:=aAP.le;have k2:=b5.all9;obtain ⟨n,hn⟩:=aH0 ((bU la lf i).length);have hbi:n≤10+21*i:=(by rw[hn];exact hbl);rw[←hn] at hO5;obtain ⟨B5,HO5,Hb5,Hn,HX5,Hbs⟩:=aHL b5 hO5 aAP hn (BxsAt.bl HM.out aAP) (uQ (la:=la) HG.out);clear hw5 b5 hb5 hO5 aAP hn hbl j1 j2 j3 j4 j5 j6 j7 j8 j9 hbr;rw[←e1];go_wp2_with fail;refine (fC _ _).mono ?_;rintro e w' ⟨rfl,rfl⟩;cases hmk:cC x.kind with
     |true=>have HFB:=aHH (show gH x=x.marks by unfold gH;rw[hmk];rfl);go_wp2_with (at_builtin;refine aG (w1:=w1) rfl (.tmp 46) (.tmp 48) 59 rfl 58 (.agg #[.int .i64 0,.int .i64 0,.int .i64 0,.int .i64 0]) 4 32 Tryz.underlying59 o0 rfl (by omega) w1.heap.size u3 n (dI (bU la lf i)) rfl Hb5.out (Nat.le_refl _) aEd HO5.out x.M x.marks.length x.mc (dI x.marks) rfl HX5.out (NA x.marks) (by unfold maxLen;omega) (by omega) ?_;intro v9 w9 zG hb9 hg9);have HO9:=aHH zG;have Hb9:=aHH hb9;clear zG hb9 hg9;have cT:(bU la lf (i+1)).length=n+x.marks.length:=(by rw[Hbs.out,aH5,←Hn.out,HFB.out]);exact ⟨⟨i+1,hlt,by go_num,Hb9.out,by rw[cT,Hbs.out,fM,HFB.out];exact HO9.out,by rw[cT];omega⟩,by simp[RowKit.intOf];omega⟩
     |false=>have HFB:=aHH (show gH x=x.box :: x.marks by unfold gH;rw[hmk];rfl);go_upto_region 12 with (at_builtin;refine aG (w1:=w1) rfl (.tmp 41) (.tmp 44) 59 rfl 58 (.agg #[.int .i64 0,.int .i64 0,.int .i64 0,.int .i64 0]) 4 32 Tryz.underlying59 o0 rfl (by omega) w1.heap.size u3 n (dI (bU la lf i)) rfl (Hb5.out.alloc _) (Nat.le_refl _) (by simp;omega) (HO5.out.alloc _) (some ⟨w5.heap.size,0,none⟩) 1 1 [.int .i64 x.box.X,.int .i64 x.box.Y,.int .i64 x.box.W,.int .i64 x.box.H] rfl ((Blk.new w5 _ _).reads 1 4 rfl) (by simp[Value.oneCell']) (by unfold maxLen;omega) (by omega) ?_;intro v8 w8 bF hb8 hg8);have YL:=hb8.le;obtain ⟨HO8,Hb8,HX8⟩:=aHI bF hb8 (BxsAt.bl HM.out hb8);have k4:=((B5.out.alloc _).grown hg8 (fun e=>Nat.ne_of_lt (Hgx.out _ e.symm) rfl)).all9;clear bF hb8 hg8 k2;go_wp2_with (at_builtin;refine aG (w1:=w1) rfl (.tmp 46) (.tmp 48) 59 rfl 58 (.agg #[.int .i64 0,.int .i64 0,.int .i64 0,.int .i64 0]) 4 32 Tryz.underlying59 o0 rfl (by omega) w1.heap.size v8 (n+1) (dI (bU la lf i)++[.int .i64 x.box.X,.int .i64 x.box.Y,.int .i64 x.box.W,.int .i64 x.box.H]) rfl Hb8.out (Nat.le_refl _) YL HO8.out x.M x.marks.length x.mc (dI x.marks) rfl HX8.out (NA x.marks) (by unfold maxLen;omega) (by omega) ?_;intro v9 w9 zG hb9 hg9);have HO9:=aHH zG;have Hb9:=aHH hb9;clear zG hb9 hg9;have cT:(bU la lf (i+1)).length=n+1+x.marks.length:=(by rw[Hbs.out,aH5,←Hn.out,HFB.out,aH8];omega);exact ⟨⟨i+1,hlt,by go_num,Hb9.out,by rw[cT,Hbs.out,fM,HFB.out,show dI (x.box :: x.marks)=[.int .i64 x.box.X,.int .i64 x.box.Y,.int .i64 x.box.W,.int .i64 x.box.H]++dI x.marks from rfl,←aIi];exact HO9.out,by rw[cT];omega⟩,by simp[RowKit.intOf];omega⟩
    ·obtain rfl:i=lf.length:=(by omega);have hbe:bU la lf lf.length=gK la lf:=(by unfold bU;rw[aH9]);rw[hbe] at aV hbl;obtain ⟨A,c,rfl,hr,-⟩:=jP aV;have HR:=aHH hr;clear aV hr hbe;go_wp2_with fail;go_ret;exact ⟨A,c,rfl,HR.out,by omega,dM.out.trans hbr⟩
def aAq (nm:List UInt8) (v:Vlu):Bool:=decide (v.field=nm)
theorem VlusAt.take {w:World} {L:Option Addr} {l:List Vlu} (h:VlusAt w L l) (i:Nat) (hi:i≤l.length):VlusAt w L (l.take i):=by
 have e:(l.take i).flatMap Vlu.cells=(l.flatMap Vlu.cells).take (i*4):=by
  conv=>rhs;rw[←aIh i l,aIL]
  rw[aIz (by rw[lS Vlu.cells 4 (fun _=>rfl),aH7];omega)]
 refine ⟨?_,fun f hf=>h.2 f (List.mem_of_mem_take hf)⟩;rw[e];refine ⟨by rw[aH7,lS Vlu.cells 4 (fun _=>rfl),aH7];omega,fun hp => ?_⟩;obtain ⟨ad,e1,hc⟩:=h.1.2 (by rw[aH7] at hp;omega);refine ⟨ad,e1,fun j u hj=>hc j u ?_⟩;rw[List.getElem?_take] at hj;split at hj
 ·exact hj
 ·cases hj
def MapV (w:World) (b:Nat) (vs:List Vlu):Prop:=∃es clock,w.heap[b]? = some (.map es clock)∧(∀x∈es.toList,∃s v,x.key=.string ⟨List.toArray s⟩∧vs.find? (aAq s)=some v∧x.val=v.val)∧∀v∈vs,∃x∈es.toList,x.key=.string ⟨v.field.toArray⟩
theorem MapV.bl {w w':World} {b:Nat} {vs:List Vlu} (h:MapV w b vs) (hb:Bl w w'):MapV w' b vs:=by
 obtain ⟨es,c,h1,h2,h3⟩:=h;exact ⟨es,c,(Below.block hb b (aIy.1 h1).1).trans h1,h2,h3⟩
end Go.Proofs.YtllefinciimffaaGreatDoor
namespace Go.Proofs.YtllefinciimffaaGreatDoor
structure Brk where
 rule:Nat
 field:List UInt8
def Brk.cells (b:Brk):List Value:=[.int .i64 b.rule,.string ⟨b.field.toArray⟩]
def Brk.val (b:Brk):Value:=.agg #[b.rule,b.field]
theorem D0 {b:Bool} {e:Int} (he:e≠0) (h:aE b e=0):b=false:=by
 cases b with
 |false=>rfl
 |true=>exact absurd h he
theorem QH {fs:List Fld} {l:List Rul} (h:dU fs l=0):∀r∈l,eX fs r=0:=by
 induction l with
 |nil=>intro a ha;cases ha
 |cons x l ih=>
  unfold dU at h;by_cases h1:eX fs x=0
  ·rw[if_pos h1] at h;intro a ha;rcases aIk.1 ha with rfl|ha
   ·exact h1
   ·exact ih h a ha
  ·rw[if_neg h1] at h;exact absurd h h1
theorem NB {f:Frm} (h:f.err=0):f.lf.length≤50∧f.lr.length≤50∧(∀r∈f.lr,eX f.lf r=0)∧dB f.W f.H [] f.lf=0:=by
 unfold Frm.err mF at h;have hz:=dX h;have h1:=D0 (by decide) (hz (aE (decide (50<f.lf.length)) 4) (by simp));have h2:=D0 (by decide) (hz (aE (decide (50<f.lr.length)) 4) (by simp));have h3:=hz (dU f.lf f.lr) (by simp);exact ⟨by simpa using h1,by simpa using h2,QH h3,hz (dB f.W f.H [] f.lf) (by simp)⟩
end Go.Proofs.YtllefinciimffaaGreatDoor
namespace Go.Proofs
open Go.Shelf
def Tryz.lays17w_ren:Go.Shelf.Ren:=⟨fun|17=>119|15=>167|20=>222|n=>n,fun|9=>9|23=>181|4=>4|3=>3|0=>0|21=>21|n=>n,fun|n=>n⟩
theorem Tryz.lays17w : Go.Proofs.LaysGw.n17 Tryz.prog Tryz.lays17w_ren := {
 mixed:=by kernel_rfl
 f15:=Tryz.func167.trans (congrArg some (by kernel_rfl))
 f17:=Tryz.func119.trans (congrArg some (by kernel_rfl))
 f20:=Tryz.func222.trans (congrArg some (by kernel_rfl))
 t0:=Tryz.underlying0
 a0:=Tryz.isAgg0
 z0:=Tryz.sizeOf0
 v0:=Tryz.zeroValue0
 i0:=by kernel_rfl
 t3:=Tryz.underlying3
 a3:=Tryz.isAgg3
 z3:=Tryz.sizeOf3
 v3:=Tryz.zeroValue3
 i3:=by kernel_rfl
 t4:=Tryz.underlying4
 a4:=Tryz.isAgg4
 z4:=Tryz.sizeOf4
 v4:=Tryz.zeroValue4
 i4:=by kernel_rfl
 t9:=Tryz.underlying9
 a9:=Tryz.isAgg9
 z9:=Tryz.sizeOf9
 v9:=Tryz.zeroValue9
 i9:=by kernel_rfl
 t21:=Tryz.underlying21
 a21:=Tryz.isAgg21
 z21:=Tryz.sizeOf21
 v21:=Tryz.zeroValue21
 i21:=by kernel_rfl
 t23:=Tryz.underlying181
 a23:=Tryz.isAgg181
 z23:=Tryz.sizeOf181
 v23:=Tryz.zeroValue181
 i23:=by kernel_rfl }
end Go.Proofs
namespace Go.Proofs.YtllefinciimffaaGreatDoor
open Go.RowKit Go.Shelf
def V3 (r:Nat):Bool:=decide (r<32)||decide (126<r)
theorem yG (p : Nat → Bool) (hp : ∀ r, 128 ≤ r → p r = true) (s : ByteArray) : ∀ (f pos : Nat), s.size ≤ pos + f → (0 ≤ Go.Lib.idxFuncFrom p true s f pos ↔ ∃ (j : Nat) (h : j < s.size), pos ≤ j ∧ p (s[j]'h).toNat = true)
 |0,pos,hf=>by
  show (0≤(-1:Int))↔_;exact ⟨fun h=>absurd h (by decide),fun ⟨j,h,h1,_⟩=>by omega⟩
 |f+1,pos,hf=>by
  unfold Go.Lib.idxFuncFrom;by_cases hlt:pos<s.size
  ·rw[if_pos hlt];by_cases ha:(s[pos]'hlt).toNat<128
   ·rw[decode_ascii s pos hlt ha];by_cases hc:p (s[pos]'hlt).toNat=true
    ·rw[if_pos hc];exact ⟨fun _=>⟨pos,hlt,Nat.le_refl _,hc⟩,fun _=>Int.natCast_nonneg _⟩
    ·rw[if_neg hc];rw[yG p hp s f (pos+1) (by omega)];constructor
     ·rintro ⟨j,h,h1,h2⟩;exact ⟨j,h,by omega,h2⟩
     ·rintro ⟨j,h,h1,h2⟩;refine ⟨j,h,?_,h2⟩;rcases Nat.lt_or_eq_of_le h1 with h3|rfl
      ·omega
      ·exact absurd h2 hc
   ·have hd:=(decode_high s pos hlt (by omega)).1;rw[if_pos (hp _ hd)];exact ⟨fun _=>⟨pos,hlt,Nat.le_refl _,hp _ (by omega)⟩,fun _=>Int.natCast_nonneg _⟩
  ·rw[if_neg hlt];exact ⟨fun h=>absurd h (by decide),fun ⟨j,h,h1,_⟩=>by omega⟩
theorem aAr (p:Nat→Bool) (hp:∀r,128≤r→p r=true) (t:List UInt8):decide (0≤Go.Lib.idxFunc p true ⟨t.toArray⟩)=t.any fun b=>p b.toNat:=by
 rw[Bool.eq_iff_iff,decide_eq_true_eq,aIm];unfold Go.Lib.idxFunc;rw[yG p hp _ _ 0 (by omega)];have hsz:(⟨t.toArray⟩:ByteArray).size=t.length:=Lib.size_mk t;constructor
 ·rintro ⟨j,h,-,h2⟩;have hg:=Lib.getElem_mk t j h;exact ⟨_,List.mem_of_getElem? hg,h2⟩
 ·rintro ⟨b,hb,h2⟩;obtain ⟨j,hj⟩:=List.getElem?_of_mem hb;have hlt:j<(⟨t.toArray⟩:ByteArray).size:=(by rw[hsz];exact (aH3.1 hj).1);have hg:=Lib.getElem_mk t j hlt;rw[hj] at hg;refine ⟨j,hlt,Nat.zero_le _,?_⟩;rw[←aIw hg];exact h2
theorem G7 : ∀ (l : List (List UInt8)) (b : UInt8), b ∈ xJ l → b = 32 ∨ ∃ x ∈ l, b ∈ x
 |[],b,h=>by cases h
 |[x],b,h=>.inr ⟨x,aIn.2 rfl,h⟩
 |x :: y :: l,b,h=>by
  have h:b∈x++32 :: xJ (y :: l):=h;rcases aIj.1 h with h|h
  ·exact .inr ⟨x,List.mem_cons_self ..,h⟩
  ·rcases aIk.1 h with h|h
   ·exact .inl h
   ·rcases G7 (y :: l) b h with h|⟨z,hz,h⟩
    ·exact .inl h
    ·exact .inr ⟨z,List.mem_cons_of_mem _ hz,h⟩
theorem G8 : ∀ (l : List (List UInt8)) (x : List UInt8) (b : UInt8), x ∈ l → b ∈ x → b ∈ xJ l
 |[],x,b,h,_=>by cases h
 |[z],x,b,h,hb=>by rw[aIn.1 h] at hb;exact hb
 |z :: y :: l,x,b,h,hb=>by
  show b∈z++32 :: xJ (y :: l);rcases aIk.1 h with rfl|h
  ·exact List.mem_append_left _ hb
  ·exact List.mem_append_right _ (List.mem_cons_of_mem _ (G8 (y :: l) x b h hb))
theorem T8 (t:List UInt8):mW t = !(decide ([]∈cL t)||t.any fun b=>V3 b.toNat):=by
 obtain ⟨-,hj,hn⟩:=oP _ t (Nat.le_refl _);rw[Bool.eq_iff_iff];simp only[Bool.not_eq_true',Bool.or_eq_false_iff,decide_eq_false_iff_not,List.any_eq_false];unfold mW;rw[aIl];constructor
 ·intro h;refine ⟨fun hm=>by have:=h [] hm;simp at this,fun b hb => ?_⟩;rw[←hj] at hb;have hb':32≤b.toNat∧b.toNat≤126:=by
   rcases G7 _ b hb with rfl|⟨x,hx,hbx⟩
   ·decide
   ·have:=h x hx;rw[aIs] at this;have h2:=aIv (show decide (∀b∈x,33≤b.toNat∧b.toNat≤126)=true from this.2) b hbx;omega
  unfold V3;simp;omega
 ·rintro ⟨h1,h2⟩ x hx;rw[aIs];refine ⟨?_,aIu fun b hb => ?_⟩
  ·cases x with
   |nil=>exact absurd hx h1
   |cons _ _=>rfl
  ·have h3:=h2 b (by rw[←hj];exact G8 _ x b hx hb);have h4:=hn x hx b hb;unfold V3 at h3;simp at h3;have h5:b.toNat≠32:=fun e=>h4 (UInt8.toNat_inj.1 e);omega
theorem D2 (w:World):Go.Proofs.PredAt Tryz.prog 120 #[] Go.Proofs.encR V3 w:=fun W r _=>by
 unfold FnGives;unfold V3;by_cases h1:r<32<;>by_cases h2:126<r
 all_goals
  have z1:(r:Int)<32↔r<32:=(by omega);have z2:(126:Int)<(r:Int)↔126<r:=by omega
  go_in
  go_wp2
  all_goals first|(exfalso;omega)|(go_ret;exact ⟨by simp[h1,h2],0,rfl⟩)
theorem vC (t:List UInt8) (w:World):Calls Tryz.prog 119 #[t,.func (.func 120) #[] #[]] w fun e w'=>e=.returned (.bool (t.any fun b=>V3 b.toNat))∧Bl w w':=by
 have h:=Any.strings_ContainsFunc Tryz.lays17w 120 #[] (fT Tryz.func120 (by kernel_rfl) rfl) V3 ⟨t.toArray⟩ w (D2 w);rw[aAr V3 (fun r hr=>by unfold V3;rw[aIu (show 126<r by omega),Bool.or_true]) t] at h;exact h
theorem QI (L:Option Addr) (c:Nat) (ts:List (List UInt8)) (x:List UInt8) (w:World) (hL:Reads w 1 L ts.length (bR ts)) (hn:ts.length≤9223372036854775807) :
 Calls Tryz.prog 166 #[.slice L ts.length c,x] w fun e w'=>∃i:Int,e=.returned i∧(0≤i↔x∈ts)∧w=w':=by
 have HL:=aHH hL;clear hL
 go_in
 go_wp2_with fail
 go_loop [8] (fun u=>∃i:Nat,i≤ts.length∧u=.int .i64 i∧∀(j:Nat) y,j<i→ts[j]? = some y→y≠x) (fun u=>ts.length-(RowKit.intOf u).toNat)
 case atStart=>exact ⟨0,Nat.zero_le _,rfl,fun j l hj=>absurd hj (Nat.not_lt_zero _)⟩
 case round=>
  obtain ⟨i,hi,rfl,hno⟩:=hrel;have HNo:=aHH hno;clear hno;by_cases hlt:i<ts.length
  ·have hg:ts[i]? = some ts[i]:=aH2 hlt;obtain ⟨y,hy⟩:=aH0 (ts[i]);rw[←hy] at hg;obtain ⟨ad,rfl,k1⟩:=pX HL.out hg;have HG:=aHH hg;clear hg hy;by_cases he:x=y
   ·have HP:=aHH (show x∈ts by rw[he];exact List.mem_of_getElem? HG.out);subst he;go_wp2_with fail;go_ret;exact ⟨_,rfl,⟨fun _=>HP.out,fun _=>by omega⟩,rfl⟩
   ·have HP:=aHH he;have heq:(x==y)=false:=(by simpa using he);go_wp2_with fail;exact ⟨⟨i+1,hlt,by go_num,fun j l' hj hl'=>by
     rcases Nat.lt_succ_iff_lt_or_eq.1 hj with h|rfl
     ·exact HNo.out j l' h hl'
     ·rw[HG.out] at hl';obtain rfl:=aIw hl';exact fun e=>HP.out e.symm⟩,by simp[RowKit.intOf];omega⟩
  ·obtain rfl:i=ts.length:=(by omega);go_wp2_with fail;go_ret;exact ⟨_,rfl,⟨fun h=>absurd h (by decide),fun hm=>by
    obtain ⟨j,hj⟩:=List.getElem?_of_mem hm;exact absurd rfl (HNo.out j x (aH3.1 hj).1 hj)⟩,rfl⟩
theorem D3 (L:Option Addr) (c:Nat) (ts:List (List UInt8)) (x:List UInt8) (w:World) (hL:Reads w 1 L ts.length (bR ts)) (hn:ts.length≤9223372036854775807) :
 Calls Tryz.prog 118 #[.slice L ts.length c,x] w fun e w'=>e=.returned (.bool (decide (x∈ts)))∧w=w':=by
 have Hc:=aHH (QI L c ts x w hL hn);clear hL
 go_in
 go_wp2_with fail;refine Hc.out.mono ?_;rintro e w1 ⟨i,rfl,hi,rfl⟩;have Hi:=aHH hi;clear hi;go_wp2_with fail;go_ret;exact ⟨aS (decide_eq_decide.2 Hi.out),rfl⟩
end Go.Proofs.YtllefinciimffaaGreatDoor
