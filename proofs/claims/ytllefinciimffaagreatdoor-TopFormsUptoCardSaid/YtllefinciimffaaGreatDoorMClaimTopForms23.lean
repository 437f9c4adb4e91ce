import Derived.Test.YtllefinciimffaaGreatDoorMClaimTopForms22
import Derived.Test.YtllefinciimffaaGreatDoorMClaimTopForms15
import Derived.Test.YtllefinciimffaaGreatDoorMClaimTopForms16
set_option maxHeartbeats 20000000
set_option maxRecDepth 100000
namespace Go.Proofs.YtllefinciimffaaGreatDoor
open Go.RowKit Go.Shelf
theorem FY:(Tryz.prog.info? 58).map (fun i=>(i.zero,i.size,i.bytes))=some (some (.agg #[.int .i64 0,.int .i64 0,.int .i64 0,.int .i64 0]),4,32):=by kernel_rfl
theorem aCc (l:List Bx):∀u∈iE l,u.oneCell'=true:=by
 intro u hu;unfold iE at hu;obtain ⟨b,_,h⟩:=List.mem_flatMap.1 hu;unfold Bx.cells at h;simp only[aLN,List.not_mem_nil,or_false] at h;rcases h with rfl|rfl|rfl|rfl<;>rfl
theorem mT (a b:List Bx):iE (a++b)=iE a++iE b:=aMh
theorem tO {w:World} {b base:Nat} {e:TypeId} {size n:Nat} {v:Value} {xs:List Value} {ks:List (List UInt8)} (hm:MapAt w b ks) (h:w.ownsRow base e size v n xs):some b≠v.ownBlock:=by
 obtain ⟨es,c,h1,-,-⟩:=hm;rcases h.2 with ⟨rfl,-⟩|⟨g,cap,cur,rfl,-,hg,-⟩
 ·intro h;cases h
 ·intro hx;have hx:b=g:=aLZ hx;subst hx;rw[h1] at hg;cases hg
theorem MapAt.grown {w w':World} {b:Nat} {ks:List (List UInt8)} {row:Option Nat} (h:MapAt w b ks) (hb:w.grownBy w' row) (hne:some b≠row):MapAt w' b ks:=by
 obtain ⟨es,c,h1,h2,h3⟩:=h;exact ⟨es,c,(hb.block b (aL1.1 h1).1 hne).trans h1,h2,h3⟩
theorem MapAt.update2 {w:World} {b:Nat} {ks:List (List UInt8)} (h:MapAt w b ks) (s:List UInt8):∃w',(Instr.mapUpdate 163 (.map (some b)) (.string ⟨s.toArray⟩) (.bool true)).run Tryz.prog w=.ok () w'∧MapAt w' b (ks++[s])∧(∀w0,Bl w0 w→w0.heap.size≤b→Bl w0 w')∧∀k,k≠b→w'.heap[k]? = w.heap[k]?:=by
 obtain ⟨es,c,h1,h2,h3⟩:=h;have hk:MapKept.IsKey .string (.string ⟨s.toArray⟩):=trivial;have hks:∀x∈es.toList,MapKept.IsKey .string x.key:=fun x hx=>(by obtain ⟨t,_,e,_⟩:=h2 x hx;rw[e];trivial);obtain ⟨w',hr,hM,hB⟩:=MapAt.update ⟨es,c,h1,h2,h3⟩ s;refine ⟨w',hr,hM,hB,fun k hkb => ?_⟩;rcases MapKept.findNow_spec hk es.toList 0 hks with ⟨hf,hno⟩|⟨j,e,hf,hj,he⟩
 ·have e2:(Instr.mapUpdate 163 (.map (some b)) (.string ⟨s.toArray⟩) (.bool true)).run Tryz.prog w=.ok () { w with heap:=w.heap.setIfInBounds b (.map (es.push ⟨.string ⟨s.toArray⟩,.bool true,c⟩) (c+1)) }:=by
   simp[Instr.mapUpdate,run_underlying Tryz.underlying163,MapKept.run_getObj_map h1,MapKept.run_checkKey Tryz.underlying9 hk,MapKept.run_findKey Tryz.underlying9 hf,MapKept.run_setObj_map _ h1,Result.andThen]
  obtain ⟨-,e3⟩:=Result.ok.inj (hr.symm.trans e2);rw[e3];exact Array.getElem?_setIfInBounds_ne (by omega)
 ·have hj':es[j]? = some e:=(by simpa using hj);have e2:(Instr.mapUpdate 163 (.map (some b)) (.string ⟨s.toArray⟩) (.bool true)).run Tryz.prog w=.ok () { w with heap:=w.heap.setIfInBounds b (.map (es.modify j (fun e'=>{ e' with key:=.string ⟨s.toArray⟩,val:=.bool true })) c) }:=by
   simp[Instr.mapUpdate,run_underlying Tryz.underlying163,MapKept.run_getObj_map h1,MapKept.run_checkKey Tryz.underlying9 hk,MapKept.run_findKey Tryz.underlying9 hf,hj',he,MapKept.run_keyThatStays hk,MapKept.run_setObj_map _ h1,Result.andThen]
  obtain ⟨-,e3⟩:=Result.ok.inj (hr.symm.trans e2);rw[e3];exact Array.getElem?_setIfInBounds_ne (by omega)
theorem W0 {w w':World} {base b:Nat} {e:TypeId} {size n:Nat} {v:Value} {xs:List Value} (h:w.ownsRow base e size v n xs) (hk:∀k,k≠b→w'.heap[k]? = w.heap[k]?) (hne:some b≠v.ownBlock):w'.ownsRow base e size v n xs:=by
 refine ⟨h.1,?_⟩;rcases h.2 with h2|⟨g,cap,cur,rfl,hg,hh,r⟩
 ·exact .inl h2
 ·refine .inr ⟨g,cap,cur,rfl,hg,(hk g ?_).trans hh,r⟩;intro hx;exact hne (by rw[hx];rfl)
theorem aA4 (a:Bx) (l:List Bx):decide (∃b∈l,a.over b=true)=l.any fun b=>a.over b:=by
 rw[Bool.eq_iff_iff,decide_eq_true_eq,aLP]
theorem BxsAt.take {w:World} {L:Option Addr} {l:List Bx} (h:BxsAt w L l) (i:Nat) (hi:i≤l.length):BxsAt w L (l.take i):=by
 have e:(l.take i).flatMap Bx.cells=(l.flatMap Bx.cells).take (i*4):=by
  conv=>rhs;rw[←aLK i l,aMh]
  rw[aL2 (by rw[mE Bx.cells 4 (fun _=>rfl),aLA];omega)]
 unfold BxsAt;rw[e];refine ⟨by rw[aLA,mE Bx.cells 4 (fun _=>rfl),aLA];omega,fun hp => ?_⟩;obtain ⟨ad,e1,hc⟩:=h.2 (by rw[aLA] at hp;omega);refine ⟨ad,e1,fun j u hj=>hc j u ?_⟩;rw[List.getElem?_take] at hj;split at hj
 ·exact hj
 ·cases hj
def VPost (w0 w:World) (gm:Nat) (ks:List (List UInt8)) (nm:List UInt8) (e:Int) (w':World):Prop:=
 (e=0→MapAt w' gm (ks++[nm]))∧Bl w0 w'∧∀k,k<w.heap.size→k≠gm→w'.heap[k]? = w.heap[k]?
theorem xN {w w':World} (h:Bl w w'):∀k,k<w.heap.size→w'.heap[k]? = w.heap[k]?:=fun k hk=>Below.block h k hk
theorem FldsAt.take {w:World} {L:Option Addr} {l:List Fld} (h:FldsAt w L l) (i:Nat) (hi:i≤l.length):FldsAt w L (l.take i):=by
 have e:(l.take i).flatMap Fld.cells=(l.flatMap Fld.cells).take (i*9):=by
  conv=>rhs;rw[←aLK i l,aMh]
  rw[aL2 (by rw[mE Fld.cells 9 (fun _=>rfl),aLA];omega)]
 refine ⟨?_,fun f hf=>h.2 f (List.mem_of_mem_take hf)⟩;rw[e];refine ⟨by rw[aLA,mE Fld.cells 9 (fun _=>rfl),aLA];omega,fun hp => ?_⟩;obtain ⟨ad,e1,hc⟩:=h.1.2 (by rw[aLA] at hp;omega);refine ⟨ad,e1,fun j u hj=>hc j u ?_⟩;rw[List.getElem?_take] at hj;split at hj
 ·exact hj
 ·cases hj
def pW (nm:List UInt8) (v:Vlu):Bool:=decide (v.field=nm)
theorem VlusAt.take {w:World} {L:Option Addr} {l:List Vlu} (h:VlusAt w L l) (i:Nat) (hi:i≤l.length):VlusAt w L (l.take i):=by
 have e:(l.take i).flatMap Vlu.cells=(l.flatMap Vlu.cells).take (i*4):=by
  conv=>rhs;rw[←aLK i l,aMh]
  rw[aL2 (by rw[mE Vlu.cells 4 (fun _=>rfl),aLA];omega)]
 refine ⟨?_,fun f hf=>h.2 f (List.mem_of_mem_take hf)⟩;rw[e];refine ⟨by rw[aLA,mE Vlu.cells 4 (fun _=>rfl),aLA];omega,fun hp => ?_⟩;obtain ⟨ad,e1,hc⟩:=h.1.2 (by rw[aLA] at hp;omega);refine ⟨ad,e1,fun j u hj=>hc j u ?_⟩;rw[List.getElem?_take] at hj;split at hj
 ·exact hj
 ·cases hj
def MapV (w:World) (b:Nat) (vs:List Vlu):Prop:=∃es clock,w.heap[b]? = some (.map es clock)∧(∀x∈es.toList,∃s v,x.key=.string ⟨List.toArray s⟩∧vs.find? (pW s)=some v∧x.val=v.val)∧∀v∈vs,∃x∈es.toList,x.key=.string ⟨v.field.toArray⟩
theorem MapV.bl {w w':World} {b:Nat} {vs:List Vlu} (h:MapV w b vs) (hb:Bl w w'):MapV w' b vs:=by
 obtain ⟨es,c,h1,h2,h3⟩:=h;exact ⟨es,c,(Below.block hb b (aL1.1 h1).1).trans h1,h2,h3⟩
end Go.Proofs.YtllefinciimffaaGreatDoor
namespace Go.Proofs.YtllefinciimffaaGreatDoor
structure Brk where
 rule:Nat
 field:List UInt8
def Brk.cells (b:Brk):List Value:=[.int .i64 b.rule,.string ⟨b.field.toArray⟩]
def Brk.val (b:Brk):Value:=.agg #[b.rule,b.field]
theorem iB {b:Bool} {e:Int} (he:e≠0) (h:aF b e=0):b=false:=by
 cases b with
 |false=>rfl
 |true=>exact absurd h he
theorem S0 {fs:List Fld} {l:List Rul} (h:iG fs l=0):∀r∈l,gW fs r=0:=by
 induction l with
 |nil=>intro a ha;cases ha
 |cons x l ih=>
  unfold iG at h;by_cases h1:gW fs x=0
  ·rw[if_pos h1] at h;intro a ha;rcases aLN.1 ha with rfl|ha
   ·exact h1
   ·exact ih h a ha
  ·rw[if_neg h1] at h;exact absurd h h1
theorem JU {f:Frm} (h:f.err=0):f.lf.length≤50∧f.lr.length≤50∧(∀r∈f.lr,gW f.lf r=0)∧fN f.W f.H [] f.lf=0:=by
 unfold Frm.err oD at h;have hz:=bA h;have h1:=iB (by decide) (hz (aF (decide (50<f.lf.length)) 4) (by simp));have h2:=iB (by decide) (hz (aF (decide (50<f.lr.length)) 4) (by simp));have h3:=hz (iG f.lf f.lr) (by simp);exact ⟨by simpa using h1,by simpa using h2,S0 h3,hz (fN f.W f.H [] f.lf) (by simp)⟩
end Go.Proofs.YtllefinciimffaaGreatDoor
namespace Go.Proofs.YtllefinciimffaaGreatDoor
open Go.RowKit Go.Shelf
theorem zL (w0:World) (f:Frm) (v:Vlu) (gm:Nat) (ks:List (List UInt8)) (w:World) (hb0:Bl w0 w) (hg:w0.heap.size≤gm) (hF:FrmAt w0 f) (hV:Reads w0 1 v.M v.marks.length (v.marks.map (.int .i64))) (hvl:v.marks.length≤9223372036854775807) (hM:MapAt w gm ks) :
 Calls Tryz.prog 98 #[f.val,v.val,.map (some gm),.bool false] w fun e w'=>e=.returned (.int .i64 (cP f.lf (decide (v.field∈ks)) v))∧VPost w0 w gm ks v.field (cP f.lf (decide (v.field∈ks)) v) w':=by
 obtain ⟨nm,fW,fH,reach,dark,AL,ac,la,FL,fc,lf,RL,rc,lr⟩:=f;obtain ⟨VE,hVE⟩:=aLt (cP lf (decide (v.field∈ks)) v);show Calls _ _ _ w fun e w'=>e=.returned (.int .i64 (cP lf (decide (v.field∈ks)) v))∧VPost w0 w gm ks v.field (cP lf (decide (v.field∈ks)) v) w';rw[←hVE];have HVE:=aLa hVE;let w1:=((w).alloc (.cells #[nm,fW,fH,reach,dark,.slice AL la.length ac,.slice FL lf.length fc,.slice RL lr.length rc] 26)).alloc (.cells #[v.field,v.text,.slice v.M v.marks.length v.mc,v.sure] 69);obtain ⟨w1b,w11,w12⟩:=aLi (x:=w1) w _ _ _ _ rfl;have hfa:=fun (n:List UInt8) wx (hF:FrmAt wx ⟨nm,fW,fH,reach,dark,AL,ac,la,FL,fc,lf,RL,rc,lr⟩)=>rY _ n wx hF;unfold Frm.val at hfa;have hgw:gm<w.heap.size:=(by obtain ⟨es,c,h1,-,-⟩:=hM;exact (aL1.1 h1).1);obtain ⟨HF,HV,Hfa,HM1,aIx,Hg⟩:=aLe hF hV hfa (hM.bl w1b) (hb0.trans w1b) hg;have k1:=w11.all8;have k2:=w12.all4;have hln:lf.length≤9223372036854775807:=hF.fn.2;obtain ⟨dV,W12,W11⟩:=aLb w1b w12 w11;have aE9:=w1b.le;unfold Frm.val Vlu.val;clear hF hV hVE hfa w1b hM hb0 hg w11 w12
 go_in
 go_wp2_with fail;refine (Hfa.out v.field _ (HF.out.bl aIx.out)).mono ?_;rintro e w2 ⟨ix,rfl,hix,hb2⟩;have aHe:=aLa (aIx.out.trans hb2);have HM2:=aLa (HM1.out.bl hb2);have k1:=(W11.out.bl hb2).all8;have k2:=(W12.out.bl hb2).all4;have aFY:=hb2.le;have hlk:=HM2.out.lookup v.field;obtain ⟨tw,htw⟩:=aLt (decide (v.field∈ks));rw[←htw] at hlk HVE;have HK2:=aLa (show ∀k,k<w.heap.size→w2.heap[k]? = w.heap[k]? from fun k hk=>(xN hb2 k (by omega)).trans (xN dV.out k hk));rcases uZ hix with ⟨h0,hk⟩|⟨j,x,rfl,hl,hk⟩
 ·have HX:=aLa (show VE=10 by rw[HVE.out];unfold cP;rw[hk]);clear hix hk hb2 hlk htw;go_wp2_with fail;go_ret;exact ⟨by rw[HX.out];rfl,fun h=>absurd (HX.out.symm.trans h) (by decide),aHe.out,fun k hk _=>HK2.out k hk⟩
 have aIy:=aLa (show VE=aG [aF tw 6,aF (bB x v) 2,mN x v.marks] by rw[HVE.out];unfold cP;rw[hk]);have HL:=aLa hl;have hjl:=(aLw.1 hl).1;have B22:=aLa (W12.out.bl hb2);have B21:=aLa (W11.out.bl hb2);clear hix hk hl hb2 htw;cases tw with
 |true=>have HX:=aLa (show VE=6 by rw[aIy.out];rfl);go_wp2_with fail;go_ret;exact ⟨by rw[HX.out];rfl,fun h=>absurd (HX.out.symm.trans h) (by decide),aHe.out,fun k hk _=>HK2.out k hk⟩
 |false=>
 have aCt:=aLa (show VE=aG [aF (bB x v) 2,mN x v.marks] by rw[aIy.out,eN,eG]);obtain ⟨w4,hup,hM4,hB4,hK4⟩:=HM2.out.update2 v.field;have aHf:Bl w0 w4:=hB4 w0 aHe.out Hg.out;have b41:Blk w4 w.heap.size 26 #[nm,fW,fH,reach,dark,.slice AL la.length ac,.slice FL lf.length fc,.slice RL lr.length rc]:=(hK4 _ (by omega)).trans B21.out;have b42:Blk w4 (w.heap.size+1) 69 #[v.field,v.text,.slice v.M v.marks.length v.mc,v.sure]:=(hK4 _ (by omega)).trans B22.out;obtain ⟨ad,e1,j1,j2,j3,j4,j5,j6,j7,j8,j9⟩:=FldsAt.at_ (HF.out.flds.bl aHf) HL.out;simp only at e1;subst e1;obtain ⟨HM4,aIz,B41,B42,HK4⟩:=aLd hM4 aHf b41 b42 (show ∀k,k<w.heap.size→k≠gm→w4.heap[k]? = w.heap[k]? from fun k hk hn=>(hK4 k hn).trans (HK2.out k hk));have hs4:w.heap.size+2≤w4.heap.size:=(by have:=b42.lt;omega);have k3:=b41.all8;have k4:=b42.all4;clear hM4 hB4 hK4 aHf b41 b42;go_upto_region 8 with fail;obtain ⟨w5,hw5⟩:=aLt (w4.alloc (.cells #[x.name,x.kind,x.box.X,x.box.Y,x.box.W,x.box.H,.slice x.M x.marks.length x.mc,x.most,.bool x.needed] 61));have b5:=aLo hw5;have hb5:=aLn hw5;rw[←hw5];obtain ⟨w6,hw6⟩:=aLt w5;rw[←hw6] at b5 hb5 ⊢;obtain ⟨B6,B2,aGc,xE⟩:=aLc b5 (B42.out.bl hb5) (aIz.out.trans hb5) (show ∀wx,Bl w6 wx→VPost w0 w gm ks v.field VE wx from fun wx hx=>⟨fun _=>HM4.out.bl (hb5.trans hx),(aIz.out.trans hb5).trans hx,fun k hk hn=>(xN (hb5.trans hx) k (by omega)).trans (HK4.out k hk hn)⟩);have k1:=(B41.out.bl hb5).all8;have k2:=B2.out.all4;have k3:=b5.all9;obtain ⟨mk,hmk⟩:=aLt (bL x.kind);obtain ⟨te,hte⟩:=aLt v.text.isEmpty;have Hmk:=aLa hmk.symm;have Hte:=aLa hte.symm;have hte2:=hte.symm;have hhm:=fun wx=>mF x.kind wx;rw[←hmk] at hhm;have Hhm:=aLa hhm;clear hw5 hw6 b5 hb5 j1 j2 j3 j4 j5 j6 j7 j8 j9 hup hlk hhm hmk hte k4;go_upto_region 9 with (go_at_call 76;refine (Hhm.out _).mono ?_;rintro e w' ⟨rfl,rfl⟩);by_cases c0:v.sure≠0
 ·have q0:(v.sure != 0)=true:=(by simp[c0]);have HX:=aLa (show VE=2 by
   rw[aCt.out,show bB x v=true from by
    unfold bB;exact fD (j:=0) (show eU x v=true by unfold eU;simp[c0]) _ (Nat.zero_le _)];rfl)
  clear c0;go_wp2_with fail;go_ret;exact ⟨by rw[HX.out];rfl,xE.out _ (Bl.refl _)⟩
 have Hc0:=aLa (Classical.not_not.1 c0);clear c0;go_cut [36] from 37 to 44 (fun s wc=>s=.bool false∧w6=wc);case first=>
  have q0:(v.sure != 0)=false:=(by rw[Hc0.out];rfl);go_wp2_with fail;go_meet;case rel=>exact ⟨rfl,rfl⟩
 case rest=>
 rename World=>wz;obtain ⟨rfl,rfl⟩:=hcut;cases mk with
 |true=>
  cases te with
  |false=>
   have HX:=aLa (show VE=2 by
    rw[aCt.out,show bB x v=true from by
     unfold bB;exact fD (j:=0) (show eU x v=true by unfold eU rM;rw[Hmk.out,Hte.out];simp[*,Hc0.out]) _ (Nat.zero_le _)];rfl)
   go_wp2_with fail;go_ret;exact ⟨by rw[HX.out];rfl,xE.out _ (Bl.refl _)⟩
  |true=>
   by_cases c3:x.kind=3
   ·have q3:(x.kind==3)=true:=(by simpa using c3);by_cases cl:1<v.marks.length
    ·have cli:1<(v.marks.length:Int):=(by omega);have HX:=aLa (show VE=2 by
      rw[aCt.out,show bB x v=true from by
       unfold bB;exact fD (j:=0) (show eU x v=true by unfold eU rM;rw[Hmk.out,Hte.out];simp[*,Hc0.out]) _ (Nat.zero_le _)];rfl)
     go_wp2_with fail;go_ret;exact ⟨by rw[HX.out];rfl,xE.out _ (Bl.refl _)⟩
    ·have cli:¬1<(v.marks.length:Int):=(by omega);have Hw0:=aLa (show eU x v=false by unfold eU rM;rw[Hmk.out,Hte.out];simp[*,Hc0.out]);go_upto_region 14 with fail;go_wp2_with fail;go_loopw [12] (fun u wr=>∃j:Nat,1≤j∧j≤max 1 v.marks.length∧u=.int .i64 j∧Bl w6 wr∧iH false v.marks j=false) (fun u _=>v.marks.length-(RowKit.intOf u).toNat);case atStart=>exact ⟨1,Nat.le_refl _,Nat.le_max_left _ _,rfl,Bl.refl _,sB _ _⟩
     case round=>
      clear k1 k2 k3;rename World=>wr;obtain ⟨j,hj1,hj2,rfl,hbr,hno⟩:=hrel;have k2:=(B2.out.bl hbr).all4;by_cases hlt:j<v.marks.length
      ·exact absurd hlt (by omega)
      ·have Hnw:=aLa (show bB x v=false by unfold bB;rw[Hw0.out,show max 1 v.marks.length=j by omega];exact hno);have Hbr:=aLa hbr;have aBP:=aLa (show VE=mN x v.marks by rw[aCt.out,Hnw.out,eN,pT];simp);have k3:=(B6.out.bl hbr).all9;clear hbr hno hj2;go_wp2_with fail;go_loopw [89] (fun u wy=>∃i:Nat,i≤v.marks.length∧u=.int .i64 i∧Bl w6 wy∧∀(j:Nat) m,j<i→v.marks[j]? = some m→inB m 0 ((x.marks.length:Int)-1)=true) (fun u _=>v.marks.length-(RowKit.intOf u).toNat);case atStart=>exact ⟨0,Nat.zero_le _,rfl,Hbr.out,fun j m hj=>absurd hj (Nat.not_lt_zero _)⟩
       case round=>
        clear k2 k3;rename World=>wy;obtain ⟨i,hi,rfl,hby,gA⟩:=hrel;have k2:=(B2.out.bl hby).all4;have k3:=(B6.out.bl hby).all9;by_cases hli:i<v.marks.length
        ·have hg:v.marks[i]? = some v.marks[i]:=aLv hli;obtain ⟨m,hm⟩:=aLt (v.marks[i]);rw[←hm] at hg;obtain ⟨ad,u1,eA,hu,hc1⟩:=(HV.out.bl (aGc.out.trans hby)).at_ hli;have hu1:u1=.int .i64 m:=by
          rw[aLG,hg] at hu;exact (aLZ hu).symm
         subst hu1;obtain ⟨HG,Hby,CA⟩:=aLb hg hby gA;clear hg hm hu hby gA;rw[eA];by_cases c1:m<0
         ·have HX:=aLa (show VE=3 by
           rw[aBP.out];unfold mN;rw[show (v.marks.any fun m => !inB m 0 ((x.marks.length:Int)-1))=true from aLP.2 ⟨m,List.mem_of_getElem? HG.out,by rw[dC.2 (.inl c1)];rfl⟩];rfl)
          go_wp2_with fail;go_ret;exact ⟨by rw[HX.out];rfl,xE.out _ Hby.out⟩
         ·by_cases c2:(x.marks.length:Int)≤m
          ·have HX:=aLa (show VE=3 by
            rw[aBP.out];unfold mN;rw[show (v.marks.any fun m => !inB m 0 ((x.marks.length:Int)-1))=true from aLP.2 ⟨m,List.mem_of_getElem? HG.out,by rw[dC.2 (.inr (by omega))];rfl⟩];rfl)
           go_wp2_with fail;go_ret;exact ⟨by rw[HX.out];rfl,xE.out _ Hby.out⟩
          ·have HX:=aLa (show inB m 0 ((x.marks.length:Int)-1)=true from aR.2 ⟨by omega,by omega⟩);rw[←eA];go_wp2_with fail;exact ⟨⟨i+1,hli,by go_num,Hby.out,fun j' m' hj' hm'=>by
            rcases Nat.lt_succ_iff_lt_or_eq.1 hj' with h|rfl
            ·exact CA.out j' m' h hm'
            ·rw[HG.out] at hm';obtain rfl:=aLZ hm';exact HX.out⟩,by simp[RowKit.intOf];omega⟩
        ·obtain rfl:i=v.marks.length:=(by omega);have HX:=aLa (show VE=0 by
          rw[aBP.out];unfold mN;rw[show (v.marks.any fun m => !inB m 0 ((x.marks.length:Int)-1))=false from List.any_eq_false.2 fun m hm=>by
           obtain ⟨j,hj⟩:=List.getElem?_of_mem hm;rw[gA j m (aLw.1 hj).1 hj];decide];rfl)
         go_wp2_with fail;go_ret;exact ⟨by rw[HX.out];rfl,xE.out _ hby⟩
   ·have q3:(x.kind==3)=false:=(by simpa using c3);have Hw0:=aLa (show eU x v=false by unfold eU rM;rw[Hmk.out,Hte.out];simp[*,Hc0.out]);go_upto_region 14 with fail;go_wp2_with fail;go_loopw [12] (fun u wr=>∃j:Nat,1≤j∧j≤max 1 v.marks.length∧u=.int .i64 j∧Bl w6 wr∧iH false v.marks j=false) (fun u _=>v.marks.length-(RowKit.intOf u).toNat);case atStart=>exact ⟨1,Nat.le_refl _,Nat.le_max_left _ _,rfl,Bl.refl _,sB _ _⟩
    case round=>
     clear k1 k2 k3;rename World=>wr;obtain ⟨j,hj1,hj2,rfl,hbr,hno⟩:=hrel;have k2:=(B2.out.bl hbr).all4;by_cases hlt:j<v.marks.length
     ·have hst:=wM false v.marks hj1;rw[hno,Bool.false_or] at hst;obtain ⟨ad,u1,eA,hu,hc1⟩:=(HV.out.bl (aGc.out.trans hbr)).at_ hlt;obtain ⟨ad',u2,eA',hu',hc2⟩:=(HV.out.bl (aGc.out.trans hbr)).at_ (show j-1<v.marks.length by omega);rw[eA] at eA';obtain rfl:=aLZ eA';have hu1:u1=.int .i64 (v.marks.getD j 0):=by
       simp only[aLG,Option.map_eq_some_iff] at hu;obtain ⟨b,hb1,hb2⟩:=hu;rw[←hb2,List.getD,hb1];rfl
      have hu2:u2=.int .i64 (v.marks.getD (j-1) 0):=by
       simp only[aLG,Option.map_eq_some_iff] at hu';obtain ⟨b,hb1,hb2⟩:=hu';rw[←hb2,List.getD,hb1];rfl
      clear hu hu';subst hu1 hu2;obtain ⟨p1,hp1⟩:=aLt (v.marks.getD j 0);obtain ⟨p2,hp2⟩:=aLt (v.marks.getD (j-1) 0);rw[←hp1,←hp2] at hst;rw[←hp1] at hc1;rw[←hp2] at hc2;have ej:((j:Int)-1)=((j-1:Nat):Int):=(by omega);obtain ⟨Hst,Hbr,HEA⟩:=aLb hst hbr eA;obtain ⟨jm,hjm⟩:=aLt (j-1);rw[←hjm] at hc2 ej;have hjl:(jm:Int)<(v.marks.length:Int):=(by omega);rw[eA] at k2;have Hj2:=aLa hj2;clear hp1 hp2 hst hbr hno eA hjm hj2;go_upto_region 17 with fail;refine aLs [aLq 0,aLq 1,aLq 2,aLq 3,aLq 4,aLq 5,aLq 6,aLq 7,aLq 8,aLq 9,aLq 10,aLq 11] (by kernel_rfl) ?_
      iterate 2
       apply Flow.calm2 _ _ rfl rfl
       ·intro a b c d;obtain ⟨e,f⟩:=b.rule;go_simp;(try go_ints);exact d
       ·intro a b;simp only[sqA];exact b
      iterate 2
       apply Flow.mv _ rfl
       ·intro a b;simp only[sqA,Act.eval,sqC];exact b
       iterate 4
        apply Flow.calm2 _ _ rfl rfl
        ·intro a b c d;obtain ⟨e,f⟩:=b.rule;go_simp;(try go_ints);exact d
        ·intro a b;simp only[sqA];exact b
      refine Flow.done ?_;by_cases c1:p1≤p2
      ·have HX:=aLa (show VE=2 by
        rw[aCt.out,show bB x v=true from by
         unfold bB;rw[Hw0.out];exact fD (j:=j+1) (by rw[Hst.out];exact aLX c1) _ (by omega)];rfl)
       go_wp2_with fail;go_ret;exact ⟨by rw[HX.out];rfl,xE.out _ Hbr.out.drew⟩
      ·have HX:=aLa (show iH false v.marks (j+1)=false by rw[Hst.out];exact aLW c1);go_wp2_with fail;exact ⟨⟨j+1,by omega,by have:=Hj2.out;omega,by go_num,Hbr.out.drew,HX.out⟩,by simp[RowKit.intOf];omega⟩
     ·have Hnw:=aLa (show bB x v=false by unfold bB;rw[Hw0.out,show max 1 v.marks.length=j by omega];exact hno);have Hbr:=aLa hbr;have aBP:=aLa (show VE=mN x v.marks by rw[aCt.out,Hnw.out,eN,pT];simp);have k3:=(B6.out.bl hbr).all9;clear hbr hno hj2;go_wp2_with fail;go_loopw [89] (fun u wy=>∃i:Nat,i≤v.marks.length∧u=.int .i64 i∧Bl w6 wy∧∀(j:Nat) m,j<i→v.marks[j]? = some m→inB m 0 ((x.marks.length:Int)-1)=true) (fun u _=>v.marks.length-(RowKit.intOf u).toNat);case atStart=>exact ⟨0,Nat.zero_le _,rfl,Hbr.out,fun j m hj=>absurd hj (Nat.not_lt_zero _)⟩
      case round=>
       clear k2 k3;rename World=>wy;obtain ⟨i,hi,rfl,hby,gA⟩:=hrel;have k2:=(B2.out.bl hby).all4;have k3:=(B6.out.bl hby).all9;by_cases hli:i<v.marks.length
       ·have hg:v.marks[i]? = some v.marks[i]:=aLv hli;obtain ⟨m,hm⟩:=aLt (v.marks[i]);rw[←hm] at hg;obtain ⟨ad,u1,eA,hu,hc1⟩:=(HV.out.bl (aGc.out.trans hby)).at_ hli;have hu1:u1=.int .i64 m:=by
         rw[aLG,hg] at hu;exact (aLZ hu).symm
        subst hu1;obtain ⟨HG,Hby,CA⟩:=aLb hg hby gA;clear hg hm hu hby gA;rw[eA];by_cases c1:m<0
        ·have HX:=aLa (show VE=3 by
          rw[aBP.out];unfold mN;rw[show (v.marks.any fun m => !inB m 0 ((x.marks.length:Int)-1))=true from aLP.2 ⟨m,List.mem_of_getElem? HG.out,by rw[dC.2 (.inl c1)];rfl⟩];rfl)
         go_wp2_with fail;go_ret;exact ⟨by rw[HX.out];rfl,xE.out _ Hby.out⟩
        ·by_cases c2:(x.marks.length:Int)≤m
         ·have HX:=aLa (show VE=3 by
           rw[aBP.out];unfold mN;rw[show (v.marks.any fun m => !inB m 0 ((x.marks.length:Int)-1))=true from aLP.2 ⟨m,List.mem_of_getElem? HG.out,by rw[dC.2 (.inr (by omega))];rfl⟩];rfl)
          go_wp2_with fail;go_ret;exact ⟨by rw[HX.out];rfl,xE.out _ Hby.out⟩
         ·have HX:=aLa (show inB m 0 ((x.marks.length:Int)-1)=true from aR.2 ⟨by omega,by omega⟩);rw[←eA];go_wp2_with fail;exact ⟨⟨i+1,hli,by go_num,Hby.out,fun j' m' hj' hm'=>by
           rcases Nat.lt_succ_iff_lt_or_eq.1 hj' with h|rfl
           ·exact CA.out j' m' h hm'
           ·rw[HG.out] at hm';obtain rfl:=aLZ hm';exact HX.out⟩,by simp[RowKit.intOf];omega⟩
       ·obtain rfl:i=v.marks.length:=(by omega);have HX:=aLa (show VE=0 by
         rw[aBP.out];unfold mN;rw[show (v.marks.any fun m => !inB m 0 ((x.marks.length:Int)-1))=false from List.any_eq_false.2 fun m hm=>by
          obtain ⟨j,hj⟩:=List.getElem?_of_mem hm;rw[gA j m (aLw.1 hj).1 hj];decide];rfl)
        go_wp2_with fail;go_ret;exact ⟨by rw[HX.out];rfl,xE.out _ hby⟩
 |false=>
  by_cases cl:0<v.marks.length
  ·have cli:0<(v.marks.length:Int):=(by omega);have HX:=aLa (show VE=2 by
    rw[aCt.out,show bB x v=true from by
     unfold bB;exact fD (j:=0) (show eU x v=true by unfold eU rM;rw[Hmk.out,Hte.out];simp[*,Hc0.out]) _ (Nat.zero_le _)];rfl)
   go_wp2_with fail;go_ret;exact ⟨by rw[HX.out];rfl,xE.out _ (Bl.refl _)⟩
  ·have cli:¬0<(v.marks.length:Int):=(by omega);have cl1:¬1<v.marks.length:=(by omega);have q3:(x.kind==3)=false:=by
    have h:=Hmk.out;unfold bL at h;simp at h;simpa using h.1
   have c3:¬x.kind=3:=(by simpa using q3);have Hw0:=aLa (show eU x v=false by unfold eU rM;rw[Hmk.out,Hte.out];simp[*,Hc0.out]);go_upto_region 14 with fail;go_wp2_with fail;go_loopw [12] (fun u wr=>∃j:Nat,1≤j∧j≤max 1 v.marks.length∧u=.int .i64 j∧Bl w6 wr∧iH false v.marks j=false) (fun u _=>v.marks.length-(RowKit.intOf u).toNat);case atStart=>exact ⟨1,Nat.le_refl _,Nat.le_max_left _ _,rfl,Bl.refl _,sB _ _⟩
   case round=>
    clear k1 k2 k3;rename World=>wr;obtain ⟨j,hj1,hj2,rfl,hbr,hno⟩:=hrel;have k2:=(B2.out.bl hbr).all4;by_cases hlt:j<v.marks.length
    ·exact absurd hlt (by omega)
    ·have Hnw:=aLa (show bB x v=false by unfold bB;rw[Hw0.out,show max 1 v.marks.length=j by omega];exact hno);have Hbr:=aLa hbr;have aBP:=aLa (show VE=mN x v.marks by rw[aCt.out,Hnw.out,eN,pT];simp);have k3:=(B6.out.bl hbr).all9;clear hbr hno hj2;go_wp2_with fail;go_loopw [89] (fun u wy=>∃i:Nat,i≤v.marks.length∧u=.int .i64 i∧Bl w6 wy∧∀(j:Nat) m,j<i→v.marks[j]? = some m→inB m 0 ((x.marks.length:Int)-1)=true) (fun u _=>v.marks.length-(RowKit.intOf u).toNat);case atStart=>exact ⟨0,Nat.zero_le _,rfl,Hbr.out,fun j m hj=>absurd hj (Nat.not_lt_zero _)⟩
     case round=>
      clear k2 k3;rename World=>wy;obtain ⟨i,hi,rfl,hby,gA⟩:=hrel;have k2:=(B2.out.bl hby).all4;have k3:=(B6.out.bl hby).all9;by_cases hli:i<v.marks.length
      ·exact absurd hli (by omega)
      ·obtain rfl:i=v.marks.length:=(by omega);have HX:=aLa (show VE=0 by
        rw[aBP.out];unfold mN;rw[show (v.marks.any fun m => !inB m 0 ((x.marks.length:Int)-1))=false from List.any_eq_false.2 fun m hm=>by
         obtain ⟨j,hj⟩:=List.getElem?_of_mem hm;rw[gA j m (aLw.1 hj).1 hj];decide];rfl)
       go_wp2_with fail;go_ret;exact ⟨by rw[HX.out];rfl,xE.out _ hby⟩
theorem nK (f:Frm) (w:World) (hF:FrmAt w f) (hS:f.small 1048576) (hN:NumOk w) (hC:SplitOk w) :
 Calls Tryz.prog 39 #[f.val] w fun e w'=>e=.returned f.err∧Bl w w':=by
 obtain ⟨E,hE⟩:=aLt f.err;rw[←hE];have HE:=aLa hE;obtain ⟨nm,fW,fH,reach,dark,AL,ac,la,FL,fc,lf,RL,rc,lr⟩:=f;let w1:=(w).alloc (.cells #[nm,fW,fH,reach,dark,.slice AL la.length ac,.slice FL lf.length fc,.slice RL lr.length rc] 26);obtain ⟨w1b,w11⟩:=aLh (x:=w1) w _ _ rfl;obtain ⟨HF,HN,HC,HS⟩:=aLc (hF.bl w1b) (hN.bl w1b) (hC.bl w1b) hS;have hla:=hF.an.2;have hlf:=hF.fn.2;have hlr:=hF.rn.2;have hnm:=fun wx=>qJ ⟨nm.toArray⟩ wx (by rw[Lib.size_mk];exact hF.nm);have HNm:=aLa hnm;have k1:=w11.all8;have hmm:=@run_makeMap Tryz.prog;have dV:=aLa w1b;unfold Frm.val;clear hF hN hC hE hnm w1b hS
 go_in
 go_wp2_with fail;refine (HNm.out _).mono ?_;rintro e w2 ⟨rfl,hb2⟩;have Hb2:=aLa hb2;have k1:=(w11.bl hb2).all8;clear hb2;cases hN:dA nm
 case false=>have HX:=aLa (show E=5 by rw[HE.out];unfold Frm.err oD jZ;simp only[hN];rfl);clear hN;go_wp2_with fail;go_ret;exact ⟨by rw[HX.out];rfl,dV.out.trans Hb2.out⟩
 have HNb:=aLa hN;clear hN;by_cases hz:aE fW fH=0;case neg=>
  have HX:=aLa (show E=aE fW fH by
   rw[HE.out];unfold Frm.err oD jZ;simp only[HNb.out,Bool.not_true,eN];rw[eG,bK hz,bK hz])
  have hq:(aE fW fH != 0)=true:=(by simp[hz]);clear hz;go_wp2_with (go_at_call 102;refine (d9 _ _ _).mono ?_;rintro e w' ⟨rfl,rfl⟩);go_ret;exact ⟨by rw[HX.out];rfl,dV.out.trans Hb2.out⟩
 have hsz:=aL hz;obtain ⟨W,rfl⟩:=Int.eq_ofNat_of_zero_le (show 0≤fW by omega);obtain ⟨H,rfl⟩:=Int.eq_ofNat_of_zero_le (show 0≤fH by omega);have hW:1≤W∧W≤4000:=(by omega);have hH:1≤H∧H≤4000:=(by omega);have hhd:∀E1,jZ true W H reach dark la.length=E1→E1≠0→E=E1:=fun E1 h1 h2=>by
  rw[HE.out];unfold Frm.err oD;simp only[HNb.out];rw[h1,bK h2]
 have aIA:jZ true W H reach dark la.length=aG [aF (!inB reach 0 40||!inB dark 1 1000) 3,aF (decide (10<la.length)) 4]:=by
  unfold jZ;rw[hz];simp only[Bool.not_true,eN];rw[eG,eG]
 obtain ⟨Hhd,aHg,HW,HH⟩:=aLc hhd aIA hW hH;have q0:(aE W H != 0)=false:=(by simp[hz]);clear hsz hhd aIA hz;go_upto_region 6 with (go_at_call 102;refine (d9 _ _ _).mono ?_;rintro e w' ⟨rfl,rfl⟩);go_cut [29] from 30 to 48 (fun s29 wc=>s29=.bool (!inB reach 0 40||!inB dark 1 1000)∧w2=wc);case first=>
  rcases (show reach<0∨(¬reach<0∧40<reach)∨(¬reach<0∧¬40<reach∧dark<1)∨(¬reach<0∧¬40<reach∧¬dark<1∧1000<dark)∨(¬reach<0∧¬40<reach∧¬dark<1∧¬1000<dark) by omega) with c1|⟨c1,c2⟩|⟨c1,c2,c3⟩|⟨c1,c2,c3,c4⟩|⟨c1,c2,c3,c4⟩
  all_goals
   go_wp2_with fail;go_meet;case rel=>exact ⟨congrArg Value.bool (by unfold inB;simp;try omega),rfl⟩
 case rest=>
 rename World=>wd;obtain ⟨rfl,rfl⟩:=hcut;obtain ⟨rg,hrg⟩:=aLt ((!inB reach 0 40||!inB dark 1 1000));rw[←hrg];have HRg:=aLa hrg;clear hrg;cases rg with
 |true=>have HX:=aLa (Hhd.out 3 (by rw[aHg.out,←HRg.out];rfl) (by decide));go_wp2_with fail;go_ret;exact ⟨by rw[HX.out];rfl,dV.out.trans Hb2.out⟩
 |false=>
 by_cases h10:10<la.length
 ·have aKa:10<(la.length:Int):=(by omega);have HX:=aLa (Hhd.out 4 (by rw[aHg.out,←HRg.out,aLX h10];rfl) (by decide));go_wp2_with fail;go_ret;exact ⟨by rw[HX.out];rfl,dV.out.trans Hb2.out⟩
 have aKa:¬10<(la.length:Int):=(by omega);have HE1:=aLa (show E=aG [iF W H la,aF (decide (lf.length=0)) 9,aF (decide (50<lf.length)) 4,fN W H [] lf,aF (pQ [] (oS la lf)) 11,aF (decide (50<lr.length)) 4,iG lf lr] by
  rw[HE.out];unfold Frm.err oD;simp only[HNb.out];rw[aHg.out,←HRg.out,aLW h10];exact eG)
 have aKb:=aLa h10;have HFA:=aLa (HF.out.ancs.bl Hb2.out);have hca:=fun (a:Anc) wx (hA:Reads wx 1 a.A a.m (a.bs.map .bool))=>yY ⟨nm,W,H,reach,dark,AL,ac,la,FL,fc,lf,RL,rc,lr⟩ a W H wx rfl rfl HW.out HH.out hA;have hbx:=fun (a:Anc) wx=>oE a wx;unfold Frm.val Anc.val at hca;unfold Anc.val Anc.box Bx.val at hbx;obtain ⟨Hca,Hbx,W12⟩:=aLb hca hbx (w11.bl Hb2.out);have hw2:=(w11.bl Hb2.out).lt;clear hca hbx h10 w11;go_wp2_with fail;go_loopw [4,56] (fun b u wr=>∃i:Nat,i≤la.length∧u=.int .i64 i∧Bl w2 wr∧wr.ownsRow w2.heap.size 58 4 b i (iE ((la.take i).map Anc.box))∧iF W H (la.drop i)=iF W H la) (fun _ u _=>la.length-(RowKit.intOf u).toNat);case atStart=>exact ⟨0,Nat.zero_le _,rfl,Bl.refl _,World.ownsRow_nil _ _ _ _,rfl⟩
 case round=>
  obtain ⟨i,hi,rfl,hbr,cA,hes⟩:=hrel;by_cases hlt:i<la.length
  ·have hg:la[i]? = some la[i]:=aLv hlt;obtain ⟨a,ha⟩:=aLt (la[i]);rw[←ha] at hg;obtain ⟨ad,e1,j1,j2,j3,j4,j5⟩:=(HFA.out.bl hbr).at_ hg;obtain ⟨HAr,HG,HOw,HEs,Hbr⟩:=aLd (HFA.out.2 a (List.mem_of_getElem? hg)) hg cA hes hbr;have k1:=(W12.out.bl hbr).all8;have aIB:=hbr.le;clear hg ha cA hes;rw[e1] at k1 ⊢;go_upto_region 14 with fail;obtain ⟨w5,hw5⟩:=aLt (wr.alloc (.cells #[a.W,a.H,.slice a.A a.m a.c,a.X,a.Y] 85));have b5:=aLo hw5;have hb5:=aLn hw5;rw[←hw5];have B5:=aLa b5;have Hb5:=aLa hb5;have k1:=(W12.out.bl (hbr.trans hb5)).all8;rw[e1] at k1;have k2:=b5.all5;clear hw5 b5 hb5 j1 j2 j3 j4 j5;go_wp2_with fail;rw[←e1];refine (Hca.out a _ (HAr.out.bl (Hbr.out.trans Hb5.out))).mono ?_;rintro e w6 ⟨rfl,hb6⟩;have aCu:=aLa (Hbr.out.trans (Hb5.out.trans hb6));have aHh:=aLa (Hb5.out.trans hb6);have k1:=(W12.out.bl aCu.out).all8;have k2:=(B5.out.bl hb6).all5;clear hb6;by_cases hz:iM W H a=0
   ·have hq:(iM W H a != 0)=false:=(by simp[hz]);have HY:=aLa (show iF W H (la.drop (i+1))=iF W H la by rw[←HEs.out,wD HG.out,if_pos hz]);clear hz;go_wp2_with fail;refine (Hbx.out a _).mono ?_;rintro e w7 ⟨rfl,hb7⟩;have aKc:=aLa (aCu.out.trans hb7);have aHi:=(aCu.out.trans hb7).le;have HO7:=aLa (fX HOw.out (aHh.out.trans hb7));clear hb7;go_wp2_with (at_builtin;refine aQ (w1:=w2) rfl (.tmp 66) (.tmp 69) 59 rfl 58 (.agg #[.int .i64 0,.int .i64 0,.int .i64 0,.int .i64 0]) 4 32 Tryz.underlying59 FY rfl (by omega) w2.heap.size _ i (iE ((la.take i).map Anc.box)) rfl (aKc.out.alloc _) (Nat.le_refl _) (by simp;omega) (HO7.out.alloc _) (some ⟨w7.heap.size,0,none⟩) 1 1 [.int .i64 a.X,.int .i64 a.Y,.int .i64 a.W,.int .i64 a.H] rfl ((Blk.new w7 _ _).reads 1 4 rfl) (by simp[Value.oneCell']) (by unfold maxLen;omega) (by omega) ?_;intro v' w8 cF hb8 hg8;have UH:=aLa cF;have Hb8:=aLa hb8;clear cF hb8 hg8);exact ⟨⟨i+1,hlt,by go_num,Hb8.out,by rw[eI HG.out,aLS,mT];exact UH.out,HY.out⟩,by simp[RowKit.intOf];omega⟩
   ·have hq:(iM W H a != 0)=true:=(by simp[hz]);have HX:=aLa (show E=iM W H a by
     have h1:iF W H la=iM W H a:=(by rw[←HEs.out,wD HG.out,if_neg hz]);rw[HE1.out,h1,bK hz])
    clear hz;go_wp2_with fail;go_ret;exact ⟨by rw[HX.out];rfl,dV.out.trans (Hb2.out.trans aCu.out)⟩
  ·obtain rfl:i=la.length:=(by omega);have Z0:=aLa (show iF W H la=0 by rw[←hes,List.drop_length];rfl);rw[aLC] at cA;have HOw:=aLa cA;have Hbr:=aLa hbr;have k1:=(W12.out.bl hbr).all8;have aIB:=hbr.le;clear hes cA;by_cases l0:lf.length=0
   ·have q0:((lf.length:Int)==0)=true:=(by rw[aCQ];exact aLX l0);have HX:=aLa (show E=9 by rw[HE1.out,Z0.out,eG,aLX l0];rfl);clear l0;go_wp2_with fail;go_ret;exact ⟨by rw[HX.out];rfl,dV.out.trans (Hb2.out.trans Hbr.out)⟩
   have q1:((lf.length:Int)==0)=false:=(by rw[aCQ];exact aLW l0);by_cases l50:50<lf.length
   ·have l50i:50<(lf.length:Int):=(by omega);have HX:=aLa (show E=4 by rw[HE1.out,Z0.out,eG,aLW l0,aLX l50];rfl);clear l0;go_wp2_with fail;go_ret;exact ⟨by rw[HX.out];rfl,dV.out.trans (Hb2.out.trans Hbr.out)⟩
   have l50i:¬50<(lf.length:Int):=(by omega);have HE2:=aLa (show E=aG [fN W H [] lf,aF (pQ [] (oS la lf)) 11,aF (decide (50<lr.length)) 4,iG lf lr] by
    rw[HE1.out,Z0.out,aLW l0,aLW l50,eG,eN,eN,eG,eG])
   have hM0:=MapAt.new wr;obtain ⟨Hb3,Hgm,aGd,HM0⟩:=aLc (hbr.alloc (.map #[] 0)) hbr.le (fX HOw.out ((Bl.refl wr).alloc (.map #[] 0))) hM0;have k1:=(W12.out.bl Hb3.out).all8;have hlp:0<lf.length:=(by omega);clear l0 hM0 hbr HOw;go_upto_region 24 with fail;obtain ⟨wm,hwm⟩:=aLt (wr.alloc (.map #[] 0));rw[←hwm] at HM0 aGd Hb3 k1 ⊢;obtain ⟨gm,hgm⟩:=aLt wr.heap.size;rw[←hgm] at HM0 Hgm ⊢;obtain ⟨adF,hFL,-⟩:=HF.out.flds.1.2 hlp;simp only at hFL;subst hFL;have hcf:=fun (x:Fld) (tw:Bool) wx (hM:BxsAt wx x.M x.marks) (h1:x.name.length≤9223372036854775807) (h2:x.marks.length≤9223372036854775807)=>BG ⟨nm,W,H,reach,dark,AL,ac,la,some adF,fc,lf,RL,rc,lr⟩ x tw W H wx rfl rfl HW.out HH.out hM h1 h2;unfold Frm.val Fld.val at hcf;have Hcf:=aLa hcf;have HFF:=aLa (FldsAt.bl HF.out.flds Hb2.out);have aHj:fV la lf 0=la.map Anc.box:=(by simp[fV,oS]);have hl0:(fV la lf 0).length=la.length:=(by rw[aHj,aLz]);rw[←aHj,←hl0] at aGd;have aIC:(fV la lf 0).length≤10:=(by rw[hl0];have:=aKb.out;omega);have aID:=aLa aIC;clear hcf hwm hgm aHj hl0 hi aIB hlt Hbr aIC hlp Hca Hbx HFA;go_wp2_with fail;go_loopw [4,86] (fun b u wq=>∃i:Nat,i≤lf.length∧u=.int .i64 i∧Bl w2 wq∧MapAt wq gm ((lf.take i).map Fld.name)∧wq.ownsRow w2.heap.size 58 4 b (fV la lf i).length (iE (fV la lf i))∧fN W H ((lf.take i).map Fld.name) (lf.drop i)=fN W H [] lf∧(fV la lf i).length≤10+21*i) (fun _ u _=>lf.length-(RowKit.intOf u).toNat);case atStart=>exact ⟨0,Nat.zero_le _,rfl,Hb3.out,HM0.out,aGd.out,rfl,aID.out⟩
   case round=>
    clear HM0 aGd Hb3 aID k1;obtain ⟨i,hi,rfl,hbr,hMr,cA,hes,hbl⟩:=hrel;by_cases hlt:i<lf.length
    ·have hg:lf[i]? = some lf[i]:=aLv hlt;obtain ⟨x,hx⟩:=aLt (lf[i]);rw[←hx] at hg;obtain ⟨ad',e1,j1,j2,j3,j4,j5,j6,j7,j8,j9⟩:=(HFF.out.bl hbr).at_ hg;obtain rfl:=aLZ e1;obtain ⟨hM,hmc,hml,hnl⟩:=HFF.out.2 x (List.mem_of_getElem? hg);obtain ⟨HG,HOw,HEs,Hbr,HM,HMr⟩:=aLe hg cA hes hbr hM hMr;have k1:=(W12.out.bl hbr).all8;clear hg hx cA hes hM e1 hMr;go_upto_region 27 with fail;obtain ⟨w5,hw5⟩:=aLt (wr.alloc (.cells #[.string ⟨x.name.toArray⟩,.int .i64 x.kind,.int .i64 x.box.X,.int .i64 x.box.Y,.int .i64 x.box.W,.int .i64 x.box.H,.slice x.M x.marks.length x.mc,.int .i64 x.most,.bool x.needed] 61));have b5:=aLo hw5;have hb5:=aLn hw5;rw[←hw5];have B5:=aLa b5;have Hb5:=aLa hb5;have k1:=(W12.out.bl (hbr.trans hb5)).all8;have k2:=b5.all9;have hM5:=HMr.out.bl hb5;have hlk:=hM5.lookup x.name;have hgq:gm<wr.heap.size:=(by obtain ⟨es,c,h1,-,-⟩:=HMr.out;exact (aL1.1 h1).1);obtain ⟨tw,htw⟩:=aLt (decide (x.name∈(lf.take i).map Fld.name));rw[←htw] at hlk;have Htw:=aLa htw;have HM5:=aLa hM5;clear hw5 b5 hb5 j1 j2 j3 j4 j5 j6 j7 j8 j9 htw hM5 hbr;go_wp2_with fail;refine (Hcf.out x tw _ (HM.out.bl (Hbr.out.trans Hb5.out)) hnl hml).mono ?_;rintro e w6 ⟨rfl,hb6⟩;obtain ⟨aCu,aHh,HM6⟩:=aLb (Hbr.out.trans (Hb5.out.trans hb6)) (Hb5.out.trans hb6) (HM5.out.bl hb6);have k1:=(W12.out.bl aCu.out).all8;have k2:=(B5.out.bl hb6).all9;have hfe:oR W H ((lf.take i).map Fld.name) x=qP W H tw x:=(by rw[Htw.out];rfl);have Hfe:=aLa hfe;by_cases hz:qP W H tw x=0
     ·have hq:(qP W H tw x != 0)=false:=(by simp[hz]);have HY:=aLa (show fN W H ((lf.take (i+1)).map Fld.name) (lf.drop (i+1))=fN W H [] lf by rw[←HEs.out,wF HG.out,Hfe.out,if_pos hz]);have aDP:=(FI hz).2.2.2.2.1;obtain ⟨w7,hup,hM7,hB7,hK7⟩:=HM6.out.update2 x.name;have hO6:=fX HOw.out aHh.out;have hO7:=W0 hO6 hK7 (tO HM6.out hO6);have aHk:Blk w7 wr.heap.size 61 #[.string ⟨x.name.toArray⟩,.int .i64 x.kind,.int .i64 x.box.X,.int .i64 x.box.Y,.int .i64 x.box.W,.int .i64 x.box.H,.slice x.M x.marks.length x.mc,.int .i64 x.most,.bool x.needed]:=(hK7 _ (by omega)).trans (B5.out.bl hb6);have aKd:w2.heap.size≤gm:=Hgm.out;have hb7:Bl w2 w7:=hB7 w2 aCu.out aKd;have aHi:=hb7.le;have k3:=aHk.all9;have aIE:MapAt w7 gm ((lf.take (i+1)).map Fld.name):=(by rw[eI HG.out,aLS];exact hM7);obtain ⟨HM7,HO7,Hb7,HX7,HB7⟩:=aLd aIE hO7 hb7 (HM.out.bl hb7) aHk;obtain ⟨n,hn⟩:=aLt ((fV la lf i).length);have Hn:=aLa hn;have hbi:n≤10+21*i:=(by rw[hn];exact hbl);have Hbs:=aLa (I0 (la:=la) HG.out);rw[←hn] at HO7;clear hz hfe hM7 hB7 hK7 hO6 hO7 aHk aIE hb7 hb6 hn hlk hbl;go_wp2_with fail;refine (mF _ _).mono ?_;rintro e w' ⟨rfl,rfl⟩;cases hmk:bL x.kind with
      |true=>have HFB:=aLa (show cG x=x.marks by unfold cG;rw[hmk];rfl);go_wp2_with (at_builtin;refine aQ (w1:=w2) rfl (.tmp 112) (.tmp 114) 59 rfl 58 (.agg #[.int .i64 0,.int .i64 0,.int .i64 0,.int .i64 0]) 4 32 Tryz.underlying59 FY rfl (by omega) w2.heap.size _ n (iE (fV la lf i)) rfl Hb7.out (Nat.le_refl _) aHi HO7.out x.M x.marks.length x.mc (iE x.marks) rfl HX7.out (aCc x.marks) (by unfold maxLen;omega) (by omega) ?_;intro v9 w9 K5 hb9 hg9);obtain ⟨HM9,HO9,Hb9⟩:=aLb (HM7.out.grown hg9 (tO HM7.out HO7.out)) K5 hb9;clear K5 hb9 hg9;go_wp2_with fail;have cL:(fV la lf (i+1)).length=n+x.marks.length:=(by rw[Hbs.out,aLy,←Hn.out,HFB.out]);exact ⟨⟨i+1,hlt,by go_num,Hb9.out,HM9.out,by rw[cL,Hbs.out,mT,HFB.out];exact HO9.out,HY.out,by rw[cL];omega⟩,by simp[RowKit.intOf];omega⟩
      |false=>have HFB:=aLa (show cG x=x.box :: x.marks by unfold cG;rw[hmk];rfl);go_upto_region 33 with (at_builtin;refine aQ (w1:=w2) rfl (.tmp 107) (.tmp 110) 59 rfl 58 (.agg #[.int .i64 0,.int .i64 0,.int .i64 0,.int .i64 0]) 4 32 Tryz.underlying59 FY rfl (by omega) w2.heap.size _ n (iE (fV la lf i)) rfl (Hb7.out.alloc _) (Nat.le_refl _) (by simp;omega) (HO7.out.alloc _) (some ⟨w7.heap.size,0,none⟩) 1 1 [.int .i64 x.box.X,.int .i64 x.box.Y,.int .i64 x.box.W,.int .i64 x.box.H] rfl ((Blk.new w7 _ _).reads 1 4 rfl) (by simp[Value.oneCell']) (by unfold maxLen;omega) (by omega) ?_;intro v8 w8 cF hb8 hg8);have aGe:=hb8.le;have hMl:MapAt (w7.alloc (.cells #[.int .i64 x.box.X,.int .i64 x.box.Y,.int .i64 x.box.W,.int .i64 x.box.H] 58)) gm ((lf.take (i+1)).map Fld.name):=HM7.out.bl ((Bl.refl _).alloc _);obtain ⟨HM8,HO8,Hb8,HX8⟩:=aLc (hMl.grown hg8 (tO HM7.out HO7.out)) cF hb8 (HM.out.bl hb8);have k4:=((HB7.out.alloc _).grown hg8 (fun e=>Nat.ne_of_lt (HOw.out.lt _ e.symm).2 rfl)).all9;clear hMl cF hb8 hg8 k3 k2;go_wp2_with (at_builtin;refine aQ (w1:=w2) rfl (.tmp 112) (.tmp 114) 59 rfl 58 (.agg #[.int .i64 0,.int .i64 0,.int .i64 0,.int .i64 0]) 4 32 Tryz.underlying59 FY rfl (by omega) w2.heap.size v8 (n+1) (iE (fV la lf i)++[.int .i64 x.box.X,.int .i64 x.box.Y,.int .i64 x.box.W,.int .i64 x.box.H]) rfl Hb8.out (Nat.le_refl _) aGe HO8.out x.M x.marks.length x.mc (iE x.marks) rfl HX8.out (aCc x.marks) (by unfold maxLen;omega) (by omega) ?_;intro v9 w9 K5 hb9 hg9);obtain ⟨HM9,HO9,Hb9⟩:=aLb (HM8.out.grown hg9 (tO HM8.out HO8.out)) K5 hb9;clear K5 hb9 hg9;have cL:(fV la lf (i+1)).length=n+1+x.marks.length:=(by rw[Hbs.out,aLy,←Hn.out,HFB.out,aLB];omega);exact ⟨⟨i+1,hlt,by go_num,Hb9.out,HM9.out,by rw[cL,Hbs.out,mT,HFB.out,show iE (x.box :: x.marks)=[.int .i64 x.box.X,.int .i64 x.box.Y,.int .i64 x.box.W,.int .i64 x.box.H]++iE x.marks from rfl,←aLL];exact HO9.out,HY.out,by rw[cL];omega⟩,by simp[RowKit.intOf];omega⟩
     ·have hq:(qP W H tw x != 0)=true:=(by simp[hz]);have HX:=aLa (show E=qP W H tw x by
       have h1:fN W H [] lf=qP W H tw x:=(by rw[←HEs.out,wF HG.out,Hfe.out,if_neg hz]);rw[HE2.out,h1,bK hz])
      clear hz;go_wp2_with fail;go_ret;exact ⟨by rw[HX.out];rfl,dV.out.trans (Hb2.out.trans aCu.out)⟩
    ·obtain rfl:i=lf.length:=(by omega);have aHl:=aLa (show fN W H [] lf=0 by rw[←hes,List.drop_length];rfl);have hbe:fV la lf lf.length=oS la lf:=(by unfold fV;rw[aLC]);rw[hbe] at cA hbl;obtain ⟨bl,aGf⟩:=aLt (oS la lf);rw[←aGf] at cA hbl;have hok:∀b∈bl,b.Ok:=fun b hb=>Bx.ok (W:=W) (H:=H) (by have:=HW.out;omega) (by have:=HH.out;omega) (aAM Z0.out aHl.out b (by rw[←aGf];exact hb));have HE3:=aLa (show E=aG [aF (pQ [] bl) 11,aF (decide (50<lr.length)) 4,iG lf lr] by rw[HE2.out,aHl.out,eG,aGf]);obtain ⟨A,c,rfl,hr,-⟩:=uE cA;have hnc:0<bl.length→bl.length≤c:=fun hp=>by
      obtain ⟨g,cap,e,-,hle⟩:=lX cA hp;injection e with _ _ e3;omega
     obtain ⟨HR,Hok,Hbr⟩:=aLb (show BxsAt wr A bl from hr) hok hbr;have k1:=(W12.out.bl hbr).all8;clear hes hMr cA hbe aGf hok hr hbr;have hcr:=fun (r:Rul) wx (hF:FrmAt wx ⟨nm,W,H,reach,dark,AL,ac,la,some adF,fc,lf,RL,rc,lr⟩) h3 hN hC=>FX _ r wx hF h3 hN hC;unfold Frm.val Rul.val at hcr;have Hcr:=aLa hcr;have hblm:bl.length≤9223372036854775807:=(by omega);have aGg:=aLa (dV.out.trans Hb2.out);clear Hcf HFF hcr Z0 aHl hi hlt hmm;go_wp2_with fail;go_loopw [119] (fun u wy=>∃i:Nat,i≤bl.length∧u=.int .i64 i∧Bl wr wy∧pQ (bl.take i) (bl.drop i)=pQ [] bl) (fun u _=>bl.length-(RowKit.intOf u).toNat);case atStart=>exact ⟨0,Nat.zero_le _,rfl,Bl.refl _,rfl⟩
     case round=>
      rename World=>wb;obtain ⟨i,hi,rfl,hbr,hov⟩:=hrel;have HOv:=aLa hov;have Hwb:=aLa hbr;clear hov k1;by_cases hlt:i<bl.length
      ·have hg:bl[i]? = some bl[i]:=aLv hlt;obtain ⟨b,hb⟩:=aLt (bl[i]);rw[←hb] at hg;obtain ⟨ad,e1,j1,j2,j3,j4⟩:=BxsAt.at_ (BxsAt.bl HR.out hbr) hg;subst e1;have hic:(i:Int)≤(c:Int):=(by have:=hnc (by omega);omega);have HG:=aLa hg;clear hg hb hbr;go_upto_region 38 with fail;obtain ⟨w5,hw5⟩:=aLt (wb.alloc (.cells #[.int .i64 b.X,.int .i64 b.Y,.int .i64 b.W,.int .i64 b.H] 58));have b5:=aLo hw5;have hb5:=aLn hw5;rw[←hw5];have hlb:(bl.take i).length=i:=(by rw[aLA];omega);have hcn:=BE (some ad) c (bl.take i) 110 #[.pointer (some ⟨wb.heap.size,0,none⟩)] b.over w5 ((BxsAt.bl HR.out (Hwb.out.trans hb5)).take i hi) (I5 _ b (bl.take i) w5 b5 (Hok.out b (List.mem_of_getElem? HG.out)) (fun y hy=>Hok.out y (List.mem_of_mem_take hy))) (by omega);rw[hlb,aA4] at hcn;obtain ⟨ov,hov⟩:=aLt (((bl.take i).any fun p=>b.over p));rw[←hov] at hcn;obtain ⟨Hcn,Hov,Hb5⟩:=aLb hcn hov (Hwb.out.trans hb5);clear hw5 b5 hb5 j1 j2 j3 j4 hlb hcn hov;go_wp2_with fail;refine Hcn.out.mono ?_;rintro e w6 ⟨rfl,hb6⟩;have Hb6:=aLa (Hb5.out.trans hb6);clear hb6;cases ov with
       |true=>
        have HX:=aLa (show E=11 by
         have h1:pQ [] bl=true:=(by rw[←HOv.out,CZ HG.out,←Hov.out];rfl);rw[HE3.out,h1];rfl)
        go_wp2_with fail;go_ret;exact ⟨by rw[HX.out];rfl,aGg.out.trans (Hbr.out.trans Hb6.out)⟩
       |false=>have HX:=aLa (show pQ (bl.take (i+1)) (bl.drop (i+1))=pQ [] bl by rw[←HOv.out,CZ HG.out,←Hov.out];rfl);go_wp2_with fail;exact ⟨⟨i+1,hlt,by go_num,Hb6.out,HX.out⟩,by simp[RowKit.intOf];omega⟩
      ·obtain rfl:i=bl.length:=(by omega);have Hno:=aLa (show pQ [] bl=false by rw[←HOv.out];exact V7);have Hb3:=aLa (Hbr.out.trans hbr);have k1:=(W12.out.bl Hb3.out).all8;clear hbr;by_cases l50r:50<lr.length
       ·have l50ri:50<(lr.length:Int):=(by omega);have HX:=aLa (show E=4 by rw[HE3.out,Hno.out,aLX l50r];rfl);go_wp2_with fail;go_ret;exact ⟨by rw[HX.out];rfl,aGg.out.trans Hb3.out⟩
       have l50ri:¬50<(lr.length:Int):=(by omega);have HE4:=aLa (show E=iG lf lr by rw[HE3.out,Hno.out,aLW l50r,eN,eN,eG,eG];unfold aG;split<;>simp_all[aG]);have HFR:=aLa (RulsAt.bl HF.out.ruls Hb2.out);clear HOv Hwb hi hlt;go_wp2_with fail;go_loopw [137] (fun u wy=>∃i:Nat,i≤lr.length∧u=.int .i64 i∧Bl w2 wy∧iG lf (lr.drop i)=iG lf lr) (fun u _=>lr.length-(RowKit.intOf u).toNat);case atStart=>exact ⟨0,Nat.zero_le _,rfl,Hb3.out,rfl⟩
       case round=>
        clear k1;rename World=>wq;obtain ⟨i,hi,rfl,hbq,hes⟩:=hrel;by_cases hlt:i<lr.length
        ·have hg:lr[i]? = some lr[i]:=aLv hlt;obtain ⟨r,hr⟩:=aLt (lr[i]);rw[←hr] at hg;obtain ⟨ad2,e2,j1,j2,j3,j4⟩:=(HFR.out.bl hbq).at_ hg;subst e2;obtain ⟨HG,HEs,Hbq⟩:=aLb hg hes hbq;have k1:=(W12.out.bl hbq).all8;clear hg hr hes;go_upto_region 46 with fail;obtain ⟨w5,hw5⟩:=aLt (wq.alloc (.cells #[r.kind,r.field,r.other,r.text] 104));have b5:=aLo hw5;have hb5:=aLn hw5;rw[←hw5];have k1:=(W12.out.bl (hbq.trans hb5)).all8;have k2:=b5.all4;have Hb5:=aLa (hbq.trans hb5);clear hw5 b5 hb5 j1 j2 j3 j4 hbq;go_wp2_with fail;refine (Hcr.out r _ (HF.out.bl (Hb2.out.trans Hb5.out)) (HS.out r (List.mem_of_getElem? HG.out)) (HN.out.bl (Hb2.out.trans Hb5.out)) (HC.out.bl (Hb2.out.trans Hb5.out))).mono ?_;rintro e w6 ⟨rfl,hb6⟩;have Hb6:=aLa (Hb5.out.trans hb6);clear hb6 k1 k2;by_cases hz:gW lf r=0
         ·have hq:(gW lf r != 0)=false:=(by simp[hz]);have HX:=aLa (show iG lf (lr.drop (i+1))=iG lf lr by rw[←HEs.out,wE HG.out,if_pos hz]);clear hz;go_wp2_with fail;exact ⟨⟨i+1,hlt,by go_num,Hb6.out,HX.out⟩,by simp[RowKit.intOf];omega⟩
         ·have hq:(gW lf r != 0)=true:=(by simp[hz]);have HX:=aLa (show E=gW lf r by rw[HE4.out,←HEs.out,wE HG.out,if_neg hz]);clear hz;go_wp2_with fail;go_ret;exact ⟨by rw[HX.out];rfl,aGg.out.trans Hb6.out⟩
        ·obtain rfl:i=lr.length:=(by omega);have HX:=aLa (show E=0 by rw[HE4.out,←hes,List.drop_length];rfl);go_wp2_with fail;go_ret;exact ⟨by rw[HX.out];rfl,aGg.out.trans hbq⟩
theorem S1:(Tryz.prog.info? 87).map (fun i=>(i.zero,i.size,i.bytes))=some (some (.agg #[.int .i64 0,.int .i64 0,.int .i64 0]),3,24):=by kernel_rfl
def jF (f:Frm) (cs:List Bool) (a:Anc):List Value:=[.int .i64 (dM f cs a).1,.int .i64 (dM f cs a).2.1,.int .i64 (dM f cs a).2.2]
theorem W3 {f:Frm} (h:f.err=0):∃W H r,Fits f W H r:=by
 unfold Frm.err oD at h;have hz:=bA h;have hh:=hz (jZ (dA f.name) f.W f.H f.reach f.dark f.la.length) (by simp);have ha:=hz (iF f.W f.H f.la) (by simp);unfold jZ at hh;have hy:=bA hh;have hs:=aL (hy (aE f.W f.H) (by simp));have hr:=hy (aF (!inB f.reach 0 40||!inB f.dark 1 1000) 3) (by simp);have hl:=hy (aF (decide (10<f.la.length)) 4) (by simp);obtain ⟨W,hW⟩:=Int.eq_ofNat_of_zero_le (show 0≤f.W by omega);obtain ⟨H,hH⟩:=Int.eq_ofNat_of_zero_le (show 0≤f.H by omega);have hi:inB f.reach 0 40=true:=by
  cases hc:inB f.reach 0 40 with
  |true=>rfl
  |false=>rw[hc] at hr;exact absurd hr (by simp[aF])
 have hi2:=aR.1 hi;obtain ⟨r,hr2⟩:=Int.eq_ofNat_of_zero_le hi2.1;have e:=aL9 W H;rw[hW,hH] at hs ha;exact ⟨W,H,r,hW,hH,hr2,by omega,by omega,by omega,by omega,by
  apply Classical.byContradiction;intro hn;rw[aLX (show 10<f.la.length by omega)] at hl;exact absurd hl (by decide),fun a ha2=>C0 ha a ha2⟩
theorem zM (f:Frm) (C:Option Addr) (cc:Nat) (cs:List Bool) (W H r:Nat) (w:World) (cM:Fits f W H r) (hF:FrmAt w f) (hC:Reads w 1 C (W*H) (cs.map .bool)) :
 Calls Tryz.prog 105 #[f.val,.agg #[W,H,.slice C (W*H) cc]] w fun e w'=>∃A c,e=.returned (.slice A f.la.length c)∧Reads w' 3 A f.la.length (f.la.flatMap (jF f cs))∧Bl w w':=by
 have hfo:=fun (a:Anc) (BW BH:Nat) wx (q1:a.W=(BW:Int)) (q2:a.H=(BH:Int)) (q3:a.m=BW*BH) (q4:a.box.inP f.W f.H=true) hA hC=>aAO f a C cc cs W H BW BH r wx cM.fW cM.fH cM.fr q1 q2 q3 cM.hr cM.hW cM.hH cM.hWH q4 hA hC;have hat:=fun (a:Anc) (ha:a∈f.la)=>cM.at_ ha;obtain ⟨FC,hFC⟩:=aLt (jF f cs);have aIF:∀a,FC a=[.int .i64 (dM f cs a).1,.int .i64 (dM f cs a).2.1,.int .i64 (dM f cs a).2.2]:=fun a=>(by rw[hFC];rfl);rw[←hFC];have aFc:f.la.length≤10:=cM.hla;obtain ⟨nm,fW,fH,reach,dark,AL,ac,la,FL,fc,lf,RL,rc,lr⟩:=f;have e1:=cM.fW;have e2:=cM.fH;have e3:=cM.fr;simp only at e1 e2 e3 aFc;subst e1 e2 e3;obtain ⟨HFA,HC,HFC,Hat⟩:=aLc (AncsAt.bl hF.ancs (Bl.refl w)) hC aIF hat;let w1:=((w).alloc (.cells #[nm,W,H,r,dark,.slice AL la.length ac,.slice FL lf.length fc,.slice RL lr.length rc] 26)).alloc (.cells #[W,H,.slice C (W*H) cc] 43);obtain ⟨w1b,w11,w12⟩:=aLi (x:=w1) w _ _ _ _ rfl;unfold Frm.val Anc.val at hfo;have Hfo:=aLa hfo;have k1:=w11.all8;have k2:=w12.all3;have dV:=aLa w1b;unfold Frm.val;clear hF hC cM hfo hat hFC aIF w1b;show Calls _ _ _ w fun e w'=>∃A c,e=.returned (.slice A la.length c)∧Reads w' 3 A la.length (la.flatMap FC)∧Bl w w'
 go_in
 go_upto_region 1 with fail;rw[show (w.alloc (.cells #[nm,W,H,r,dark,.slice AL la.length ac,.slice FL lf.length fc,.slice RL lr.length rc] 26)).alloc (.cells #[W,H,.slice C (W*H) cc] 43)=w1 from rfl];clear_value w1;go_wp2_with fail;go_loopw [5,11] (fun b u wr=>∃i:Nat,i≤la.length∧u=.int .i64 i∧Bl w1 wr∧wr.ownsRow w1.heap.size 87 3 b i ((la.take i).flatMap FC)) (fun _ u _=>la.length-(RowKit.intOf u).toNat);case atStart=>exact ⟨0,Nat.zero_le _,rfl,Bl.refl _,World.ownsRow_nil _ _ _ _⟩
 case round=>
  clear k1 k2;obtain ⟨i,hi,rfl,hbr,cA⟩:=hrel;by_cases hlt:i<la.length
  ·have hg:la[i]? = some la[i]:=aLv hlt;obtain ⟨a,ha2⟩:=aLt (la[i]);rw[←ha2] at hg;obtain ⟨ad,e1,j1,j2,j3,j4,j5⟩:=(HFA.out.bl (dV.out.trans hbr)).at_ hg;subst e1;obtain ⟨BW,BH,q1,q2,q3,q4,q5,q6,q7,q8⟩:=Hat.out a (List.mem_of_getElem? hg);have HAr:=aLa (HFA.out.2 a (List.mem_of_getElem? hg));have aHm:=fun wx hA hC=>Hfo.out a BW BH wx q1 q2 q3 q4 hA hC;obtain ⟨fx,hfx⟩:=aLt ((dM ⟨nm,W,H,r,dark,some ad,ac,la,FL,fc,lf,RL,rc,lr⟩ cs a).1);obtain ⟨fy,hfy⟩:=aLt ((dM ⟨nm,W,H,r,dark,some ad,ac,la,FL,fc,lf,RL,rc,lr⟩ cs a).2.1);obtain ⟨fn,hfn⟩:=aLt ((dM ⟨nm,W,H,r,dark,some ad,ac,la,FL,fc,lf,RL,rc,lr⟩ cs a).2.2);have hfa:=HFC.out a;rw[←hfx,←hfy,←hfn] at aHm hfa;obtain ⟨aKe,HG,HOw,Hbr,Hfa⟩:=aLd aHm hg cA hbr hfa;have k1:=(w11.bl hbr).all8;clear hg ha2 aHm cA hbr q1 q2 q3 q4 hfx hfy hfn hfa;go_upto_region 5 with fail;obtain ⟨w5,hw5⟩:=aLt (wr.alloc (.cells #[.int .i64 a.W,.int .i64 a.H,.slice a.A a.m a.c,.int .i64 a.X,.int .i64 a.Y] 85));have b5:=aLo hw5;have hb5:=aLn hw5;rw[←hw5];obtain ⟨B5,Hb5,aKf⟩:=aLb b5 (Hbr.out.trans hb5) hb5;have k1:=(w11.bl Hb5.out).all8;have k2:=(w12.bl Hb5.out).all3;have k3:=b5.all5;clear hw5 b5 hb5 j1 j2 j3 j4 j5;go_wp2_with fail;refine (aKe.out _ (HAr.out.bl (dV.out.trans Hb5.out)) (HC.out.bl (dV.out.trans Hb5.out))).mono ?_;rintro e w6 ⟨rfl,hb6⟩;have Hb6:=aLa (Hb5.out.trans hb6);have aFP:=(Hb5.out.trans hb6).le;have HO6:=aLa (fX HOw.out (aKf.out.trans hb6));clear k1 k2 k3 hb6;go_wp2_with (at_builtin;refine aQ (w1:=w1) rfl (.tmp 15) (.tmp 20) 81 rfl 87 (.agg #[.int .i64 0,.int .i64 0,.int .i64 0]) 3 24 Tryz.underlying81 S1 rfl (by omega) w1.heap.size u5 i ((la.take i).flatMap FC) rfl (Hb6.out.alloc _) (Nat.le_refl _) (by simp;omega) (HO6.out.alloc _) (some ⟨w6.heap.size,0,none⟩) 1 1 [.int .i64 fx,.int .i64 fy,.int .i64 fn] rfl ((Blk.new w6 _ _).reads 1 3 rfl) (by simp[Value.oneCell']) (by unfold maxLen;omega) (by omega) ?_;intro v' w8 cF hb8 hg8;have UH:=aLa cF;have Hb8:=aLa hb8;clear cF hb8 hg8);exact ⟨⟨i+1,hlt,by go_num,Hb8.out,by rw[eI HG.out,aMh,show [a].flatMap FC=FC a by simp,Hfa.out];exact UH.out⟩,by simp[RowKit.intOf];omega⟩
  ·obtain rfl:i=la.length:=(by omega);rw[aLC] at cA;obtain ⟨A,c,rfl,hr,-⟩:=uE cA;have HR:=aLa hr;clear cA hr;go_wp2_with fail;go_ret;exact ⟨A,c,rfl,HR.out,dV.out.trans hbr⟩
end Go.Proofs.YtllefinciimffaaGreatDoor
