import Derived.Test.YtllefinciimffaaGreatDoorMClaimTopForms35
set_option maxHeartbeats 20000000
set_option maxRecDepth 100000
namespace Go.Proofs.YtllefinciimffaaGreatDoor
open Go.RowKit Go.Shelf
theorem aBx:(Tryz.prog.info? 69).map (fun i=>(i.zero,i.size,i.bytes))=some (some (.agg #[.string ⟨#[]⟩,.string ⟨#[]⟩,.slice none 0 0,.int .i64 0]),4,64):=by kernel_rfl
def aBy (cs:List Bool) (W:Nat) (b:Bx):List Bool:=eS b.W.toNat b.H.toNat (kR cs W b.X.toNat b.Y.toNat)
def Y8 (cs:List Bool) (W ht:Nat) (ls:List Ltr) (gs:Int) (x:Fld):List UInt8 × Int:=JH ht (oY cs W x.box.X.toNat x.box.Y.toNat x.box.W.toNat ht ls x.most gs)
def Y9 (cs:List Bool) (W:Nat) (x:Fld):List UInt8 × Int:=KQ x.box.H (jP (aBy cs W x.box) x.box.W.toNat x.box.H.toNat) (decide (true∈aBy cs W x.box))
theorem aBz {w:World} {base:Nat} {e:TypeId} {size n cap:Nat} {A:Option Addr} {xs:List Value} (h:w.ownsRow base e size (.slice A n cap) n xs):n≤cap:=by
 rcases h.2 with ⟨hv,h0⟩|⟨g,cap',cur,hv,-,-,hc,-⟩
 ·omega
 ·injection hv with _ _ h3;omega
def oZ (cs:List Bool) (W:Nat) (dark:Int) (ht:Nat) (ls:List Ltr) (gs:Int) (x:Fld):VP:=
 if x.kind=1 then (x.name,(Y8 cs W ht ls gs x).1,[],(Y8 cs W ht ls gs x).2)
 else if x.kind=2 then (x.name,(Y9 cs W x).1,[],(Y9 cs W x).2)
 else (x.name,[],eJ cs W dark x.marks x.marks.length,if x.kind=3∧1<(eJ cs W dark x.marks x.marks.length).length then 0 else 1000)
def UP (ht:Int) (lf:List Fld):Bool:=lf.any fun x=>decide (x.kind=1)&&decide (x.box.H<ht)
theorem KZ {ht:Int} {lf:List Fld} {x:Fld} (hx:x∈lf) (h1:x.kind=1) (h2:x.box.H<ht):UP ht lf=true:=aLP.2 ⟨x,hx,by rw[aLX h1,aLX h2];rfl⟩
theorem aDA {ht:Int} {lf:List Fld} (h:∀x∈lf,x.kind=1→ht≤x.box.H):UP ht lf=false:=by
 unfold UP;rw[List.any_eq_false];intro x hx hc;rw[aLV,decide_eq_true_eq,decide_eq_true_eq] at hc;have:=h x hx hc.1;omega
def t6 (fe te pe:Int) (low:Bool):Int:=if fe=0 then (if te=0 then (if pe=0 then aF low 15 else pe) else te) else fe
def FReadRes (E:Int) (ps:List VP) (e:Ending) (w':World):Prop:=∃A m c,e=.returned (.tuple #[.slice A m c,E])∧(E≠0→m=0)∧(E=0→∃l:List Vlu,l.map Vlu.plain=ps∧m=l.length∧m≤c∧VlusAt w' A l)
theorem ZA (f : Frm) (bW bH : Int) (C : Option Addr) (n cc : Nat) (fnm : List UInt8) (ht gap sp : Int) (L : Option Addr) (lc : Nat) (ls : List Ltr) (low : Bool) (ps : List VP) (w : World) (hF : FrmAt w f) (hS : f.small 1048576) (hN : NumOk w) (hC : SplitOk w)
 (hL:LtrsAt w L ls) (hnm:fnm.length≤9223372036854775807) (hn:ls.length≤9223372036854775807) (wW:¬(f.err=0∧bN (dA fnm) ht gap sp ls=0∧rE f.W f.H bW bH n=0)) :
 Calls Tryz.prog 16 #[f.val, .agg #[bW, bH, .slice C n cc], .agg #[fnm, ht, gap, sp, .slice L ls.length lc]] w
  fun e w'=>FReadRes (t6 f.err (bN (dA fnm) ht gap sp ls) (rE f.W f.H bW bH n) low) ps e w'∧Bl w w':=by
 have hck:=fun wx hF hN hC=>nK f wx hF hS hN hC;have hfc:=fun wx hL=>nG fnm ht gap sp L lc ls wx hL hnm hn;have hfi:=fun wx=>F4 f bW bH C n cc wx;obtain ⟨a,ha⟩:=aLt f.err;obtain ⟨b,hb⟩:=aLt (bN (dA fnm) ht gap sp ls);obtain ⟨c,hc⟩:=aLt (rE f.W f.H bW bH n);rw[←ha] at hck wW ⊢;simp only[←hb] at hfc wW ⊢;simp only[←hc] at hfi wW ⊢;obtain ⟨E,hE⟩:=aLt (t6 a b c low);rw[←hE];have lQ:=fun (hz:E≠0) wx=>show FReadRes E ps (.returned (.tuple #[.slice none 0 0,E])) wx from ⟨none,0,0,rfl,fun _=>rfl,fun h=>absurd h hz⟩;obtain ⟨RS,hRS⟩:=aLt (FReadRes E ps);rw[←hRS] at lQ ⊢;obtain ⟨nm',fW,fH,reach,dark,AL,ac,la,FL,fc,lf,RL,rc,lr⟩:=f;let w1:=(((w).alloc (.cells #[nm',fW,fH,reach,dark,.slice AL la.length ac,.slice FL lf.length fc,.slice RL lr.length rc] 26)).alloc (.cells #[bW,bH,.slice C n cc] 43)).alloc (.cells #[fnm,ht,gap,sp,.slice L ls.length lc] 46);obtain ⟨w1b,w11,w12,w13⟩:=aLj (x:=w1) w _ _ _ _ _ _ rfl;unfold Frm.val at hck hfi;have k1:=w11.all8;have k2:=w12.all3;have k3:=w13.all5;obtain ⟨dV,Hck,Hfc,HL,Hfi,QR,HE⟩:=aLf w1b (hck w1 (hF.bl w1b) (hN.bl w1b) (hC.bl w1b)) hfc (hL.bl w1b) hfi lQ hE;unfold Frm.val;clear w1b hE hck hfc hfi lQ hF hN hC hS hL hRS ha hb hc hnm hn
 go_in
 go_upto_region 1 with fail;rw[show ((w.alloc (.cells #[nm',fW,fH,reach,dark,.slice AL la.length ac,.slice FL lf.length fc,.slice RL lr.length rc] 26)).alloc (.cells #[bW,bH,.slice C n cc] 43)).alloc (.cells #[fnm,ht,gap,sp,.slice L ls.length lc] 46)=w1 from rfl];clear_value w1;go_upto_region 2 with (go_at_call 39;refine Hck.out.mono ?_;rintro e w2 ⟨rfl,hb2⟩);have Hb2:=aLa hb2;have k1:=(w11.bl hb2).all8;have k2:=(w12.bl hb2).all3;have k3:=(w13.bl hb2).all5;clear hb2;by_cases ha:a=0;case neg=>
  have q:(a != 0)=true:=(by simp[ha]);have hEa:E=a:=(by rw[HE.out];unfold t6;rw[if_neg ha]);subst hEa;have Hz:=aLa ha;clear ha;go_wp2_with fail
  go_ret2
  exact ⟨QR.out Hz.out _,dV.out.trans Hb2.out⟩
 case pos=>
  subst ha;go_upto_region 5 with (go_at_call 79;refine (Hfc.out _ (HL.out.bl Hb2.out)).mono ?_;rintro e w3 ⟨rfl,hb3⟩);have Hb3:=aLa (Hb2.out.trans hb3);have k1:=(w11.bl Hb3.out).all8;have k2:=(w12.bl Hb3.out).all3;clear hb3 k3;by_cases hb:b=0;case neg=>
   have q:(b != 0)=true:=(by simp[hb]);have hEb:E=b:=(by rw[HE.out];unfold t6;rw[if_pos rfl,if_neg hb]);subst hEb;have Hz:=aLa hb;clear hb;go_wp2_with fail
   go_ret2
   exact ⟨QR.out Hz.out _,dV.out.trans Hb3.out⟩
  case pos=>
   subst hb;have hc:c≠0:=fun h=>wW (by simp[h]);clear wW;go_upto_region 8 with (go_at_call 80;refine (Hfi.out _).mono ?_;rintro e w4 ⟨rfl,hb4⟩);have q:(c != 0)=true:=(by simp[hc]);have hEc:E=c:=(by rw[HE.out];unfold t6;rw[if_pos rfl,if_pos rfl,if_neg hc]);subst hEc;have Hz:=aLa hc;clear hc;go_wp2_with fail
   go_ret2
   exact ⟨QR.out Hz.out _,dV.out.trans (Hb3.out.trans hb4)⟩
theorem aBA (f : Frm) (W H r : Nat) (C : Option Addr) (cc : Nat) (cs : List Bool) (fnm : List UInt8) (ht gap sp : Nat) (L : Option Addr) (lc : Nat) (ls : List Ltr) (w : World) (hf : f.err = 0) (cM : Fits f W H r) (hF : FrmAt w f) (hS : f.small 1048576) (hN : NumOk w) (hC : SplitOk w) (hT : SpOk w)
 (hL:LtrsAt w L ls) (hnm:fnm.length≤9223372036854775807) (hn:ls.length≤9223372036854775807) (hfe:bN (dA fnm) ht gap sp ls=0) (hp:rE f.W f.H W H (W*H)=0) (hR:Reads w 1 C (W*H) (cs.map .bool)) :
 Calls Tryz.prog 16 #[f.val, .agg #[W, H, .slice C (W * H) cc], .agg #[fnm, ht, gap, sp, .slice L ls.length lc]] w
  fun e w'=>FReadRes (aF (UP ht f.lf) 15) (f.lf.map (oZ (rL f cs) W f.dark ht ls (((gap:Int)+(sp:Int)+1) / 2))) e w'∧Bl w w':=by
 have hck:=fun wx hF hN hC=>nK f wx hF hS hN hC;rw[hf] at hck;have hfc:=fun wx hL=>nG fnm ht gap sp L lc ls wx hL hnm hn;rw[hfe] at hfc;have hfi:=fun wx=>F4 f W H C (W*H) cc wx;rw[hp] at hfi;have hs:=KS cM;have hdk:=QB hf;have hpl:=fun wx hF hR=>XC f C cc cs W H r wx cM hF hR;have hok:=fun x (hx:x∈f.lf)=>wQ hf cM hx;have hlf:f.lf.length≤50:=(JU hf).1;obtain ⟨PB,hPB⟩:=aLt (rL f cs);simp only[←hPB] at hpl ⊢;obtain ⟨gs,hgs⟩:=aLt ((((gap:Int)+(sp:Int)+1) / 2):Int);rw[←hgs];obtain ⟨FV,hFV⟩:=aLt (oZ PB W f.dark ht ls gs);rw[←hFV];have hmk:=fun (x:Fld) (hx:x∈f.lf) A c wx hM hR=>SU f x W H A c PB wx hs hM (hok x hx).marks (hok x hx).m20 hdk hR
 have hrt := fun (x : Fld) (hx : x ∈ f.lf) (hk : x.kind = 1) (hh : (ht : Int) ≤ x.box.H) (A : Option Addr) (c : Nat) wx (hLx : LtrsAt wx L ls) (hA : Reads wx 1 A (W * H) (PB.map .bool)) => show Calls Tryz.prog 81 #[x.val, .agg #[W, H, .slice A (W * H) c], .agg #[fnm, ht, gap, sp, .slice L ls.length lc]] wx
  fun e w'=>∃t s,FV x=(x.name,t,[],s)∧t.length≤9223372036854775807∧e=.returned (.tuple #[.string ⟨t.toArray⟩,.int .i64 s])∧Bl wx w' by
  obtain ⟨X,Y,bw,bh,hb,h1,h2,h3,h4⟩:=((hok x hx).box (by rw[hk];rfl)).inW;have hh2:ht≤bh:=(by rw[hb] at hh;have:(ht:Int)≤(bh:Int):=hh;omega);have hW:=cM.hW;have cL:=(AO hfe (cs:=PB) (W:=W) (X:=X) (Y:=Y) (BW:=bw) (most:=x.most) (by omega)).1;rw[←hgs] at cL;refine (KX x fnm ht gap sp L lc ls W H A c PB X Y bw bh wx hb (hok x hx).most hLx hnm hn hfe hA hs ⟨h3,h4,h1,h2⟩ hh2).mono ?_;rintro e w' ⟨rfl,hbl⟩;refine ⟨_,_,?_,?_,rfl,hbl⟩
  ·rw[hFV];unfold oZ;rw[if_pos hk];unfold Y8;rw[hb,hgs];rfl
  ·rw[←hgs];have h5:(gF (oY PB W X Y bw ht ls x.most gs)).length≤4*8000:=by
    refine aMb ?_ (aMa (Nat.le_refl 4) cL.len);unfold gF;rw[List.length_flatMap];exact KP fun s hs=>(cL.line s hs).ok.1
   unfold JH;split
   ·exact Nat.zero_le _
   ·split
    ·show (gF _).length≤_;omega
    ·show (gF _).length≤_;omega
 have hrc := fun (x : Fld) (hx : x ∈ f.lf) (hk : x.kind = 2) (A : Option Addr) (c : Nat) wx (hTx : SpOk wx) (hA : Reads wx 1 A (W * H) (PB.map .bool)) => show Calls Tryz.prog 82 #[x.val, .agg #[W, H, .slice A (W * H) c]] wx
  fun e w'=>∃t s,FV x=(x.name,t,[],s)∧t.length≤9223372036854775807∧e=.returned (.tuple #[.string ⟨t.toArray⟩,.int .i64 s])∧Bl wx w' by
  obtain ⟨X,Y,bw,bh,hb,h1,h2,h3,h4⟩:=((hok x hx).box (by rw[hk];rfl)).inW;have hW:=cM.hW;have hH:=cM.hH;refine (KY x W H A c PB X Y bw bh wx hb hA hs ⟨h3,h4,h1,h2⟩ hTx).mono ?_;rintro e w' ⟨rfl,hbl⟩;refine ⟨_,_,?_,?_,rfl,hbl⟩
  ·rw[hFV];unfold oZ;rw[if_neg (by rw[hk];decide),if_pos hk];unfold Y9 aBy;rw[hb];rfl
  ·show (fB _ _).1.length≤_;exact D6 (NR (bs:=eS bw bh (kR PB W X Y)) (W:=bw) (H:=bh) (by omega) (by omega)) _
 have hfm:=fun (x:Fld) (h1:x.kind≠1) (h2:x.kind≠2)=>show FV x=(x.name,[],eJ PB W f.dark x.marks x.marks.length,if x.kind=3∧1<(eJ PB W f.dark x.marks x.marks.length).length then 0 else 1000) by
  rw[hFV];unfold oZ;rw[if_neg h1,if_neg h2]
 obtain ⟨E,hE⟩:=aLt (aF (UP ht f.lf) 15);rw[←hE];obtain ⟨nm',fW,fH,reach,dark,AL,ac,la,FL,fc,lf,RL,rc,lr⟩:=f;simp only at hdk hok hlf hE;obtain ⟨MF,hMF⟩:∃g,g=fun x:Fld=>eJ PB W dark x.marks x.marks.length:=⟨_,rfl⟩;have hMx:∀x:Fld,eJ PB W dark x.marks x.marks.length=MF x:=fun x=>(by rw[hMF]);have hML:∀x:Fld,(MF x).length≤x.marks.length:=fun x=>(by rw[hMF];exact mI _ _ _ _ _);simp only[hMx] at hmk hfm;let w1:=(((w).alloc (.cells #[nm',fW,fH,reach,dark,.slice AL la.length ac,.slice FL lf.length fc,.slice RL lr.length rc] 26)).alloc (.cells #[W,H,.slice C (W*H) cc] 43)).alloc (.cells #[fnm,ht,gap,sp,.slice L ls.length lc] 46);obtain ⟨w1b,w11,w12,w13⟩:=aLj (x:=w1) w _ _ _ _ _ _ rfl;have sz1:w1.heap.size=w.heap.size+1+1+1:=(by simp[w1]);unfold Frm.val at hck hfi hpl hmk;unfold Fld.val at hmk hrt hrc;have k1:=w11.all8;have k2:=w12.all3;have k3:=w13.all5;obtain ⟨dV,Hck,Hfc,HL,Hfi,HE,HF,HT⟩:=aLg w1b (hck w1 (hF.bl w1b) (hN.bl w1b) (hC.bl w1b)) hfc hL hfi hE hF hT;obtain ⟨HR,Hpl,Hmk,Hrt,Hrc,Hfm,Hok,HML⟩:=aLg hR hpl hmk hrt hrc hfm hok hML;unfold Frm.val;show Calls _ _ _ w fun e w'=>FReadRes E (lf.map FV) e w'∧Bl w w';clear w1b hE hck hfc hfi hF hN hC hS hL hnm hn cM hf hfe hp hR hT hpl hmk hrt hrc hfm hok hML hMx hMF hFV hgs hPB hs hdk
 go_in
 go_upto_region 1 with fail;rw[show ((w.alloc (.cells #[nm',fW,fH,reach,dark,.slice AL la.length ac,.slice FL lf.length fc,.slice RL lr.length rc] 26)).alloc (.cells #[W,H,.slice C (W*H) cc] 43)).alloc (.cells #[fnm,ht,gap,sp,.slice L ls.length lc] 46)=w1 from rfl];clear_value w1;go_upto_region 4 with (go_at_call 39;refine Hck.out.mono ?_;rintro e w2 ⟨rfl,hb2⟩);have Hb2:=aLa hb2;have k3:=(w13.bl hb2).all5;clear hb2 k1 k2;go_upto_region 7 with (go_at_call 79;refine (Hfc.out _ (HL.out.bl (dV.out.trans Hb2.out))).mono ?_;rintro e w3 ⟨rfl,hb3⟩);have Hb3:=aLa (Hb2.out.trans hb3);have k1:=(w11.bl Hb3.out).all8;have k2:=(w12.bl Hb3.out).all3;clear hb3 k3;go_upto_region 10 with (go_at_call 80;refine (Hfi.out _).mono ?_;rintro e w4 ⟨rfl,hb4⟩);have Hb4:=aLa (Hb3.out.trans hb4);have k1:=(w11.bl Hb4.out).all8;clear hb4 k2;go_wp2_with fail;go_loopw [36] (fun u wr=>∃i:Nat,i≤lf.length∧u=.int .i64 i∧Bl w1 wr∧Hid (∀x∈lf.take i,x.kind=1→(ht:Int)≤x.box.H)) (fun u _=>lf.length-(RowKit.intOf u).toNat);case atStart=>exact ⟨0,Nat.zero_le _,rfl,Hb4.out,aLa (fun x hx=>by simp at hx)⟩
 case round=>
  obtain ⟨i,hi,rfl,hbr,ZQ⟩:=hrel;have k1:=(w11.bl hbr).all8;have k3:=(w13.bl hbr).all5;have Hbr:=aLa hbr;clear hbr;by_cases hlt:i<lf.length
  ·have hg:lf[i]? = some lf[i]:=aLv hlt;obtain ⟨x,hx0⟩:=aLt (lf[i]);rw[←hx0] at hg;have hxm:x∈lf:=List.mem_of_getElem? hg;obtain ⟨adF,eF,f1,f2,f3,f4,f5,f6,f7,f8,f9⟩:=FldsAt.at_ (HF.out.flds.bl (dV.out.trans Hbr.out)) hg;simp only at eF;subst eF;have HG:=aLa hg;clear hg hx0;go_upto_region 13 with fail;obtain ⟨q,hq⟩:=aLt wr.heap.size;obtain ⟨w5,hw5⟩:=aLt (wr.alloc (.cells #[.string ⟨x.name.toArray⟩,.int .i64 x.kind,.int .i64 x.box.X,.int .i64 x.box.Y,.int .i64 x.box.W,.int .i64 x.box.H,.slice x.M x.marks.length x.mc,.int .i64 x.most,.bool x.needed] 61));have bq:=aLp hw5 hq;have hb5:=aLn hw5;rw[←hw5,←hq];have Hb5:=aLa (Hbr.out.trans hb5);have k3:=(w13.bl Hb5.out).all5;have k4:=bq.all9;clear hw5 hq bq hb5 f1 f2 f3 f4 f5 f6 f7 f8 f9 k1;by_cases hk:x.kind=1
   ·by_cases hh:x.box.H<(ht:Int)
    ·have aKU:E=15:=(by rw[HE.out,KZ hxm hk hh];rfl);subst aKU;clear HE;go_wp2_with fail
     go_ret2
     exact ⟨⟨none,0,0,rfl,fun _=>rfl,fun h=>absurd h (by decide)⟩,dV.out.trans Hb5.out⟩
    ·have HH:=aLa (show ∀y∈lf.take (i+1),y.kind=1→(ht:Int)≤y.box.H from fun y hy hky=>by
      rw[eI HG.out] at hy;rcases aLM.1 hy with hy|hy
      ·exact ZQ.out y hy hky
      ·rw[aLQ.1 hy];omega)
     clear ZQ;go_wp2_with fail;exact ⟨⟨i+1,hlt,by go_num,Hb5.out,HH⟩,by simp[RowKit.intOf];omega⟩
   ·have HH:=aLa (show ∀y∈lf.take (i+1),y.kind=1→(ht:Int)≤y.box.H from fun y hy hky=>by
     rw[eI HG.out] at hy;rcases aLM.1 hy with hy|hy
     ·exact ZQ.out y hy hky
     ·rw[aLQ.1 hy] at hky;exact absurd hky hk)
    clear ZQ;go_wp2_with fail;exact ⟨⟨i+1,hlt,by go_num,Hb5.out,HH⟩,by simp[RowKit.intOf];omega⟩
  ·obtain rfl:i=lf.length:=(by omega);have hlo:=ZQ.out;rw[aLC] at hlo;have HLo:=aLa hlo;have hE0:E=0:=(by rw[HE.out,aDA hlo];rfl);subst hE0;have B2:=aLa (w12.bl Hbr.out);have k2:=B2.out.all3;have hler:=Hbr.out.le;clear HE hlo ZQ k3;go_upto_region 16 with fail;go_upto_region 17 with (go_at_call 78;refine (Hpl.out _ (HF.out.bl (dV.out.trans Hbr.out)) (HR.out.bl (dV.out.trans Hbr.out))).mono ?_;rintro e w5 ⟨v5,rfl,⟨g5,rfl,hg5,aJa,aKV⟩,hb5⟩;have HB5:=aLa (w12.bl (Hbr.out.trans hb5));have k2:=HB5.out.all3);obtain ⟨wS,hwS⟩:=aLt (((w5.setCell ⟨w.heap.size+1,0,none⟩ (.int .i64 W)).setCell ⟨w.heap.size+1,1,none⟩ (.int .i64 H)).setCell ⟨w.heap.size+1,2,none⟩ (.slice (some ⟨g5,0,none⟩) (W*H) (W*H)));have b12:Blk wS (w.heap.size+1) 43 #[W,H,.slice (some ⟨g5,0,none⟩) (W*H) (W*H)]:=(by rw[hwS];exact (((w12.bl (Hbr.out.trans hb5)).set_ 0 _).set_ 1 _).set_ 2 _);have b11:Blk wS w.heap.size 26 #[nm',fW,fH,reach,dark,.slice AL la.length ac,.slice FL lf.length fc,.slice RL lr.length rc]:=by
    rw[hwS];exact (((w11.bl (Hbr.out.trans hb5)).far (by show w.heap.size≠w.heap.size+1;omega) _).far (by show w.heap.size≠w.heap.size+1;omega) _).far (by show w.heap.size≠w.heap.size+1;omega) _
   have b13:Blk wS (w.heap.size+1+1) 46 #[fnm,ht,gap,sp,.slice L ls.length lc]:=by
    rw[hwS];exact (((w13.bl (Hbr.out.trans hb5)).far (by show w.heap.size+1+1≠w.heap.size+1;omega) _).far (by show w.heap.size+1+1≠w.heap.size+1;omega) _).far (by show w.heap.size+1+1≠w.heap.size+1;omega) _
   have LD:g5≠w.heap.size+1:=(by omega);have bG:Blk wS g5 4 (PB.map Value.bool).toArray:=(by rw[hwS];exact ((hg5.far LD _).far LD _).far LD _);have hbS:Bl w wS:=(by rw[hwS];exact (((dV.out.trans (Hbr.out.trans hb5)).setCell (by show _≤_+1;omega) _).setCell (by show _≤_+1;omega) _).setCell (by show _≤_+1;omega) _);have hrS:Reads wS 1 (some ⟨g5,0,none⟩) (W*H) (PB.map .bool):=(by have:=bG.reads (W*H) 1 (by simp[aJa]);simpa using this);rw[←hwS];obtain ⟨B11,B12,B13,HbS,HrS⟩:=aLd b11 b12 b13 hbS hrS;have k1:=b11.all8;clear hwS b12 b11 b13 bG hbS hrS aKV aJa hg5 hb5 LD k2 w11 w12 w13 B2 Hbr HB5;go_wp2_with fail;go_loopw [13,58] (fun s u wr=>∃(i:Nat) (l:List Vlu),i≤lf.length∧u=.int .i64 i∧OwnVals wr wS.heap.size s l∧l.map Vlu.plain=(lf.take i).map FV∧Bl wS wr) (fun _ u _=>lf.length-(RowKit.intOf u).toNat);case atStart=>exact ⟨0,[],Nat.zero_le _,rfl,OwnVals.nil _ _,rfl,Bl.refl _⟩
   case round=>
    rename World=>wr;obtain ⟨i,l,hi,rfl,cA,hpl,hbr⟩:=hrel;obtain ⟨Hbr,HO,HPl⟩:=aLb hbr cA hpl;have hll:l.length=i:=(by have:=congrArg List.length hpl;rw[aLz,aLz,aLA] at this;omega);clear hbr cA hpl;by_cases hlt:i<lf.length
    ·have hg:lf[i]? = some lf[i]:=aLv hlt;obtain ⟨x,hx0⟩:=aLt (lf[i]);rw[←hx0] at hg;have hxm:x∈lf:=List.mem_of_getElem? hg;obtain ⟨adF,eF,f1,f2,f3,f4,f5,f6,f7,f8,f9⟩:=FldsAt.at_ (HF.out.flds.bl (HbS.out.trans Hbr.out)) hg;simp only at eF;subst eF;have HG:=aLa hg;have HMx:=aLa (HF.out.flds.2 x hxm);clear hg hx0;go_upto_region 21 with fail;obtain ⟨q,hq⟩:=aLt wr.heap.size;obtain ⟨w6,hw6⟩:=aLt (wr.alloc (.cells #[.string ⟨x.name.toArray⟩,.int .i64 x.kind,.int .i64 x.box.X,.int .i64 x.box.Y,.int .i64 x.box.W,.int .i64 x.box.H,.slice x.M x.marks.length x.mc,.int .i64 x.most,.bool x.needed] 61));have bq:=aLp hw6 hq;have hb6:=aLn hw6;rw[←hw6,←hq];have Hb6:=aLa (Hbr.out.trans hb6);have HO6:=aLa (HO.out.bl hb6);have k4:=bq.all9;have BQ:=aLa bq;clear hw6 hq bq hb6 f1 f2 f3 f4 f5 f6 f7 f8 f9 k1 HO Hbr;go_upto_region 22 with fail;obtain ⟨p,hp⟩:=aLt w6.heap.size;obtain ⟨w7,hw7⟩:=aLt (w6.alloc (.cells #[.string ⟨x.name.toArray⟩,.string ⟨#[]⟩,.slice none 0 0,.int .i64 1000] 69));have bp:=aLp hw7 hp;have hb7:=aLn hw7;rw[←hw7,←hp];have Hr7:=aLa hb7;have Hb7:=aLa (Hb6.out.trans hb7);have k4:=(BQ.out.bl hb7).all9;have BP:=aLa bp;have k5:=bp.all4;have Hp:=aLa hp;have aJb:=Hok.out x hxm;have k1:=(B11.out.bl Hb7.out).all8;have k2:=(B12.out.bl Hb7.out).all3;have k3:=(B13.out.bl Hb7.out).all5;clear hw7 hp bp hb7;go_cut [66] from 65 to 66 (fun s wc=>s=.int .i64 x.kind∧w7=wc);case first=>
      go_wp2_with fail;go_meet;case rel=>exact ⟨rfl,rfl⟩
     case rest=>
     obtain ⟨rfl,rfl⟩:=hcut;go_step;have hMl:=HML.out x;have aDP:=aJb.m20;have hkd:=aJb.kind;go_cut [66] from 59 to 102 (fun s66 wc=>(∃k:Int,s66=.int .i64 k)∧∃x':Vlu,Blk wc p 69 #[x'.field,x'.text,.slice x'.M x'.marks.length x'.mc,x'.sure]∧x'.plain=FV x∧(∃B',wc.ownsRow B' 3 1 (.slice x'.M x'.marks.length x'.mc) x'.marks.length (x'.marks.map (.int .i64)))∧(x'.field.length≤9223372036854775807∧x'.text.length≤9223372036854775807∧x'.marks.length≤9223372036854775807)∧Bl w6 wc);case first=>
      by_cases hk:x.kind=1
      ·have dF:=Hrt.out x hxm hk (HLo.out x hxm hk) (some ⟨g5,0,none⟩) (W*H) w7 (HL.out.bl (HbS.out.trans Hb7.out)) (HrS.out.bl Hb7.out);rw[hk] at dF;have m8:=aLa dF;clear dF;go_upto_region 27 with fail;go_wp2_with (go_at_call 81;refine m8.out.mono ?_;rintro e w8 ⟨t,s,hFx,htl,rfl,hb8⟩;have HB8:=aLa (BP.out.bl hb8);have k5:=HB8.out.all4;have Hr8:=aLa hb8;clear hb8);go_meet;case rel=>
        obtain ⟨wV,hwV⟩:=aLt ((w8.setCell ⟨p,1,none⟩ (.string ⟨t.toArray⟩)).setCell ⟨p,3,none⟩ (.int .i64 s));have bV:Blk wV p 69 #[.string ⟨x.name.toArray⟩,.string ⟨t.toArray⟩,.slice none 0 0,.int .i64 s]:=(by rw[hwV];exact (HB8.out.set_ 1 _).set_ 3 _);have hV:Bl w6 wV:=(by rw[hwV];exact ((Hr7.out.trans Hr8.out).setCell (by rw[Hp.out];exact Nat.le_refl _) _).setCell (by rw[Hp.out];exact Nat.le_refl _) _);rw[←hwV];exact ⟨⟨_,rfl⟩,⟨x.name,t,none,0,[],s⟩,bV,by rw[hFx];rfl,⟨0,World.ownsRow_nil _ _ _ _⟩,⟨HMx.out.2.2.2,htl,Nat.zero_le _⟩,hV⟩
      ·by_cases hk2:x.kind=2
       ·have dF:=Hrc.out x hxm hk2 (some ⟨g5,0,none⟩) (W*H) w7 (HT.out.bl (HbS.out.trans Hb7.out)) (HrS.out.bl Hb7.out);rw[hk2] at dF;have m8:=aLa dF;clear dF;go_upto_region 29 with fail;go_wp2_with (go_at_call 82;refine m8.out.mono ?_;rintro e w8 ⟨t,s,hFx,htl,rfl,hb8⟩;have HB8:=aLa (BP.out.bl hb8);have k5:=HB8.out.all4;have Hr8:=aLa hb8;clear hb8);go_meet;case rel=>
         obtain ⟨wV,hwV⟩:=aLt ((w8.setCell ⟨p,1,none⟩ (.string ⟨t.toArray⟩)).setCell ⟨p,3,none⟩ (.int .i64 s));have bV:Blk wV p 69 #[.string ⟨x.name.toArray⟩,.string ⟨t.toArray⟩,.slice none 0 0,.int .i64 s]:=(by rw[hwV];exact (HB8.out.set_ 1 _).set_ 3 _);have hV:Bl w6 wV:=(by rw[hwV];exact ((Hr7.out.trans Hr8.out).setCell (by rw[Hp.out];exact Nat.le_refl _) _).setCell (by rw[Hp.out];exact Nat.le_refl _) _);rw[←hwV];exact ⟨⟨_,rfl⟩,⟨x.name,t,none,0,[],s⟩,bV,by rw[hFx];rfl,⟨0,World.ownsRow_nil _ _ _ _⟩,⟨HMx.out.2.2.2,htl,Nat.zero_le _⟩,hV⟩
       ·have m8:=aLa (Hmk.out x hxm (some ⟨g5,0,none⟩) (W*H) w7 (HMx.out.1.bl (HbS.out.trans Hb7.out)) (HrS.out.bl Hb7.out));have HFx:=aLa (Hfm.out x hk hk2);go_upto_region 23 with fail;go_upto_region 24 with (go_at_call 77;refine m8.out.mono ?_;rintro e w8 ⟨v8,rfl,cF,hb8⟩;obtain ⟨A8,c8,rfl,-⟩:=cU cF;have HB8:=aLa (BP.out.bl hb8);have k5:=HB8.out.all4;have Hr8:=aLa hb8;have HO8:=aLa cF;have k4:=(BQ.out.bl (Hr7.out.trans hb8)).all9;clear hb8 cF);obtain ⟨ml,aBW⟩:=aLt ((MF x).length);rw[←aBW] at hMl;have Hml:=aLa aBW;obtain ⟨w9,hw9⟩:=aLt (w8.setCell ⟨p,2,none⟩ (.slice A8 (MF x).length c8));have b9:Blk w9 p 69 #[.string ⟨x.name.toArray⟩,.string ⟨#[]⟩,.slice A8 (MF x).length c8,.int .i64 1000]:=(by rw[hw9];exact HB8.out.set_ 2 _);have bq9:Blk w9 q 61 #[.string ⟨x.name.toArray⟩,.int .i64 x.kind,.int .i64 x.box.X,.int .i64 x.box.Y,.int .i64 x.box.W,.int .i64 x.box.H,.slice x.M x.marks.length x.mc,.int .i64 x.most,.bool x.needed]:=by
         rw[hw9];exact (BQ.out.bl (Hr7.out.trans Hr8.out)).far (by have:=BQ.out.lt;have:=Hp.out;show q≠p;omega) _
        have h9:Bl w6 w9:=(by rw[hw9];exact (Hr7.out.trans Hr8.out).setCell (by rw[Hp.out];exact Nat.le_refl _) _);have o9:w9.ownsRow w7.heap.size 3 1 (.slice A8 (MF x).length c8) (MF x).length ((MF x).map (.int .i64)):=(by rw[hw9];exact ownsRow_setCell_below HO8.out (by have:=BP.out.lt;show p<_;omega) _);rw[←hw9];rw[←aBW] at b9 o9 ⊢;have k4:=bq9.all9;have k5:=b9.all4;obtain ⟨H9,O9,B9⟩:=aLb h9 o9 b9;clear hw9 aBW h9 o9 b9 bq9;by_cases hk3:x.kind=3
        ·by_cases hm1:1<ml
         ·have HX:=aLa (show FV x=(x.name,[],MF x,0) by rw[HFx.out,if_pos ⟨hk3,by rw[←Hml.out];exact hm1⟩]);have aKW:(1:Int)<(ml:Int):=(by omega);go_wp2_with fail;go_meet;case rel=>
           obtain ⟨wV,hwV⟩:=aLt (w9.setCell ⟨p,3,none⟩ (.int .i64 0));have bV:Blk wV p 69 #[.string ⟨x.name.toArray⟩,.string ⟨#[]⟩,.slice A8 ml c8,.int .i64 0]:=(by rw[hwV];exact B9.out.set_ 3 _);have hV:Bl w6 wV:=(by rw[hwV];exact H9.out.setCell (by rw[Hp.out];exact Nat.le_refl _) _);have oV:wV.ownsRow w7.heap.size 3 1 (.slice A8 ml c8) ml ((MF x).map (.int .i64)):=(by rw[hwV];exact ownsRow_setCell_below O9.out (by have:=BP.out.lt;show p<_;omega) _);rw[←hwV];rw[Hml.out] at bV oV;exact ⟨⟨_,rfl⟩,⟨x.name,[],A8,c8,MF x,0⟩,bV,by rw[HX.out];rfl,⟨_,oV⟩,⟨HMx.out.2.2.2,Nat.zero_le _,by have:=Hml.out;show (MF x).length≤_;omega⟩,hV⟩
         ·have HX:=aLa (show FV x=(x.name,[],MF x,1000) by rw[HFx.out,if_neg (fun h=>hm1 (by rw[Hml.out];exact h.2))]);have aKW:¬(1:Int)<(ml:Int):=(by omega);go_wp2_with fail;go_meet;case rel=>
           have bV:=B9.out;have oV:=O9.out;rw[Hml.out] at bV oV;exact ⟨⟨_,rfl⟩,⟨x.name,[],A8,c8,MF x,1000⟩,bV,by rw[HX.out];rfl,⟨_,oV⟩,⟨HMx.out.2.2.2,Nat.zero_le _,by have:=Hml.out;show (MF x).length≤_;omega⟩,H9.out⟩
        ·have HX:=aLa (show FV x=(x.name,[],MF x,1000) by rw[HFx.out,if_neg (fun h=>hk3 h.1)]);go_wp2_with fail;go_meet;case rel=>
          have bV:=B9.out;have oV:=O9.out;rw[Hml.out] at bV oV;exact ⟨⟨_,rfl⟩,⟨x.name,[],A8,c8,MF x,1000⟩,bV,by rw[HX.out];rfl,⟨_,oV⟩,⟨HMx.out.2.2.2,Nat.zero_le _,by have:=Hml.out;show (MF x).length≤_;omega⟩,H9.out⟩
     case rest=>
     rename World=>w10;obtain ⟨⟨k66,rfl⟩,x',b10,aHN,hm',ht',QK⟩:=hcut;have k5:=b10.all4;obtain ⟨aJc,aJd,Hpl2,Hm2,Ht2⟩:=aLd (Hb6.out.trans QK) (HO6.out.bl QK) aHN hm' ht';have hle10:=aJc.out.le;have HPx:=aLa (SD HPl.out aHN);clear aHN hm' ht' QK b10 k1 k2 k3 k4;go_wp2_with (at_builtin;refine aQ (w1:=wS) rfl (.tmp 103) (.tmp 105) 50 rfl 69 (.agg #[.string ⟨#[]⟩,.string ⟨#[]⟩,.slice none 0 0,.int .i64 0]) 4 64 Tryz.underlying50 aBx rfl (by omega) wS.heap.size _ l.length (l.flatMap Vlu.cells) rfl (aJc.out.alloc _) (Nat.le_refl _) (by simp;omega) (aJd.out.row.alloc _) (some ⟨w10.heap.size,0,none⟩) 1 1 [.string ⟨x'.field.toArray⟩,.string ⟨x'.text.toArray⟩,.slice x'.M x'.marks.length x'.mc,.int .i64 x'.sure] rfl ((Blk.new w10 _ _).reads 1 4 rfl) (by simp[Value.oneCell']) (by unfold maxLen;omega) (by omega) ?_;intro v' w11 aCy aJe aJf;have HOw:=aLa ((aJd.out.bl ((Bl.refl w10).alloc _)).snoc (x:=x') aJf aCy (let ⟨B',h⟩:=Hm2.out;⟨B',fX h ((Bl.refl w10).alloc _)⟩) Ht2.out);have aKX:=aLa aJe;clear aCy aJe aJf);exact ⟨⟨i+1,l++[x'],hlt,by go_num,HOw.out,by rw[HPx.out,eI HG.out,aLS];rfl,aKX.out⟩,by simp[RowKit.intOf];omega⟩
    ·obtain rfl:i=lf.length:=(by omega);obtain ⟨A,c',rfl,hva⟩:=HO.out.at_;have aHO:=HPl.out;rw[aLC] at aHO;obtain ⟨HV,HP2,aF8⟩:=aLb hva aHO (aBz HO.out.row);clear hva aHO;go_wp2_with fail
     go_ret2
     exact ⟨⟨A,_,c',rfl,fun h=>absurd rfl h,fun _=>⟨l,HP2.out,rfl,aF8.out,HV.out⟩⟩,HbS.out.trans Hbr.out⟩
theorem GH {f : Nat → Nat} {c : Nat} : ∀ n, (∀ i, i < n → f i = c) → lC f n = n * c
 |0,_=>by show 0=0*c;rw[Nat.zero_mul]
 |n+1,h=>by
  show lC f n+f n=(n+1)*c;rw[GH n (fun i hi=>h i (by omega)),h n (by omega),Nat.add_mul,Nat.one_mul]
theorem aBB {pg:List Bool} {W X Y w h:Nat} {b:Bool} (hb:∀p q,p<w→q<h→pix pg W (X+p) (Y+q)=b):U4 pg W X Y w h=if b=true then h*w else 0:=by
 unfold U4;have h1:∀j,j<h→lC (fun i=>b1 (pix pg W (X+i) (Y+j))) w=w*(if b=true then 1 else 0):=fun j hj=>GH w fun i hi=>(by rw[hb i j hi hj];rfl);rw[GH (c:=w*(if b=true then 1 else 0)) h h1];cases b<;>simp
theorem aDB {pg:List Bool} {W:Nat} {dark:Int} {X Y w h:Nat} {b:Bool} (hd:1≤dark∧dark≤1000) (hw:1≤w) (hh:1≤h) (hb:∀p q,p<w→q<h→pix pg W (X+p) (Y+q)=b):mG pg W dark ⟨X,Y,w,h⟩=b:=by
 rw[JI,aBB hb];have e:((h*w:Nat):Int)=(w:Int)*(h:Int):=(by rw[aL9,Int.mul_comm]);have h1:(1:Int)*1≤(w:Int)*(h:Int):=Int.mul_le_mul (by omega) (by omega) (by decide) (by omega);have h2:dark*(w:Int)*(h:Int)=dark*((w:Int)*(h:Int)):=Int.mul_assoc ..;cases b with
 |true=>rw[if_pos rfl,e,h2];refine aLX ?_;rw[Int.mul_comm ((w:Int)*(h:Int)) 1000];exact Int.mul_le_mul_of_nonneg_right hd.2 (by omega)
 |false=>rw[if_neg (by simp),h2];refine aLW ?_;have h3:(1:Int)*1≤dark*((w:Int)*(h:Int)):=Int.mul_le_mul hd.1 (by omega) (by decide) (by omega);have h4:((0:Nat):Int)*1000=0:=rfl;omega
theorem aCl : ∀ {l : List Int}, (∀ j, 1 ≤ j → j < l.length → l.getD (j - 1) 0 < l.getD j 0) → l.Pairwise (· < ·)
 |[],_=>List.Pairwise.nil
 |a :: t,h=>by
  have ht:∀j,1≤j→j<t.length→t.getD (j-1) 0<t.getD j 0:=fun j hj hl=>by
   have:=h (j+1) (by omega) (by rw[aLB];omega);obtain ⟨i,rfl⟩:∃i,j=i+1:=⟨j-1,by omega⟩;simpa using this
  have ih:=aCl ht;refine List.Pairwise.cons (fun b hb => ?_) ih;cases t with
  |nil=>cases hb
  |cons c t=>
   have h1:=h 1 (Nat.le_refl _) (by rw[aLB,aLB];omega);have h2:a<c:=(by simpa using h1);rcases aLN.1 hb with rfl|hb
   ·exact h2
   ·cases ih with
    |cons h3 _=>exact Int.lt_trans h2 (h3 b hb)
theorem ZB {x:Fld} {v:Vlu} (h:bB x v=false):v.marks.Pairwise (·<·):=by
 refine aCl fun j hj hl => ?_;unfold bB at h;have h1:iH (eU x v) v.marks (j+1)=false:=by
  cases hc:iH (eU x v) v.marks (j+1) with
  |false=>rfl
  |true=>rw[fD hc (max 1 v.marks.length) (by omega)] at h;cases h
 rw[wM _ _ hj,Bool.or_eq_false_iff] at h1;have:=of_decide_eq_false h1.2;omega
theorem NU {ms:List Int} (h:ms.Pairwise (·<·)) (i:Int):ms.filter (fun m=>decide (m<i+1))=ms.filter (fun m=>decide (m<i))++(if i∈ms then [i] else []):=by
 induction ms with
 |nil=>rfl
 |cons m t ih=>
  cases h with
  |cons h1 h2=>
   have ih:=ih h2;rcases Int.lt_trichotomy m i with hm|hm|hm
   ·rw[List.filter_cons_of_pos (by simp;omega),List.filter_cons_of_pos (by simp;omega),ih];have e:(i∈m :: t)↔i∈t:=by
     rw[aLN];exact ⟨fun h=>h.resolve_left (by omega),.inr⟩
    by_cases hi:i∈t
    ·rw[if_pos hi,if_pos (e.2 hi)];rfl
    ·rw[if_neg hi,if_neg (fun h=>hi (e.1 h))];rfl
   ·subst hm;have hn:m∉t:=fun h=>(by have:=h1 m h;omega);rw[List.filter_cons_of_pos (by simp;omega),List.filter_cons_of_neg (by simp),ih,if_neg hn,if_pos (List.mem_cons_self ..)];have e:t.filter (fun x=>decide (x<m))=[]:=by
     rw[List.filter_eq_nil_iff];intro a ha;have:=h1 a ha;simp;omega
    rw[e];rfl
   ·have hn:i∉m :: t:=fun h=>by
     rcases aLN.1 h with e|h
     ·omega
     ·have:=h1 i h;omega
    rw[List.filter_cons_of_neg (by simp;omega),List.filter_cons_of_neg (by simp;omega),ih,if_neg hn];rw[if_neg (fun h=>hn (List.mem_cons_of_mem _ h))]
theorem NV {ms:List Int} (h:∀m∈ms,0≤m):ms.filter (fun m=>decide (m<0))=[]:=by
 rw[List.filter_eq_nil_iff];intro a ha;have:=h a ha;simp;omega
theorem T6 {ms:List Int} {n:Int} (h:∀m∈ms,m<n):ms.filter (fun m=>decide (m<n))=ms:=by
 rw[List.filter_eq_self];intro a ha;simpa using h a ha
theorem EB {pg:List Bool} {W:Nat} {dark:Int} {bxs:List Bx} {ms:List Int} (hms:ms.Pairwise (·<·)) (hr:∀m∈ms,0≤m∧m<(bxs.length:Int)) (hb:∀(n:Nat) (b:Bx),bxs[n]? = some b→mG pg W dark b=decide ((n:Int)∈ms)):eJ pg W dark bxs bxs.length=ms:=by
 have key:∀i,i≤bxs.length→eJ pg W dark bxs i=ms.filter (fun m=>decide (m<(i:Int))):=by
  intro i;induction i with
  |zero=>intro _;exact (NV fun m hm=>(hr m hm).1).symm
  |succ i ih=>
   intro hi;have hg:bxs[i]? = some bxs[i]:=aLv (by omega);rw[tL hg,ih (by omega),hb i _ hg,show ((i+1:Nat):Int)=(i:Int)+1 by omega,NU hms]
   congr 1
   by_cases h:(i:Int)∈ms
   ·rw[if_pos h,if_pos (aLX h)]
   ·rw[if_neg h,if_neg (by rw[aLW h];simp)]
 rw[key _ (Nat.le_refl _)];exact T6 fun m hm=>(hr m hm).2
def GI (x:Fld) (o:Option Vlu):VP:=match o with
 |none=>(x.name,[],[],1000)
 |some v=>(x.name,v.text,v.marks,1000)
structure WellV (ls:List Ltr) (ht gap sp:Nat) (x:Fld) (v:Vlu):Prop where
 wrong:bB x v=false
 range:∀m∈v.marks,0≤m∧m<(x.marks.length:Int)
 drawn:v.text≠[]→iP ls ht gap sp x v.text=0
theorem WellV.w {ls:List Ltr} {ht gap sp:Nat} {x:Fld} {v:Vlu} (h:WellV ls ht gap sp x v):eU x v=false:=by
 cases hc:eU x v with
 |false=>rfl
 |true=>have:=fD (w0:=eU x v) (l:=v.marks) (j:=0) hc (max 1 v.marks.length) (Nat.zero_le _);have h2:=h.wrong;unfold bB at h2;rw[this] at h2;cases h2
theorem GJ {f:Frm} {ls:List Ltr} {ht gap sp:Nat} {l:List Vlu} (h:∀v∈l,∃x tw,lT f.lf v.field=some x∧cP f.lf tw v=0∧(v.text≠[]→iP ls ht gap sp x v.text=0)) (hL:Laid f) {x:Fld} (hx:x∈f.lf) {v:Vlu} (hv:dQ l x.name=some v):WellV ls ht gap sp x v:=by
 obtain ⟨hm,hn⟩:=T2 hv;obtain ⟨x',tw,h1,h2,h3⟩:=h v hm;obtain ⟨hx',hn'⟩:=KW h1;obtain rfl:x'=x:=hL.one x' hx' x hx (hn'.trans hn);obtain ⟨x2,h4,-,h5,-⟩:=mQ h2;obtain rfl:x'=x2:=aLZ (h1.symm.trans h4);refine ⟨?_,h5,h3⟩;unfold cP at h2;rw[h1] at h2;exact iB (by decide) (bA h2 (aF (bB x' v) 2) (by simp))
theorem T7 {bs:List Bool} {W ht:Nat} {ls:List Ltr} {most gs:Int} (h:∀x y,x<W→y<ht→pix bs W x y=false):rC bs W ht ls most ht gs=[]:=by
 have hc:∀x,x<W→lP bs W ht x=0:=fun x hx=>by
  rcases Nat.eq_zero_or_pos (lP bs W ht x) with h0|h0
  ·exact h0
  ·obtain ⟨y,hy,hp⟩:=(gZ bs W ht x).1 h0;rw[h x y hx hy] at hp;cases hp
 have hps:aB (lP bs W ht) W=[]:=by
  have:=kJ (f:=lP bs W ht) (a:=0) W (fun x _ hx=>hc x (by omega));rw[Nat.zero_add] at this;rw[this];rfl
 unfold rC zE;rw[hps];rfl
theorem NW {w h:Nat} {f:Nat→Nat→Bool}:∀x y,x<w→y<h→pix (eS w h f) w x y=f x y:=fun x y hx hy=>iS w h f x y hx hy
theorem GK {w h:Nat} {f:Nat→Nat→Bool} (hf:∀x y,x<w→y<h→f x y=false):true∉eS w h f:=by
 intro hm;unfold eS at hm;obtain ⟨i,hi,he⟩:=aMf.1 hm;have hi':=List.mem_range.1 hi;rcases Nat.eq_zero_or_pos w with h0|h0
 ·rw[h0,Nat.zero_mul] at hi';omega
 ·rw[hf _ _ (Nat.mod_lt _ h0) (Nat.div_lt_of_lt_mul hi')] at he;cases he
theorem EC {ls:List Ltr} {ht gap sp:Nat} {x:Fld} {v:Vlu} {p q:Nat} (h:v.text≠[]):KU ls ht gap sp x (some v) p q=(decide (p<fF ls gap sp x v.text)&&(decide (q<gQ ht x)&&pix (oX ls ht gap sp x v.text) (fF ls gap sp x v.text) p q)):=by
 show (if v.text=[] then false else _)=_;rw[if_neg h]
theorem T8 {f : Frm} {W H r : Nat} {nm : List UInt8} {ht gap sp : Nat} {ls : List Ltr} {l : List Vlu} {pg : List Bool} (hf : f.err = 0) (cM : Fits f W H r) (hfe : bN (dA nm) ht gap sp ls = 0) (hR : Right ht gap sp ls) (hI : Inked ht ls) (hT : Told ls)
 (hV:FillInv ls ht gap sp W H f.lf l pg) (hw:∀v∈l,∃x tw,lT f.lf v.field=some x∧cP f.lf tw v=0∧(v.text≠[]→iP ls ht gap sp x v.text=0)) {x:Fld} (hx:x∈f.lf) (ZQ:x.kind=1→(ht:Int)≤x.box.H) :
 oZ pg W f.dark ht ls (((gap:Int)+(sp:Int)+1) / 2) x=GI x (dQ l x.name):=by
 have hL:=NT hf;have hok:=wQ hf cM hx;have hdk:=QB hf;have hW:=cM.hW;have hH:=cM.hH;by_cases hm:bL x.kind=true
 ·
   have hk1:x.kind≠1:=fun e=>(by rw[e] at hm;cases hm);have hk2:x.kind≠2:=fun e=>(by rw[e] at hm;cases hm);have hmk:∀ms:List Int,(∀n:Nat,Y4 (dQ l x.name) n=decide ((n:Int)∈ms))→∀(n:Nat) (b:Bx),x.marks[n]? = some b→mG pg W f.dark b=decide ((n:Int)∈ms):=fun ms hms n b hn=>by
    obtain ⟨X,Y,w,h,e,h1,h2,h3,h4⟩:=hok.marks b (List.mem_of_getElem? hn);rw[e];exact aDB hdk h1 h2 fun p q hp hq=>(hV.mark x hx hm n b hn X Y w h e p q hp hq).trans (hms n)
   unfold oZ;rw[if_neg hk1,if_neg hk2];cases ho:dQ l x.name with
   |none=>rw[ho] at hmk;have h1:=EB (ms:=[]) (bxs:=x.marks) (pg:=pg) (W:=W) (dark:=f.dark) List.Pairwise.nil (fun m h=>by cases h) (hmk [] fun n=>by simp[Y4]);rw[h1];unfold GI;rw[if_neg (by simp)]
   |some v=>
    rw[ho] at hmk;have hwv:=GJ hw hL hx ho;have h1:=EB (ms:=v.marks) (bxs:=x.marks) (pg:=pg) (W:=W) (dark:=f.dark) (ZB hwv.wrong) hwv.range (hmk v.marks fun n=>rfl);rw[h1];have hws:=hwv.w;unfold eU rM at hws;simp only[Bool.or_eq_false_iff] at hws;have ht0:v.text=[]:=by
     have:=hws.2.1;rw[hm] at this;simpa using this
    have aKY:¬(x.kind=3∧1<v.marks.length):=fun h=>by
     have:=hws.2.2.2;rw[aLX h.1,aLX h.2] at this;cases this
    show _=((x.name,v.text,v.marks,1000):VP);rw[if_neg aKY,ht0]
 ·have hm:bL x.kind=false:=(by cases h:bL x.kind;rfl;exact absurd h hm);obtain ⟨X,Y,w,h,hb,h1,h2,h3,h4⟩:=(hok.box hm).inW;have hpx:=hV.box x hx hm X Y w h hb;have hk:x.kind=1∨x.kind=2:=by
   unfold bL at hm;rw[Bool.or_eq_false_iff] at hm;have a1:=of_decide_eq_false hm.1;have a2:=of_decide_eq_false hm.2;have:=hok.kind;omega
  have aCz:∀v,dQ l x.name=some v→v.marks=[]:=fun v hv=>AN (GJ hw hL hx hv).w hm;rcases hk with hk|hk
  ·
    have hhl:ht≤h:=(by have:=ZQ hk;rw[hb] at this;have h5:(ht:Int)≤(h:Int):=this;omega);obtain ⟨hsn,-,-⟩:=AO hfe (cs:=pg) (W:=W) (X:=X) (Y:=Y) (BW:=w) (most:=x.most) (by omega);have hbx:Y8 pg W ht ls (((gap:Int)+(sp:Int)+1) / 2) x=JH ht (oY pg W X Y w ht ls x.most (((gap:Int)+(sp:Int)+1) / 2)):=(by unfold Y8;rw[hb];rfl);unfold oZ;rw[if_pos hk,hbx];have blank:(∀p q,p<w→q<h→KU ls ht gap sp x (dQ l x.name) p q=false)→oY pg W X Y w ht ls x.most (((gap:Int)+(sp:Int)+1) / 2)=[]:=fun hbl=>by
     unfold oY;refine T7 fun p q hp hq => ?_;rw[NW p q hp hq];unfold kR;rw[hpx p q hp (by omega)];exact hbl p q hp (by omega)
    cases ho:dQ l x.name with
    |none=>rw[ho] at blank;rw[blank fun p q _ _=>rfl];rfl
    |some v=>
     rw[ho] at blank hpx;have hwv:=GJ hw hL hx ho;show _=((x.name,v.text,v.marks,1000):VP);rw[aCz v ho];by_cases ht0:v.text=[]
     ·rw[blank fun p q _ _=>by unfold KU;simp[ht0],ht0];rfl
     ·have hd:=hwv.drawn ht0;obtain ⟨hf1,hf2⟩:=AM hd hb;unfold iP at hd;rw[if_pos hk] at hd;by_cases hse:jN ls ht gap sp v.text=0;case neg=>rw[if_neg hse] at hd;exact absurd hd hse
      have hte:iC ls v.text=0:=by
       unfold jN at hse;split at hse
       ·assumption
       ·assumption
      unfold iC at hte;have hsp:=bA hte (aF (!(fT ls v.text).isSome) 10) (by simp);have hle:=bA hte (fU v.text) (by simp);obtain ⟨il,hil⟩:∃il,fT ls v.text=some il:=by
       cases hc:fT ls v.text with
       |none=>rw[hc] at hsp;exact absurd hsp (by decide)
       |some il=>exact ⟨il,rfl⟩
      have K4:lR v.text=false:=by
       unfold fU at hle;exact iB (by decide) (bA hle (aF (lR v.text) 2) (by simp))
      have aJg:nH ls gap sp v.text=(dT ls gap sp (0,false) il).1:=(by unfold nH;rw[mA hil]);unfold fF at hf1;rw[if_pos hk] at hf1;have hgr:eS w ht (kR pg W X Y)=eS w ht (sO ls (cJ ls gap sp (0,false) il)):=qC _ _ _ _ fun p q hp hq=>by
       unfold kR;rw[hpx p q hp (by omega)];rw[EC ht0];unfold fF gQ oX;rw[if_pos hk,if_pos hk,if_pos hk,aLX (show q<ht from hq)];unfold oA;rw[mA hil];by_cases hpw:p<nH ls gap sp v.text
       ·rw[aLX hpw,iS _ _ _ p q hpw hq];rfl
       ·rw[aLW hpw];symm;show sO ls (cJ ls gap sp (0,false) il) p q=false;cases hc:sO ls (cJ ls gap sp (0,false) il) p q with
        |false=>rfl
        |true=>exfalso;unfold sO at hc;obtain ⟨a,ha1,ha2⟩:=aLP.1 hc;unfold BD at ha2;simp only[aLV,decide_eq_true_eq] at ha2;have:=pM (ls:=ls) (gap:=gap) (sp:=sp) il (0,false) a ha1;rw[←aJg] at this;omega
      obtain ⟨r1,r2⟩:=YQ hR hI hT hil ht0 K4 (W:=w) (by rw[←aJg];exact hf1) hok.most.1 (bs:=eS w ht (kR pg W X Y)) hgr;rw[YR (ss:=oY pg W X Y w ht ls x.most (((gap:Int)+(sp:Int)+1) / 2)) r2 r1 hsn.says hsn.line]
  ·
    have hk1:x.kind≠1:=(by omega);have hbx:Y9 pg W x=KQ (h:Int) (jP (eS w h (kR pg W X Y)) w h) (decide (true∈eS w h (kR pg W X Y))):=(by unfold Y9 aBy;rw[hb];rfl);unfold oZ;rw[if_neg hk1,if_pos hk,hbx];have blank:(∀p q,p<w→q<h→KU ls ht gap sp x (dQ l x.name) p q=false)→KQ (h:Int) (jP (eS w h (kR pg W X Y)) w h) (decide (true∈eS w h (kR pg W X Y)))=([],1000):=fun hbl=>by
     have hz:∀p q,p<w→q<h→kR pg W X Y p q=false:=fun p q hp hq=>(by unfold kR;rw[hpx p q hp hq];exact hbl p q hp hq);rw[KT (by omega) (by omega) (fun p q hp hq=>by rw[NW p q hp hq];exact hz p q hp hq),aLW (GK hz)];rfl
    cases ho:dQ l x.name with
    |none=>rw[ho] at blank;rw[blank fun p q _ _=>rfl];rfl
    |some v=>
     rw[ho] at blank hpx;have hwv:=GJ hw hL hx ho;show _=((x.name,v.text,v.marks,1000):VP);rw[aCz v ho];by_cases ht0:v.text=[]
     ·rw[blank fun p q _ _=>by unfold KU;simp[ht0],ht0]
     ·have hd:=hwv.drawn ht0;obtain ⟨hf1,-⟩:=AM hd hb;unfold iP at hd;rw[if_neg hk1] at hd;by_cases hce:iK v.text=0;case neg=>rw[if_neg hce] at hd;exact absurd hd hce
      unfold fF at hf1;rw[if_neg hk1] at hf1;have hbH:x.box.H.toNat=h:=(by rw[hb];rfl);obtain ⟨k0,hk0⟩:∃k0:Int,∀q,q<h→∃X' V,iQ (eS w h (kR pg W X Y)) w q=[⟨k0,v.text,X',q,V,1⟩]:=by
       refine ⟨if uR v.text 13=true then 1 else 2,fun q hq => ?_⟩;unfold iQ;refine YZ hce hf1 fun p hp => ?_;rw[NW p q hp hq];unfold kR;rw[hpx p q hp hq];rw[EC ht0];unfold fF gQ oX;rw[if_neg hk1,if_neg hk1,if_neg hk1,hbH,aLX hq];by_cases hpw:p<(lV v.text).length
       ·rw[aLX hpw,iS _ _ _ p q hpw hq];rfl
       ·rw[aLW hpw];rfl
      obtain ⟨c,hc1,hc2,hc3⟩:=TY (by omega) ⟨h2,by omega⟩ hk0;rw[YW hc1 hc3 h2,hc2]
theorem QH {l:List Int} {d:Int} (h:∀x∈l,x=d) (h0:l=[]→d=0):uC l=d:=by
 by_cases hn:l=[]
 ·rw[hn,FK,h0 hn]
 ·have hp:0<l.length:=List.length_pos_iff.2 hn;exact h _ (IC.1 (List.mem_of_getElem? (WC hp)))
theorem T9 {bs:List Bool} {W H:Nat} {X Y BW BH:Int} (h:BoundsIs bs W H true X Y BW BH) {u v:Nat} (hu:u<W) (hv:v<H) (hp:pix bs W u v=true):X≤(u:Int)∧(u:Int)<X+BW∧Y≤(v:Int)∧(v:Int)<Y+BH:=by
 rcases h with ⟨h0,-⟩|⟨-,l,r,t,b,⟨⟨-,-,h1⟩,-,-,h2⟩,⟨⟨-,-,h3⟩,-,-,h4⟩,rfl,rfl,rfl,rfl⟩
 ·cases h0
 ·have hc:0<lP bs W H u:=(gZ bs W H u).2 ⟨v,hv,hp⟩;have hr:0<aD5 bs W v:=(sW bs W v).2 ⟨u,hu,hp⟩;have a1:l≤u:=by
   apply Classical.byContradiction;intro hn;have:=h1 u (by omega);omega
  have a2:u≤r:=by
   apply Classical.byContradiction;intro hn;have:=h2 u (by omega) hu;omega
  have a3:t≤v:=by
   apply Classical.byContradiction;intro hn;have:=h3 v (by omega);omega
  have a4:v≤b:=by
   apply Classical.byContradiction;intro hn;have:=h4 v (by omega) hv;omega
  omega
def wR (bs:List Bool) (W H:Nat) (dx dy:Int):List Bool:=eS W H (fZ (List.replicate (W*H) false) bs W H W H dx dy)
theorem UA {f : Frm} {W H r : Nat} {bs : List Bool} {X Y BW BH dx dy : Int} (cM : Fits f W H r) (hl : bs.length = W * H) (hb : BoundsIs bs W H true X Y BW BH) (hx : 0 ≤ X + dx ∧ X + BW + dx ≤ W) (hy : 0 ≤ Y + dy ∧ Y + BH + dy ≤ H)
 (aCA:∀a∈f.la,(dM f (wR bs W H dx dy) a).1=dx∧(dM f (wR bs W H dx dy) a).2.1=dy) (h0:f.la=[]→dx=0∧dy=0):rL f (wR bs W H dx dy)=bs:=by
 have e1:uC (ZV f (wR bs W H dx dy))=dx:=QH (fun x hx=>by
  unfold ZV at hx;obtain ⟨a,ha,rfl⟩:=aMf.1 hx;exact (aCA a ha).1) (fun h=>(h0 (List.map_eq_nil_iff.1 h)).1)
 have e2:uC (ZW f (wR bs W H dx dy))=dy:=QH (fun x hx=>by
  unfold ZW at hx;obtain ⟨a,ha,rfl⟩:=aMf.1 hx;exact (aCA a ha).2) (fun h=>(h0 (List.map_eq_nil_iff.1 h)).2)
 unfold rL;rw[e1,e2,cM.fW,cM.fH,aL8,aL8];have hg:=N8 W H bs hl;conv=>rhs;rw[←hg]
 refine qC _ _ _ _ fun u v hu hv => ?_;unfold CQ;rw[show (u:Int) - -dx=(u:Int)+dx by omega,show (v:Int) - -dy=(v:Int)+dy by omega];by_cases hin:0≤(u:Int)+dx∧(u:Int)+dx<(W:Int)∧0≤(v:Int)+dy∧(v:Int)+dy<(H:Int)
 ·obtain ⟨p,hp⟩:=Int.eq_ofNat_of_zero_le hin.1;obtain ⟨q,hq⟩:=Int.eq_ofNat_of_zero_le hin.2.2.1;have hpW:p<W:=(by omega);have hqH:q<H:=(by omega);rw[hp,hq,CC _ _ _ _ _ hpW hqH];unfold wR;rw[iS W H _ p q hpW hqH,wH bs W H dx dy p q hpW hqH];unfold CQ;rw[show (p:Int)-dx=(u:Int) by omega,show (q:Int)-dy=(v:Int) by omega,CC _ _ _ _ _ hu hv]
 ·rw[uG _ _ _ _ _ hin];symm;cases hc:pix bs W u v with
  |false=>rfl
  |true=>have:=T9 hb hu hv hc;omega
def wT (f:Frm) (cs:List Bool) (ht gap sp:Int) (ls:List Ltr):List VP:=f.lf.map (oZ (rL f cs) f.W.toNat f.dark ht.toNat ls ((gap+sp+1) / 2))
theorem ZC (f : Frm) (bW bH : Int) (C : Option Addr) (n cc : Nat) (cs : List Bool) (fnm : List UInt8) (ht gap sp : Int) (L : Option Addr) (lc : Nat) (ls : List Ltr) (w : World) (hF : FrmAt w f) (hS : f.small 1048576) (hN : NumOk w) (hC : SplitOk w) (hT : SpOk w)
 (hL:LtrsAt w L ls) (hnm:fnm.length≤9223372036854775807) (hn:ls.length≤9223372036854775807) (hR:Reads w 1 C n (cs.map .bool)) :
 Calls Tryz.prog 16 #[f.val, .agg #[bW, bH, .slice C n cc], .agg #[fnm, ht, gap, sp, .slice L ls.length lc]] w
  fun e w'=>FReadRes (t6 f.err (bN (dA fnm) ht gap sp ls) (rE f.W f.H bW bH n) (UP ht f.lf)) (wT f cs ht gap sp ls) e w'∧Bl w w':=by
 by_cases h:f.err=0∧bN (dA fnm) ht gap sp ls=0∧rE f.W f.H bW bH n=0
 ·obtain ⟨h1,h2,h3⟩:=h;have hw:AC f bW bH n=0:=(by unfold AC;rw[if_pos h1];exact h3);obtain ⟨-,W,H,r,cM,rfl,rfl,rfl⟩:=PL hw;obtain ⟨⟨-,hq2,-⟩,-⟩:=kD h2;unfold fY at hq2;rw[aLV,aLV,aR,aR,aR] at hq2;obtain ⟨ht',rfl⟩:=Int.eq_ofNat_of_zero_le (show 0≤ht by omega);obtain ⟨gap',rfl⟩:=Int.eq_ofNat_of_zero_le (show 0≤gap by omega);obtain ⟨sp',rfl⟩:=Int.eq_ofNat_of_zero_le (show 0≤sp by omega);have e1:t6 f.err (bN (dA fnm) ht' gap' sp' ls) (rE f.W f.H W H (W*H)) (UP ht' f.lf)=aF (UP ht' f.lf) 15:=by
   unfold t6;rw[if_pos h1,if_pos h2,if_pos h3]
  have e2:wT f cs ht' gap' sp' ls=f.lf.map (oZ (rL f cs) W f.dark ht' ls (((gap':Int)+(sp':Int)+1) / 2)):=by
   unfold wT;rw[cM.fW,aL8,aL8]
  rw[e1,e2];exact aBA f W H r C cc cs fnm ht' gap' sp' L lc ls w h1 cM hF hS hN hC hT hL hnm hn h2 h3 hR
 ·exact ZA f bW bH C n cc fnm ht gap sp L lc ls _ _ w hF hS hN hC hL hnm hn h
theorem AP (w:World):Calls Tryz.prog 30 #[] w fun e w'=>e=.returned (.bool true)∧Bl w w':=by
 have h:=fun w=>qJ ⟨#[97]⟩ w (by decide);have hn:dA (⟨#[97]⟩:ByteArray).data.toList=true:=(by decide);rw[hn] at h
 go_in
 go_wp2_with fail;refine (h _).mono ?_;rintro e w1 ⟨rfl,hb⟩;go_wp2_with fail;go_ret;exact ⟨rfl,hb⟩
theorem GL (b:Nat) (v y:Vlu) (w:World) (hb:Blk w b 69 #[v.field,v.text,.slice v.M v.marks.length v.mc,v.sure]) :
 Calls Tryz.prog 38 #[y.val,.pointer (some ⟨b,0,none⟩)] w fun e w'=>e=.returned (.bool (pW v.field y))∧Bl w w':=by
 have k1:=hb.all4;have hlt:=hb.lt;obtain ⟨nm,hnm⟩:=aLt v.field;rw[←hnm] at k1 ⊢;clear hnm hb;unfold Vlu.val pW;by_cases he:y.field=nm
 ·rw[aLX he]
  go_in
  go_wp2_with fail;go_ret;exact ⟨by simp[he],(Bl.refl _).alloc _⟩
 ·rw[aLW he]
  go_in
  go_wp2_with fail;go_ret;exact ⟨by simp[he],(Bl.refl _).alloc _⟩
theorem AQ (b:Nat) (v:Vlu) (ls:List Vlu) (w:World) (hb:Blk w b 69 #[v.field,v.text,.slice v.M v.marks.length v.mc,v.sure]):TestsG Vlu.val Tryz.prog 38 #[.pointer (some ⟨b,0,none⟩)] w ls (pW v.field):=
 ⟨pD Tryz.func38 (by kernel_rfl) rfl,fun wy y hy _=>GL b v y wy (hb.bl hy)⟩
theorem UB {l:List Vlu} {nm:List UInt8} {i:Int} (h:FirstG l (pW nm) i):(i<0∧dQ l nm=none)∨∃(j:Nat) (v:Vlu),i=(j:Int)∧l[j]? = some v∧dQ l nm=some v:=by
 rcases h with ⟨rfl,h⟩|⟨j,v,rfl,hv,hp,hn⟩
 ·refine .inl ⟨by omega,?_⟩;unfold dQ;rw[List.find?_eq_none];intro v hv hc;have:=h v hv;unfold pW at this;rw[hc] at this;cases this
 ·refine .inr ⟨j,v,rfl,hv,?_⟩;unfold dQ;rw[List.find?_eq_some_iff_getElem];obtain ⟨hj,he⟩:=aLw.1 hv;refine ⟨hp,j,hj,he,fun k hk => ?_⟩;have h1:=hn k (l[k]'(by omega)) hk (aLv (by omega));unfold pW at h1;simpa using h1
theorem qB (f : Frm) (A : Option Addr) (c : Nat) (l : List Vlu) (fnm : List UInt8) (ht gap sp : Int) (L : Option Addr) (lc : Nat) (ls : List Ltr) (dx dy : Int) (E : Int) (W H : Nat) (BS : List Bool) (w : World)
 (AY:∀wx,Bl w wx→Calls Tryz.prog 31 #[f.val,.slice A l.length c,.agg #[fnm,ht,gap,sp,.slice L ls.length lc]] wx fun e w'=>DrawnRes wx.heap.size E W H BS e w'∧Bl wx w') (hE:E≠0) :
 Calls Tryz.prog 5 #[f.val,.slice A l.length c,.agg #[fnm,ht,gap,sp,.slice L ls.length lc],dx,dy] w fun e w'=>e=.returned (.bool true)∧Bl w w':=by
 obtain ⟨nm',fW,fH,reach,dark,AL,ac,la,FL,fc,lf,RL,rc,lr⟩:=f;let w1:=((w).alloc (.cells #[nm',fW,fH,reach,dark,.slice AL la.length ac,.slice FL lf.length fc,.slice RL lr.length rc] 26)).alloc (.cells #[fnm,ht,gap,sp,.slice L ls.length lc] 46);obtain ⟨w1b,w11,w12⟩:=aLi (x:=w1) w _ _ _ _ rfl;unfold Frm.val at AY;have aD1:=aLa AY;have dV:=aLa w1b;have q:(E != 0)=true:=(by simp[hE]);have k1:=w11.all8;have k2:=w12.all5;unfold Frm.val;clear AY w1b
 go_in
 go_upto_region 1 with fail;rw[show (w.alloc (.cells #[nm',fW,fH,reach,dark,.slice AL la.length ac,.slice FL lf.length fc,.slice RL lr.length rc] 26)).alloc (.cells #[fnm,ht,gap,sp,.slice L ls.length lc] 46)=w1 from rfl];clear_value w1;go_upto_region 3 with (go_at_call 30;refine (AP _).mono ?_;rintro e w2 ⟨rfl,hb2⟩);have Hb2:=aLa hb2;have k1:=(w11.bl hb2).all8;have k2:=(w12.bl hb2).all5;clear hb2;go_upto_region 4 with (go_at_call 31;refine (aD1.out _ (dV.out.trans Hb2.out)).mono ?_;rintro e w3 ⟨⟨a,b,R,m,d,rfl,lQ⟩,hb3⟩);go_wp2_with fail;go_ret;exact ⟨rfl,dV.out.trans (Hb2.out.trans (hb3.alloc _))⟩
theorem aBC (a b c d e:Int):∃q:Bool,(q=false→a=d∧b=e)∧∀w:World,(binOp .neq 87 (.agg #[a,b,c]) (.agg #[d,e,.int .i64 0])).run Tryz.prog w=.ok (.bool q) w:=by
 have u3:=Tryz.underlying3;have a3:=Tryz.isAgg3;have z3:=Tryz.sizeOf3;by_cases h1:a=d
 ·subst h1;by_cases h2:b=e
  ·subst h2;by_cases h3:c=0
   ·subst h3;exact ⟨false,fun _=>⟨rfl,rfl⟩,fun w=>by
     rw[run_neq_struct,show (10000:Nat)=9999+1 from rfl,run_equalIn_agg w 9999 _ _ _ (by kernel_rfl) (by kernel_rfl)];simp only[Program.fieldsOf,Tryz.underlying87];go_simp⟩
   ·exact ⟨true,by simp,fun w=>by
     rw[run_neq_struct,show (10000:Nat)=9999+1 from rfl,run_equalIn_agg w 9999 _ _ _ (by kernel_rfl) (by kernel_rfl)];simp only[Program.fieldsOf,Tryz.underlying87];go_simp⟩
  ·exact ⟨true,by simp,fun w=>by
    rw[run_neq_struct,show (10000:Nat)=9999+1 from rfl,run_equalIn_agg w 9999 _ _ _ (by kernel_rfl) (by kernel_rfl)];simp only[Program.fieldsOf,Tryz.underlying87];go_simp⟩
 ·exact ⟨true,by simp,fun w=>by
   rw[run_neq_struct,show (10000:Nat)=9999+1 from rfl,run_equalIn_agg w 9999 _ _ _ (by kernel_rfl) (by kernel_rfl)];simp only[Program.fieldsOf,Tryz.underlying87];go_simp⟩
end Go.Proofs.YtllefinciimffaaGreatDoor
