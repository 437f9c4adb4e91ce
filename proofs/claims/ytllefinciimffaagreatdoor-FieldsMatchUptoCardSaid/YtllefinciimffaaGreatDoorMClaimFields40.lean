import Derived.Test.YtllefinciimffaaGreatDoorMClaimFields39
set_option maxHeartbeats 20000000
set_option maxRecDepth 100000
namespace Go.Proofs.YtllefinciimffaaGreatDoor
open Go.RowKit Go.Shelf
theorem LL {SS:List Sn} {i:Nat} {s:Sn} (h:SS[i]? = some s):eV (SS.take (i+1))=eV (SS.take i)++s.t:=by
 rw[eN h];unfold eV;rw[aIL];simp
theorem LM {ht:Nat} {SS:List Sn} (h:FieldSeen ht SS):(eV SS).length≤4*8000:=by
 refine aII ?_ (aIH (Nat.le_refl 4) h.len);unfold eV;rw[List.length_flatMap];exact sL fun s hs=>(h.line s hs).ok.1
theorem Q0 (a b:List UInt8):(ByteArray.mk a.toArray++ByteArray.mk b.toArray)=ByteArray.mk (a++b).toArray:=by
 apply ByteArray.ext;simp[ByteArray.data_append]
theorem mA {w:World} {b g i:Nat} {e T:TypeId} {s n:Nat} {v:Value} {xs:List Value} {cs:Array Value} (h:w.ownsRow b e s v n xs) (hb:Blk w g T cs) (hne:e≠T) (u:Value):(w.setCell ⟨g,i,none⟩ u).ownsRow b e s v n xs:=by
 refine ⟨h.1,?_⟩;rcases h.2 with h2|⟨g',cap,cur,hv,hB,hh,r⟩
 ·exact .inl h2
 ·refine .inr ⟨g',cap,cur,hv,hB,(Below.heap_setCell w ⟨g,i,none⟩ u g' ?_).trans hh,r⟩;intro e;have e2:g'=g:=e;subst e2;unfold Blk at hb;rw[hh] at hb;injection hb with hb;injection hb with _ hb;exact hne hb
theorem LN {w:World} {p:Nat} {T:TypeId} {a b:ByteArray} {A1:Option Addr} {m1 k1:Nat} {s1:Int} {A:Option Addr} {CS:List Cd} (hb:Blk w p T #[.string a,.string b,.slice A1 m1 k1,s1]) (hr:Reads w 6 A CS.length (aK CS)):∀ad,A=some ad→0<CS.length→ad.block≠p:=by
 intro ad hA hn hp;obtain ⟨c,hc⟩:∃c,CS[0]? = some c:=⟨CS[0],aH2 hn⟩;obtain ⟨ad2,e,h0,h1,-⟩:=O0 hr hc;rw[hA] at e;obtain rfl:=aIw e;have hbl:(ad.add (0*6)).block=p:=(gX _ _).trans hp;generalize ad.add (0*6)=z at hbl h0 h1;obtain ⟨bl,off,spot⟩:=z;have aEQ:bl=p:=hbl;subst aEQ;cases spot with
 |some x=>unfold Blk at hb;unfold World.cell? at h0;simp only[hb] at h0;cases h0
 |none=>
  rw[hb.cell] at h0;have h2:(#[Value.string a,.string b,.slice A1 m1 k1,s1]:Array Value)[off+1]? = some (.string ⟨c.t.toArray⟩):=by rw[←hb.cell];exact h1
  match off,h0,h2 with
  |0,h0,_=>simp at h0
  |1,h0,_=>simp at h0
  |2,h0,_=>simp at h0
  |3,_,h2=>simp at h2
  |n+4,h0,_=>simp at h0
theorem I5 {ht:Nat} {SS:List Sn} (h:FieldSeen ht SS) (i:Nat):(eV (SS.take i)).length≤4*8000:=by
 refine aII ?_ (aIH (Nat.le_refl 4) (aII (List.length_take_le' i SS) h.len));unfold eV;rw[List.length_flatMap];exact sL fun s hs=>(h.line s (List.mem_of_mem_take hs)).ok.1
def ValAt (wc:World) (p:Nat) (pv:VP) (x':Vlu):Prop:=Blk wc p 69 #[x'.field,x'.text,.slice x'.M x'.marks.length x'.mc,x'.sure]∧x'.plain=pv∧(∃B',wc.ownsRow B' 3 1 (.slice x'.M x'.marks.length x'.mc) x'.marks.length (x'.marks.map (.int .i64)))∧(x'.field.length≤9223372036854775807∧x'.text.length≤9223372036854775807∧x'.marks.length≤9223372036854775807)
def ValRes (pv:VP) (e:Ending) (w':World):Prop:=∃x':Vlu,e=.returned x'.val∧x'.plain=pv∧(∃B',w'.ownsRow B' 3 1 (.slice x'.M x'.marks.length x'.mc) x'.marks.length (x'.marks.map (.int .i64)))∧(x'.field.length≤9223372036854775807∧x'.text.length≤9223372036854775807∧x'.marks.length≤9223372036854775807)
theorem Q2 (f : Frm) (x : Fld) (W H : Nat) (C : Option Addr) (cc : Nat) (cs : List Bool) (fnm : List UInt8) (ht gap sp : Nat) (L : Option Addr) (lc : Nat) (ls : List Ltr) (w : World) (hs : aM (W : Int) (H : Int) = 0) (hWH : W * H ≤ 40000) (hok : FldOk x W H) (hxn : x.name.length ≤ 9223372036854775807) (hd : 1 ≤ f.dark ∧ f.dark ≤ 1000) (RV : x.kind = 1 → (ht : Int) ≤ x.box.H)
 (hM:BxsAt w x.M x.marks) (hT:SpOk w) (hL:LtrsAt w L ls) (hfe:bN (cG fnm) ht gap sp ls=0) (hC:Reads w 1 C (W*H) (cs.map .bool)) :
 Calls Tryz.prog 27 #[f.val, x.val, .agg #[W, H, .slice C (W * H) cc], .agg #[fnm, ht, gap, sp, .slice L ls.length lc]] w
  fun e w'=>ValRes (lG cs W f.dark ht ls (((gap:Int)+(sp:Int)+1) / 2) x) e w'∧Bl w w':=by
 have hz:=aR hs;have hW4:W≤4000:=(by omega);have hH4:H≤4000:=(by omega);obtain ⟨⟨hq1,hq2,hq3,hq4,hq5,aDN,aDO⟩,VJ⟩:=g9 hfe;have hrg:(1≤(gap:Int)∧(gap:Int)≤16)∧1≤(sp:Int)∧(sp:Int)≤64:=by
  unfold eT at hq2;rw[aIs,aIs,aQ,aQ,aQ] at hq2;exact hq2.2
 obtain ⟨gs,hgs⟩:=aH0 ((((gap:Int)+(sp:Int)+1) / 2):Int);rw[←hgs];obtain ⟨PV,hPV⟩:=aH0 (lG cs W f.dark ht ls gs x);rw[←hPV];have hcut:=fun (X Y bw bh:Nat) (h1:X+bw≤W) (h2:Y+bh≤H) wx (hx:Reads wx 1 C (W*H) (cs.map .bool))=>show Calls Tryz.prog 93 #[.agg #[W,H,.slice C (W*H) cc],.agg #[X,Y,bw,bh]] wx fun e w'=>∃R rc,e=.returned (.agg #[bw,bh,.slice R (bw*bh) rc])∧Reads w' 1 R (bw*bh) ((fS bw bh (iU cs W X Y)).map .bool)∧(∀ad,R=some ad→wx.heap.size≤ad.block)∧Bl wx w' from
  (wT W H X Y bw bh C cc cs wx hx hW4 hH4 h1 h2).mono fun e w' ⟨R,rc,he,hr,hn,hb⟩=>⟨R,rc,he,hr,fun ad h=>by have:=hn ad h;omega,hb⟩
 have aCD : x.kind = 1 → ∃ (X Y bw : Nat) (bh : Int) (SS : List Sn), x.box = ⟨X, Y, bw, bh⟩ ∧ X + bw ≤ W ∧ Y + ht ≤ H ∧ FieldSeen ht SS ∧ PV = (x.name, (VA ht SS).1, [], (VA ht SS).2) ∧
  (∀(A:Option Addr) (c:Nat) wx,LtrsAt wx L ls→Reads wx 1 A (bw*ht) ((fS bw ht (iU cs W X Y)).map .bool)→Calls Tryz.prog 94 #[.agg #[fnm,ht,gap,sp,.slice L ls.length lc],.agg #[bw,ht,.slice A (bw*ht) c],x.most] wx fun e w'=>∃R d,e=.returned (.slice R SS.length d)∧Reads w' 7 R SS.length (iN SS)∧(∀ad,R=some ad→wx.heap.size≤ad.block)∧Bl wx w'):=fun hk=>by
  obtain ⟨X,Y,bw,bh,hb,h1,h2,h3,h4⟩:=(hok.box (by rw[hk];rfl)).inW;have hlw:=RV hk;rw[hb] at hlw;have hlw2:(ht:Int)≤(bh:Int):=hlw;obtain ⟨h5,h6,h7⟩:=zC hfe (cs:=cs) (W:=W) (X:=X) (Y:=Y) (BW:=bw) (most:=x.most) (by omega);rw[←hgs] at h5 h6 h7;obtain ⟨SS,hSS⟩:=aH0 (sM cs W X Y bw ht ls x.most gs);rw[←hSS] at h5 h6 h7;refine ⟨X,Y,bw,bh,SS,hb,h3,by omega,h5,?_,fun A c wx hLx hA => ?_⟩
  ·rw[hPV];unfold lG;rw[if_pos hk];unfold X7;rw[hb,X4 h5.says h5.line (by omega),hSS];rfl
  ·refine (O3 fnm ht gap sp L lc ls bw ht A c (fS bw ht (iU cs W X Y)) x.most wx hLx hA (by omega) (by omega) (by omega) (fun l hl=>⟨(VJ l hl).2.1,(VJ l hl).2.2.2⟩) (by omega) hok.most (by omega)).mono ?_;rintro e w' ⟨v,rfl,aV,hbl⟩;obtain ⟨R,d,rfl,hr,hrn⟩:=jP aV;rw[←hgs] at hr;rw[←hgs];rw[show (bK (gN (fS bw ht (iU cs W X Y)) bw ht ls x.most ht) gs ht (aD (kH (fS bw ht (iU cs W X Y)) bw ht) bw) (aD (kH (fS bw ht (iU cs W X Y)) bw ht) bw).length).flatten=iN SS from h6] at hr;rw[show (bK (gN (fS bw ht (iU cs W X Y)) bw ht ls x.most ht) gs ht (aD (kH (fS bw ht (iU cs W X Y)) bw ht) bw) (aD (kH (fS bw ht (iU cs W X Y)) bw ht) bw).length).length=SS.length from h7] at hr ⊢;exact ⟨R,d,rfl,hr,hrn,hbl⟩
 have aCE : x.kind = 2 → ∃ (X Y bw bh : Nat) (PB : List Bool) (CS : List Cd), x.box = ⟨X, Y, bw, bh⟩ ∧ (X + bw ≤ W ∧ Y + bh ≤ H ∧ 1 ≤ bw ∧ 1 ≤ bh) ∧ PB = fS bw bh (iU cs W X Y) ∧ ((∀ c ∈ CS, (1 ≤ c.n ∧ c.n ≤ 10000000000)) ∧ CS.length ≤ 10000) ∧ (∀ c ∈ CS, c.t.length ≤ 9223372036854775807) ∧ PV = (x.name, (LH bh CS (decide (true ∈ PB))).1, [], (LH bh CS (decide (true ∈ PB))).2) ∧
  (∀(A:Option Addr) (c:Nat) wx,SpOk wx→Reads wx 1 A (bw*bh) (PB.map .bool)→Calls Tryz.prog 95 #[.agg #[bw,bh,.slice A (bw*bh) c],.int .i64 1] wx fun e w'=>∃R d,e=.returned (.slice R CS.length d)∧Reads w' 6 R CS.length (aK CS)∧Bl wx w'):=fun hk=>by
  obtain ⟨X,Y,bw,bh,hb,h1,h2,h3,h4⟩:=(hok.box (by rw[hk];rfl)).inW;have hm:bh*(bw+1)≤60000:=by
   have:=aIH (show bw≤W by omega) (show bh≤H by omega);rw[Nat.mul_add,Nat.mul_one,Nat.mul_comm];omega
  refine ⟨X,Y,bw,bh,_,iF (fS bw bh (iU cs W X Y)) bw bh,hb,⟨h3,h4,h1,h2⟩,rfl,I0 (by omega) (by omega),zA (by omega) (by omega),?_,fun A c wx hTx hA=>QY bw bh A c _ wx hA (by omega) (by omega) hm hTx⟩;rw[hPV];unfold lG;rw[if_neg (by rw[hk];decide),if_pos hk];unfold X8 X6;rw[hb];rfl
 have aA1 : x.kind ≠ 1 → x.kind ≠ 2 → ∃ MT : List Int, MT.length ≤ 20 ∧ PV = (x.name, [], MT, if x.kind = 3 ∧ 1 < MT.length then 0 else 1000) ∧
  (∀wx,BxsAt wx x.M x.marks→Reads wx 1 C (W*H) (cs.map .bool)→Calls Tryz.prog 23 #[f.val,x.val,.agg #[W,H,.slice C (W*H) cc]] wx fun e w'=>∃v,e=.returned v∧w'.ownsRow wx.heap.size 3 1 v MT.length (MT.map (.int .i64))∧Bl wx w'):=fun h1 h2=>by
  refine ⟨dA cs W f.dark x.marks x.marks.length,aII (gC _ _ _ _ _) hok.m20,?_,fun wx hMx hCx=>uS f x W H C cc cs wx hs hMx hok.marks hok.m20 hd hCx⟩;rw[hPV];unfold lG;rw[if_neg h1,if_neg h2]
 have hkd:=hok.kind;obtain ⟨nm',fW,fH,reach,dark,AL,ac,la,FL,fc,lf,RL,rc,lr⟩:=f;let w1:=(((((w).alloc (.cells #[nm',fW,fH,reach,dark,.slice AL la.length ac,.slice FL lf.length fc,.slice RL lr.length rc] 26)).alloc (.cells #[x.name,x.kind,x.box.X,x.box.Y,x.box.W,x.box.H,.slice x.M x.marks.length x.mc,x.most,.bool x.needed] 61)).alloc (.cells #[W,H,.slice C (W*H) cc] 43)).alloc (.cells #[fnm,ht,gap,sp,.slice L ls.length lc] 46)).alloc (.cells #[.string ⟨#[]⟩,.string ⟨#[]⟩,.slice none 0 0,.int .i64 0] 69);obtain ⟨w1b,w11,w12,w13,w14,w15⟩:=aHS (x:=w1) w _ _ _ _ _ _ _ _ _ _ rfl;unfold Frm.val at aA1;have k1:=w11.all8;have k2:=w12.all9;have k3:=w13.all3;have k4:=w14.all5;obtain ⟨dM,HL,HC,HT,HM,aCX,aA2,aA3⟩:=aHN w1b (hL.bl w1b) (hC.bl w1b) (hT.bl w1b) (hM.bl w1b) hcut aCD aCE;obtain ⟨aA4,Hxn,R1⟩:=aHI aA1 hxn w15;unfold Frm.val Fld.val at *;clear hL hC hT hM hcut aCD aCE aA1 hPV hgs hrg w1b hfe VJ hs hz hok hxn hd RV hq1 hq2 hq3 hq4 hq5
 go_in
 go_upto_region 1 with fail;rw[show ((((w.alloc (.cells #[nm',fW,fH,reach,dark,.slice AL la.length ac,.slice FL lf.length fc,.slice RL lr.length rc] 26)).alloc (.cells #[x.name,x.kind,x.box.X,x.box.Y,x.box.W,x.box.H,.slice x.M x.marks.length x.mc,x.most,.bool x.needed] 61)).alloc (.cells #[W,H,.slice C (W*H) cc] 43)).alloc (.cells #[fnm,ht,gap,sp,.slice L ls.length lc] 46)).alloc (.cells #[.string ⟨#[]⟩,.string ⟨#[]⟩,.slice none 0 0,.int .i64 0] 69)=w1 from rfl];clear_value w1;go_upto_region 2 with fail;obtain ⟨p,hp⟩:=aH0 w1.heap.size;obtain ⟨w2,hw2⟩:=aH0 (w1.alloc (.cells #[x.name,.string ⟨#[]⟩,.slice none 0 0,.int .i64 1000] 69));have bp:=aHW hw2 hp;have hb2:=aHU hw2;rw[←hw2,←hp];obtain ⟨Hb2,BP,Hp⟩:=aHI hb2 bp hp;have k2:=(w12.bl hb2).all9;have k3:=(w13.bl hb2).all3;have k4:=(w14.bl hb2).all5;have k5:=bp.all4;clear hw2 hp bp hb2 k1;go_cut [23] from 22 to 23 (fun s wc=>s=.int .i64 x.kind∧w2=wc);case first=>
  go_wp2_with fail;go_meet;case rel=>exact ⟨rfl,rfl⟩
 case rest=>
 obtain ⟨rfl,rfl⟩:=hcut;go_step;go_cut [1,23] from 10 to 147 (fun s1 s23 wc=>∃x':Vlu,ValAt wc p PV x'∧Bl w1 wc);case first=>
  by_cases hk:x.kind=1
  ·obtain ⟨X,Y,bw,bh,SS,hbx,h1,h2,JD,hPV,cI⟩:=aA2.out hk;obtain ⟨Hsc,HSn,HPV,Hcu⟩:=aHJ cI JD hPV (aCX.out X Y bw ht h1 h2 w2 (HC.out.bl Hb2.out));obtain ⟨PB,hPB⟩:=aH0 (fS bw ht (iU cs W X Y));rw[←hPB] at Hcu Hsc;rw[hbx] at k2;simp only at k2;have hln:=JD.len;clear cI JD hPV hPB aA3 aA4;go_upto_region 7 with fail;go_upto_region 8 with (go_at_call 93;refine Hcu.out.mono ?_;rintro e w3 ⟨R3,c3,rfl,hr3,-,hb3⟩);obtain ⟨w4,hw4⟩:=aH0 (w3.alloc (.cells #[bw,ht,.slice R3 (bw*ht) c3] 43));have b4:=aHV hw4;have hb4:=aHU hw4;rw[←hw4];have Hb4:=aHH (hb3.trans hb4);have aHk:=aHH (Hsc.out R3 c3 w4 (HL.out.bl (Hb2.out.trans Hb4.out)) (hr3.bl hb4));have k2:=(w12.bl (Hb2.out.trans Hb4.out)).all9;have k4:=(w14.bl (Hb2.out.trans Hb4.out)).all5;have k6:=b4.all3;clear hw4 b4 hb4 hb3 hr3 k3;go_upto_region 9 with fail;go_wp2_with (go_at_call 94;refine aHk.out.mono ?_;rintro e w5 ⟨R5,d5,rfl,hr5,aF3,hb5⟩;obtain ⟨Hb5,HR5,HRn⟩:=aHI (Hb4.out.trans hb5) hr5 aF3;clear hb5 hr5 aF3);have HNe:=aHH (show ∀ad,R5=some ad→p<ad.block from fun ad h=>by have h1:=HRn.out ad h;have h2:=Hb4.out.le;have h3:=BP.out.lt;omega);go_loopw [11,12,61] (fun a b u wr=>∃i:Nat,i≤SS.length∧u=.int .i64 i∧a=.int .i64 (jX SS i)∧b=.int .i64 ((ht:Int)*eY SS i)∧Blk wr p 69 #[x.name,.string ⟨(eV (SS.take i)).toArray⟩,.slice none 0 0,.int .i64 (if tW SS i=true then 0 else 1000)]∧Reads wr 7 R5 SS.length (iN SS)∧Bl w1 wr) (fun _ _ u _=>SS.length-(RowKit.intOf u).toNat);case atStart=>exact ⟨0,Nat.zero_le _,rfl,rfl,by show _=Value.int .i64 ((ht:Int)*0);rw[Int.mul_zero],BP.out.bl Hb5.out,HR5.out,Hb2.out.trans Hb5.out⟩
   case round=>
    rename World=>wr;obtain ⟨i,hi,rfl,rfl,rfl,hbp,hr7,hbr⟩:=hrel;have k4:=(w14.bl hbr).all5;have k5:=hbp.all4;have hfb:=yA HSn.out.line i;have hwb:=r7 HSn.out.line i;have hab:=LJ (a:=(ht:Int)) (b:=eY SS i) (A:=64) (B:=4000*8000) (by omega) (by omega) (by decide);by_cases hlt:i<SS.length
    ·have hg:SS[i]? = some SS[i]:=aH2 hlt;obtain ⟨s,hs0⟩:=aH0 (SS[i]);rw[←hs0] at hg;have hsl:=HSn.out.line s (List.mem_of_getElem? hg);have hsd:=hsl.ok.2.1;have hs4:=hsl.ok.1;have hT4:=I5 HSn.out i;have hsW:=hsl.W;have HF:=aHH (qN hg);have hLo:=CG hg;have hTx:=LL hg;have hA1:(ht:Int)*eY SS (i+1)=(ht:Int)*eY SS i+if fN s=true then 0 else (ht:Int)*s.W:=by
      rw[kY hg,Int.mul_add];split
      ·rw[Int.mul_zero]
      ·rfl
     have HA:=aHH hA1;obtain ⟨F0,hF0⟩:=aH0 (jX SS i);obtain ⟨A0,hA0⟩:=aH0 ((ht:Int)*eY SS i);obtain ⟨T0,hT0⟩:=aH0 (eV (SS.take i));obtain ⟨U0,hU0⟩:∃z:Int,z=if tW SS i=true then 0 else 1000:=⟨_,rfl⟩;obtain ⟨lz,hlz⟩:∃z,z=(decide (s.t=[63])&&decide (s.d<0)):=⟨_,rfl⟩;have hU1:(if tW SS (i+1)=true then 0 else 1000:Int)=if lz=true then 0 else U0:=by
      rw[hLo,←hlz,hU0];cases tW SS i<;>cases lz<;>rfl
     obtain ⟨U1,aER⟩:∃z:Int,z=if tW SS (i+1)=true then 0 else 1000:=⟨_,rfl⟩;rw[←aER] at hU1;rw[←hF0] at HF hfb ⊢;rw[←hA0] at HA hab ⊢;rw[←hT0] at hTx hbp k5 hT4;rw[←hU0] at hbp k5;obtain ⟨HU,HUe,HTx,Hlz⟩:=aHJ hU1 aER hTx hlz;obtain ⟨ad,rfl,x0,x1,x2,x3,x4,x5,x6⟩:=aAd hr7 hg;have Hbp:=aHH hbp;have Hr7:=aHH hr7;clear hs0 hg hsl hF0 hA0 hT0 hU0 hU1 aER hLo hTx hA1 hlz hbp hr7 hwb;go_upto_region 12 with fail;obtain ⟨q,hq⟩:=aH0 wr.heap.size;obtain ⟨w7,hw7⟩:=aH0 (wr.alloc (.cells #[.string ⟨s.t.toArray⟩,.int .i64 s.X,.int .i64 s.Y,.int .i64 s.W,.int .i64 s.H,.int .i64 s.d,.int .i64 s.e] 157));have bq:=aHW hw7 hq;have hb7:=aHU hw7;rw[←hw7,←hq];have hqp:q≠p:=(by have:=Hbp.out.lt;omega);obtain ⟨BP7,HR7,Hb7⟩:=aHI (Hbp.out.bl hb7) (Hr7.out.bl hb7) (hbr.trans hb7);have k1:=bq.all7';have k4:=(w14.bl Hb7.out).all5;have k5:=BP7.out.all4;have BQ:=aHH bq;clear hw7 hq x0 x1 x2 x3 x4 x5 x6 bq hb7 Hbp Hr7 hbr;go_upto_region 13 with fail;obtain ⟨w8,hw8⟩:=aH0 (w7.setCell ⟨p,1,none⟩ (.string (⟨T0.toArray⟩++⟨s.t.toArray⟩)));have b8:Blk w8 p 69 #[x.name,.string ⟨(T0++s.t).toArray⟩,.slice none 0 0,U0]:=(by rw[hw8,Q0];exact BP7.out.set_ 1 _);have bq8:Blk w8 q 157 #[.string ⟨s.t.toArray⟩,.int .i64 s.X,.int .i64 s.Y,.int .i64 s.W,.int .i64 s.H,.int .i64 s.d,.int .i64 s.e]:=(by rw[hw8];exact BQ.out.far hqp _);have hr8:Reads w8 7 (some ad) SS.length (iN SS):=(by rw[hw8];exact HR7.out.far (fun a h _=>by have:=HNe.out a h;show a.block≠p;omega) _);have hb8:Bl w1 w8:=(by rw[hw8];exact Hb7.out.setCell (by rw[Hp.out];exact Nat.le_refl _) _);rw[←hw8];obtain ⟨B8,BQ8,HR8,Hb8⟩:=aHJ b8 bq8 hr8 hb8;have k1:=bq8.all7';have k4:=(w14.bl hb8).all5;have k5:=b8.all4;clear hw8 b8 bq8 hr8 hb8 BP7 HR7 Hb7 BQ;go_cut [78] from 63 to 78 (fun s78 wc=>s78=.bool lz∧w8=wc);case first=>
      by_cases e1:s.t=[63]
      ·by_cases e2:s.d<0
       ·go_wp2_with fail;go_meet;case rel=>exact ⟨by rw[Hlz.out];simp[e1,e2],rfl⟩
       ·go_wp2_with fail;go_meet;case rel=>exact ⟨by rw[Hlz.out];simp[e1,e2],rfl⟩
      ·have q1:(s.t==[63])=false:=(by simp[e1]);go_wp2_with fail;go_meet;case rel=>exact ⟨by rw[Hlz.out];simp[e1],rfl⟩
     case rest=>
     obtain ⟨rfl,rfl⟩:=hcut;go_step;go_cut [78] from 63 to 79 (fun s78 wc=>Blk wc p 69 #[x.name,.string ⟨(T0++s.t).toArray⟩,.slice none 0 0,U1]∧Blk wc q 157 #[.string ⟨s.t.toArray⟩,.int .i64 s.X,.int .i64 s.Y,.int .i64 s.W,.int .i64 s.H,.int .i64 s.d,.int .i64 s.e]∧Reads wc 7 (some ad) SS.length (iN SS)∧Bl w1 wc);case first=>
      cases lz with
      |true=>
       go_wp2_with fail;go_meet;case rel=>
        obtain ⟨w9,hw9⟩:=aH0 (w8.setCell ⟨p,3,none⟩ (.int .i64 0));rw[←hw9];have hU:U1=0:=HU.out;rw[hU,hw9];exact ⟨B8.out.set_ 3 _,BQ8.out.far hqp _,HR8.out.far (fun a h _=>by have:=HNe.out a h;show a.block≠p;omega) _,Hb8.out.setCell (by rw[Hp.out];exact Nat.le_refl _) _⟩
      |false=>
       go_wp2_with fail;go_meet;case rel=>
        have hU:U1=U0:=HU.out;rw[hU];exact ⟨B8.out,BQ8.out,HR8.out,Hb8.out⟩
     case rest=>
     rename World=>w9;obtain ⟨b9,bq9,hr9,hb9⟩:=hcut;obtain ⟨B9,HR9,Hb9⟩:=aHI b9 hr9 hb9;have k1:=bq9.all7';have k4:=(w14.bl hb9).all5;clear b9 bq9 hr9 hb9 B8 BQ8 HR8 Hb8 k5 HU Hlz;go_upto_region 15 with fail;obtain ⟨isp,aAY⟩:=aH1 (fN s);have aCB:=aHH (show decide (s.t=[32])=isp from aAY);rw[aAY] at HF HA;go_cut [82] from 79 to 82 (fun s82 wc=>s82=.bool (!isp)∧w9=wc);case first=>
      go_wp2_with fail;go_meet;case rel=>exact ⟨by rw[←aCB.out];by_cases h:s.t=[32]<;>simp[h],rfl⟩
     case rest=>
     obtain ⟨rfl,rfl⟩:=hcut;clear aCB aAY;cases isp with
     |true=>rw[if_pos rfl,Int.add_zero] at HF HA;go_wp2_with fail;exact ⟨⟨i+1,hlt,by go_num,by rw[HF.out],by rw[HA.out],by rw[HTx.out,←HUe.out];exact B9.out,HR9.out,Hb9.out⟩,by simp[RowKit.intOf];omega⟩
     |false=>
      rw[if_neg (by simp)] at HF HA;obtain ⟨dm,hdm⟩:=aH1 (max s.d 0);have hdb:0≤dm∧dm≤32000000:=(by omega);rw[hdm] at HF;have aHh:max 0 s.d=dm:=(by omega);have hDb:=LJ (a:=(ht:Int)) (b:=s.W) (A:=64) (B:=4000) (by omega) (by omega) (by decide);obtain ⟨D1,hD1⟩:=aH1 ((ht:Int)*s.W);rw[hD1] at HA hDb;go_upto_region 16 with fail;refine aHZ [aHX 0,aHX 1,aHX 2,aHX 3,aHX 4,aHX 5,aHX 6,aHX 7,aHX 8,aHX 9,aHX 10,aHX 11,aHX 12,aHX 13,aHX 14,aHX 15] (by kernel_rfl) ?_;apply Flow.mv _ rfl
      ·intro a b;simp only[sqA,Act.eval,sqC];exact b
      iterate 5
       apply Flow.calm2 _ _ rfl rfl
       ·intro a b c d;obtain ⟨e,f⟩:=b.rule;go_simp;(try go_ints);exact d
       ·intro a b;simp only[sqA];exact b
      apply Flow.mv _ rfl
      ·intro a b;simp only[sqA,Act.eval,sqC];exact b
      iterate 7
       apply Flow.calm2 _ _ rfl rfl
       ·intro a b c d;obtain ⟨e,f⟩:=b.rule;go_simp;(try go_ints);exact d
       ·intro a b;simp only[sqA];exact b
      iterate 2
       apply Flow.asg _ rfl
       ·intro a b;simp only[sqA,Act.eval,sqC];exact b
      refine Flow.done ?_;go_wp2_with fail;exact ⟨⟨i+1,hlt,by go_num,by rw[HF.out],by rw[HA.out],by rw[HTx.out,←HUe.out];exact B9.out.drew,HR9.out.bl (Bl.refl _).drew,Hb9.out.drew⟩,by simp[RowKit.intOf];omega⟩
    ·obtain rfl:i=SS.length:=(by omega);rw[aH9] at hbp k5;have YQ:=HPV.out;unfold VA at YQ;obtain ⟨F0,hF0⟩:=aH0 (jX SS SS.length);obtain ⟨A0,hA0⟩:=aH0 ((ht:Int)*eY SS SS.length);obtain ⟨T0,hT0⟩:=aH0 (eV SS);obtain ⟨L0,hL0⟩:=aH0 (tW SS SS.length);have htl:T0.length≤4*8000:=(by rw[hT0];exact LM HSn.out);simp only[←hF0,←hA0,←hT0,←hL0] at YQ;rw[←hF0] at hfb ⊢;rw[←hA0] at hab ⊢;rw[←hT0,←hL0] at hbp k5;obtain ⟨Hbp,Hbr,HPx⟩:=aHI hbp hbr YQ;clear hF0 hA0 hT0 hL0 hbp hbr YQ HPV hr7;cases L0 with
     |true=>
      have HX:=aHH (show PV=(x.name,T0,[],0) by rw[HPx.out,if_neg (by simp),if_pos rfl]);by_cases hA:0<A0
      ·go_wp2_with fail;go_meet;case rel=>exact ⟨⟨x.name,T0,none,0,[],0⟩,⟨Hbp.out,by rw[HX.out];rfl,⟨0,World.ownsRow_nil _ _ _ _⟩,⟨Hxn.out,by show T0.length≤_;omega,Nat.zero_le _⟩⟩,Hbr.out⟩
      ·go_wp2_with fail;go_meet;case rel=>exact ⟨⟨x.name,T0,none,0,[],0⟩,⟨Hbp.out,by rw[HX.out];rfl,⟨0,World.ownsRow_nil _ _ _ _⟩,⟨Hxn.out,by show T0.length≤_;omega,Nat.zero_le _⟩⟩,Hbr.out⟩
     |false=>
      by_cases hA:0<A0
      ·have hA00:A0≠0:=(by omega);obtain ⟨Q,hQ⟩:=aH1 (F0 / A0);have hQb:=VC (a:=F0) (b:=A0) (A:=32000000000*8000) (by omega) (by omega);rw[hQ] at hQb;obtain ⟨Z,hZ⟩:=aH1 (max 0 (1000-Q));have hZ2:max (1000-Q) 0=Z:=(by omega);have HX:=aHH (show PV=(x.name,T0,[],Z) by rw[HPx.out,if_pos ⟨hA,rfl⟩,hQ,hZ]);go_wp2_with fail;go_meet;case rel=>
        obtain ⟨wV,hwV⟩:=aH0 (wr.setCell ⟨p,3,none⟩ (.int .i64 Z));rw[←hwV];exact ⟨⟨x.name,T0,none,0,[],Z⟩,⟨by rw[hwV];exact Hbp.out.set_ 3 _,by rw[HX.out];rfl,⟨0,World.ownsRow_nil _ _ _ _⟩,⟨Hxn.out,by show T0.length≤_;omega,Nat.zero_le _⟩⟩,by rw[hwV];exact Hbr.out.setCell (by rw[Hp.out];exact Nat.le_refl _) _⟩
      ·have HX:=aHH (show PV=(x.name,T0,[],1000) by rw[HPx.out,if_neg (fun h=>hA h.1),if_neg (by simp)]);go_wp2_with fail;go_meet;case rel=>exact ⟨⟨x.name,T0,none,0,[],1000⟩,⟨Hbp.out,by rw[HX.out];rfl,⟨0,World.ownsRow_nil _ _ _ _⟩,⟨Hxn.out,by show T0.length≤_;omega,Nat.zero_le _⟩⟩,Hbr.out⟩
  ·by_cases hk2:x.kind=2
   ·obtain ⟨X,Y,bw,bh,PB,CS,hbx,h1,aF4,aAZ,aF5,hPV,cI⟩:=aA3.out hk2;obtain ⟨Hcs,aDf,HPV,aHl⟩:=aHJ cI aAZ hPV aF5;have hcu:=aCX.out X Y bw bh h1.1 h1.2.1 w2 (HC.out.bl Hb2.out);rw[←aF4] at hcu;have Hcu:=aHH hcu;rw[hbx] at k2;simp only at k2;have hln:=aAZ.2;have hbh:bh≠0:=(by omega);have hbb:bw*bh≤1048576:=aII (aIH (show bw≤W by omega) (show bh≤H by omega)) (by omega);clear cI aAZ hPV aF4 hcu aF5 aA2 aA4;go_upto_region 21 with fail;go_upto_region 22 with (go_at_call 93;refine Hcu.out.mono ?_;rintro e w3 ⟨R3,c3,rfl,hr3,hn3,hb3⟩);obtain ⟨o4,ho4⟩:=aH0 w3.heap.size;obtain ⟨w4,hw4⟩:=aH0 (w3.alloc (.cells #[bw,bh,.slice R3 (bw*bh) c3] 43));have b4:=aHW hw4 ho4;have hb4:=aHU hw4;rw[←hw4,←ho4];have Hb4:=aHH (hb3.trans hb4);have hpl:=BP.out.lt;have aHm:o4≠p:=(by have:=hb3.le;omega);obtain ⟨HN3,aHn,HR4,B4⟩:=aHJ (show ∀ad,R3=some ad→0<bw*bh→ad.block≠p from fun ad h _=>by have:=hn3 ad h;omega) (Hcs.out R3 c3 w4 (HT.out.bl (Hb2.out.trans Hb4.out)) (hr3.bl hb4)) (hr3.bl hb4) b4;have k2:=(w12.bl (Hb2.out.trans Hb4.out)).all9;have k6:=b4.all3;clear hw4 ho4 b4 hb4 hb3 hr3 hn3 k3 k4;go_upto_region 23 with fail;go_wp2_with (go_at_call 95;refine aHn.out.mono ?_;rintro e w5 ⟨R5,d5,rfl,hr5,hb5⟩;obtain ⟨Hb5,HR5,B5,aHo⟩:=aHJ (Hb4.out.trans hb5) hr5 (B4.out.bl hb5) (HR4.out.bl hb5);clear hb5 hr5);have HN5:=aHH (LN (BP.out.bl Hb5.out) HR5.out);go_loopw [16,120] (fun a u wr=>∃i:Nat,i≤CS.length∧u=.int .i64 i∧a=.int .i64 (d4 CS i).2∧Blk wr p 69 #[x.name,.string ⟨(d4 CS i).1.toArray⟩,.slice none 0 0,.int .i64 1000]∧Reads wr 6 R5 CS.length (aK CS)∧Blk wr o4 43 #[bw,bh,.slice R3 (bw*bh) c3]∧Reads wr 1 R3 (bw*bh) (PB.map .bool)∧Bl w1 wr) (fun _ u _=>CS.length-(RowKit.intOf u).toNat);case atStart=>exact ⟨0,Nat.zero_le _,rfl,rfl,BP.out.bl Hb5.out,HR5.out,B5.out,aHo.out,Hb2.out.trans Hb5.out⟩
    case round=>
     rename World=>wr;obtain ⟨i,hi,rfl,rfl,hbp,hr6,hbo,hr3,hbr⟩:=hrel;have k5:=hbp.all4;have k6:=hbo.all3;have aF6:=EK aDf.out.1 i;by_cases hlt:i<CS.length
     ·have hg:CS[i]? = some CS[i]:=aH2 hlt;obtain ⟨s,hs0⟩:=aH0 (CS[i]);rw[←hs0] at hg;have HS:=aHH (pR hg);have hTN:∃T0 N0,T0=(d4 CS i).1∧N0=(d4 CS i).2:=⟨_,_,rfl,rfl⟩;obtain ⟨T0,N0,hT0,hN0⟩:=hTN;rw[←hN0] at HS aF6 ⊢;rw[←hT0] at hbp k5;obtain ⟨ad,rfl,x0,x1,x2,x3,x4,x5⟩:=O0 hr6 hg;obtain ⟨HT0,HN0,Hbp,Hr6,Hbo,Hr3,Hbr⟩:=aHM hT0 hN0 hbp hr6 hbo hr3 hbr;clear hs0 hg hT0 hN0 hbp hr6 hbo hr3 hbr;go_upto_region 26 with fail;obtain ⟨q,hq⟩:=aH0 wr.heap.size;obtain ⟨w7,hw7⟩:=aH0 (wr.alloc (.cells #[.int .i64 s.k,.string ⟨s.t.toArray⟩,.int .i64 s.X,.int .i64 s.Y,.int .i64 s.W,.int .i64 s.n] 161));have bq:=aHW hw7 hq;have hb7:=aHU hw7;rw[←hw7,←hq];have Hb7:=aHH hb7;have k1:=bq.all6';have BP7:=aHH (Hbp.out.bl hb7);have k5:=BP7.out.all4;clear hw7 hq x0 x1 x2 x3 x4 x5 bq hb7;by_cases e1:N0<s.n
      ·have hst:d4 CS (i+1)=(s.t,s.n):=(by rw[HS.out,if_pos e1]);have HSt:=aHH hst;clear HS hst;go_upto_region 27 with fail;refine aA [(true,0),(true,1),(true,2),(true,3),(true,4),(true,5),(false,6)] (fun i=>i==6) (by kernel_rfl) (by kernel_rfl) (by kernel_rfl) (by kernel_rfl) ?_
       iterate 4
        apply Flow.calm2 _ _ rfl rfl
        ·intro a b c d;obtain ⟨e,f⟩:=b.rule;go_simp;(try go_ints);exact d
        ·intro a b;simp only[sqA];exact b
       apply Flow.asg _ rfl
       ·intro a b;simp only[sqA,Act.eval,sqC];exact b
       apply Flow.calm2 _ _ rfl rfl
       ·intro a b c d;obtain ⟨e,f⟩:=b.rule;go_simp;(try go_ints);exact d
       ·intro a b;simp only[sqA];exact b
       refine Flow.tail _ rfl ?_;go_wp2_with fail;obtain ⟨wV,hwV⟩:=aH0 (w7.setCell ⟨p,1,none⟩ (.string ⟨s.t.toArray⟩));rw[←hwV];have bV:Blk wV p 69 #[x.name,.string ⟨s.t.toArray⟩,.slice none 0 0,.int .i64 1000]:=(by rw[hwV];exact BP7.out.set_ 1 _);have rV:Reads wV 6 (some ad) CS.length (aK CS):=(by rw[hwV];exact (Hr6.out.bl Hb7.out).far (fun a h h0=>HN5.out a h h0) _);have oV:Blk wV o4 43 #[bw,bh,.slice R3 (bw*bh) c3]:=(by rw[hwV];exact (Hbo.out.bl Hb7.out).far aHm _);have rV3:Reads wV 1 R3 (bw*bh) (PB.map .bool):=(by rw[hwV];exact (Hr3.out.bl Hb7.out).far (fun a h h0=>HN3.out a h h0) _);have lV:Bl w1 wV:=(by rw[hwV];exact (Hbr.out.trans Hb7.out).setCell (by rw[Hp.out];exact Nat.le_refl _) _);exact ⟨⟨i+1,hlt,by go_num,by rw[HSt.out],by rw[HSt.out];exact bV.drew,rV.bl (Bl.refl _).drew,oV.drew,rV3.bl (Bl.refl _).drew,lV.drew⟩,by simp[RowKit.intOf];omega⟩
      ·have hst:d4 CS (i+1)=d4 CS i:=(by rw[HS.out,if_neg e1]);have HSt:=aHH hst;clear HS hst;go_wp2_with fail;exact ⟨⟨i+1,hlt,by go_num,by rw[HSt.out,HN0.out],by rw[HSt.out,←HT0.out];exact BP7.out,Hr6.out.bl Hb7.out,Hbo.out.bl Hb7.out,Hr3.out.bl Hb7.out,Hbr.out.trans Hb7.out⟩,by simp[RowKit.intOf];omega⟩
     ·obtain rfl:i=CS.length:=(by omega);have YQ:=HPV.out;unfold LH at YQ;have htl:(d4 CS CS.length).1.length≤9223372036854775807:=tX aHl.out _;have hTN:∃T0 N0,T0=(d4 CS CS.length).1∧N0=(d4 CS CS.length).2:=⟨_,_,rfl,rfl⟩;obtain ⟨T0,N0,hT0,hN0⟩:=hTN;obtain ⟨ink,aA0⟩:=aH0 (decide (true∈PB));simp only[←hT0,←hN0,←aA0] at YQ;rw[←hN0] at aF6 ⊢;rw[←hT0] at hbp k5 htl;have hco:=rM R3 (bw*bh) c3 PB true wr hr3 (by omega);rw[←aA0] at hco;have Hco:=aHH hco;have k2:=(w12.bl hbr).all9;rw[hbx] at k2;simp only at k2;obtain ⟨Hbp,Hbr,HPx⟩:=aHI hbp hbr YQ;clear hT0 hN0 aA0 hbp hbr YQ HPV hr6 hbo hr3 hco;obtain ⟨fz,hfz⟩:=aH0 ((decide (0<N0)||ink));have Hfz:=aHH hfz;clear hfz;go_upto_region 29 with fail;go_cut [140] from 119 to 140 (fun s140 wc=>s140=.bool fz∧Blk wc p 69 #[x.name,.string ⟨T0.toArray⟩,.slice none 0 0,.int .i64 1000]∧Bl w1 wc);case first=>
       by_cases e1:0<N0
       ·go_wp2_with fail;go_meet;case rel=>exact ⟨by rw[Hfz.out,show decide (0<N0)=true from aIu (by omega)]<;>rfl,Hbp.out,Hbr.out⟩
       ·go_wp2_with (go_at_call 53;refine Hco.out.mono ?_;rintro e w7 ⟨rfl,rfl⟩);go_meet;case rel=>exact ⟨by rw[Hfz.out,show decide (0<N0)=false from aIt (by omega),Bool.false_or],Hbp.out,Hbr.out⟩
      case rest=>
      rename World=>w7;obtain ⟨rfl,hb7,hl7⟩:=hcut;have k5:=hb7.all4;have k2:=(w12.bl hl7).all9;rw[hbx] at k2;simp only at k2;have B7:=aHH hb7;have Hl7:=aHH hl7;clear hb7 hl7 Hbp Hbr;go_step;cases fz with
      |true=>
       have HX:=aHH (show PV=(x.name,T0,[],1000*N0 / (bh:Int)) by
        rw[HPx.out,if_neg (fun h=>by have:=Hfz.out;rw[h.1,h.2] at this;exact absurd this (by decide))])
       go_wp2_with fail;go_meet;case rel=>
        obtain ⟨wV,hwV⟩:=aH0 (w7.setCell ⟨p,3,none⟩ (.int .i64 (1000*N0 / (bh:Int))));rw[←hwV];exact ⟨⟨x.name,T0,none,0,[],1000*N0 / (bh:Int)⟩,⟨by rw[hwV];exact B7.out.set_ 3 _,by rw[HX.out];rfl,⟨0,World.ownsRow_nil _ _ _ _⟩,⟨Hxn.out,htl,Nat.zero_le _⟩⟩,by rw[hwV];exact Hl7.out.setCell (by rw[Hp.out];exact Nat.le_refl _) _⟩
      |false=>
       have HX:=aHH (show PV=(x.name,T0,[],1000) by
        have h3:=Hfz.out;have h4:N0=0∧ink=false:=by
         by_cases e1:0<N0
         ·rw[aIu e1] at h3;cases h3
         ·rw[aIt e1,Bool.false_or] at h3;exact ⟨by omega,h3.symm⟩
        rw[HPx.out,if_pos h4])
       go_wp2_with fail;go_meet;case rel=>exact ⟨⟨x.name,T0,none,0,[],1000⟩,⟨B7.out,by rw[HX.out];rfl,⟨0,World.ownsRow_nil _ _ _ _⟩,⟨Hxn.out,htl,Nat.zero_le _⟩⟩,Hl7.out⟩
   ·obtain ⟨MT,hMl,hPV,cI⟩:=aA4.out hk hk2;have fP:=aHH (cI w2 (HM.out.bl Hb2.out) (HC.out.bl Hb2.out));have HPV:=aHH hPV;clear cI hPV aA2 aA3;have k1:=(w11.bl Hb2.out).all8;go_upto_region 3 with fail;go_upto_region 4 with (go_at_call 23;refine fP.out.mono ?_;rintro e w8 ⟨v8,rfl,bF,hb8⟩;obtain ⟨A8,c8,rfl,-⟩:=bL bF;have HB8:=aHH (BP.out.bl hb8);have k5:=HB8.out.all4;have Hr8:=aHH hb8;have HO8:=aHH bF;clear hb8 bF);obtain ⟨ml,EV⟩:=aH0 MT.length;rw[←EV] at hMl;have Hml:=aHH EV;obtain ⟨w9,hw9⟩:=aH0 (w8.setCell ⟨p,2,none⟩ (.slice A8 MT.length c8));have b9:Blk w9 p 69 #[x.name,.string ⟨#[]⟩,.slice A8 MT.length c8,.int .i64 1000]:=(by rw[hw9];exact HB8.out.set_ 2 _);have h9:Bl w1 w9:=(by rw[hw9];exact (Hb2.out.trans Hr8.out).setCell (by rw[Hp.out];exact Nat.le_refl _) _);have o9:w9.ownsRow w2.heap.size 3 1 (.slice A8 MT.length c8) MT.length (MT.map (.int .i64)):=(by rw[hw9];exact ownsRow_setCell_below HO8.out (by have:=BP.out.lt;show p<_;omega) _);rw[←hw9];rw[←EV] at b9 o9 ⊢;have k2:=(w12.bl h9).all9;have k5:=b9.all4;obtain ⟨H9,O9,B9⟩:=aHI h9 o9 b9;clear hw9 EV h9 o9 b9;by_cases hk3:x.kind=3
    ·by_cases hm1:1<ml
     ·have HX:=aHH (show PV=(x.name,[],MT,0) by rw[HPV.out,if_pos ⟨hk3,by rw[←Hml.out];exact hm1⟩]);have aEP:(1:Int)<(ml:Int):=(by omega);go_wp2_with fail;go_meet;case rel=>
       obtain ⟨wV,hwV⟩:=aH0 (w9.setCell ⟨p,3,none⟩ (.int .i64 0));have bV:Blk wV p 69 #[x.name,.string ⟨#[]⟩,.slice A8 ml c8,.int .i64 0]:=(by rw[hwV];exact B9.out.set_ 3 _);have hV:Bl w1 wV:=(by rw[hwV];exact H9.out.setCell (by rw[Hp.out];exact Nat.le_refl _) _);have oV:wV.ownsRow w2.heap.size 3 1 (.slice A8 ml c8) ml (MT.map (.int .i64)):=(by rw[hwV];exact ownsRow_setCell_below O9.out (by have:=BP.out.lt;show p<_;omega) _);rw[←hwV];rw[Hml.out] at bV oV;exact ⟨⟨x.name,[],A8,c8,MT,0⟩,⟨bV,by rw[HX.out];rfl,⟨_,oV⟩,⟨Hxn.out,Nat.zero_le _,by have:=Hml.out;show MT.length≤_;omega⟩⟩,hV⟩
     ·have HX:=aHH (show PV=(x.name,[],MT,1000) by rw[HPV.out,if_neg (fun h=>hm1 (by rw[Hml.out];exact h.2))]);have aEP:¬(1:Int)<(ml:Int):=(by omega);go_wp2_with fail;go_meet;case rel=>
       have bV:=B9.out;have oV:=O9.out;rw[Hml.out] at bV oV;exact ⟨⟨x.name,[],A8,c8,MT,1000⟩,⟨bV,by rw[HX.out];rfl,⟨_,oV⟩,⟨Hxn.out,Nat.zero_le _,by have:=Hml.out;show MT.length≤_;omega⟩⟩,H9.out⟩
    ·have HX:=aHH (show PV=(x.name,[],MT,1000) by rw[HPV.out,if_neg (fun h=>hk3 h.1)]);go_wp2_with fail;go_meet;case rel=>
      have bV:=B9.out;have oV:=O9.out;rw[Hml.out] at bV oV;exact ⟨⟨x.name,[],A8,c8,MT,1000⟩,⟨bV,by rw[HX.out];rfl,⟨_,oV⟩,⟨Hxn.out,Nat.zero_le _,by have:=Hml.out;show MT.length≤_;omega⟩⟩,H9.out⟩
 case rest=>
 rename World=>wc;obtain ⟨x',⟨bp,hpl,⟨B',hm'⟩,ht'⟩,hbc⟩:=hcut;have k5:=bp.all4;have R2:=aHH (R1.out.bl hbc);have k6:=R2.out.all4;obtain ⟨Hbc,Hm,Hpl,Ht⟩:=aHJ hbc hm' hpl ht';clear bp hpl hm' ht' hbc k2 k3 k4;go_step;go_wp2_with fail;obtain ⟨rb,hrb⟩:=aH0 (w.heap.size+1+1+1+1);have R3:=aHH (show Blk wc rb 69 #[.string ⟨#[]⟩,.string ⟨#[]⟩,.slice none 0 0,.int .i64 0] by rw[hrb];exact R2.out);have hrl:w.heap.size≤rb:=(by omega);obtain ⟨wS,hwS⟩:=aH0 ((((wc.setCell ⟨rb,0,none⟩ (.string ⟨x'.field.toArray⟩)).setCell ⟨rb,1,none⟩ (.string ⟨x'.text.toArray⟩)).setCell ⟨rb,2,none⟩ (.slice x'.M x'.marks.length x'.mc)).setCell ⟨rb,3,none⟩ (.int .i64 x'.sure));have b1:=R3.out.set_ 0 (.string ⟨x'.field.toArray⟩);have b2:=b1.set_ 1 (.string ⟨x'.text.toArray⟩);have b3:=b2.set_ 2 (.slice x'.M x'.marks.length x'.mc);have bS:Blk wS rb 69 #[x'.field,x'.text,.slice x'.M x'.marks.length x'.mc,x'.sure]:=(by rw[hwS];exact b3.set_ 3 _);have oS:wS.ownsRow B' 3 1 (.slice x'.M x'.marks.length x'.mc) x'.marks.length (x'.marks.map (.int .i64)):=by
  rw[hwS];exact mA (mA (mA (mA Hm.out R3.out (by decide) _) b1 (by decide) _) b2 (by decide) _) b3 (by decide) _
 have hS:Bl w wS:=(by rw[hwS];exact ((((dM.out.trans Hbc.out).setCell hrl _).setCell hrl _).setCell hrl _).setCell hrl _);rw[←hrb,←hwS];have kF:=bS.all4;refine aIx (v:=.agg #[x'.field,x'.text,.slice x'.M x'.marks.length x'.mc,x'.sure]) (by simp[results,Tryz.results27,go_sem,kF]) rfl ⟨⟨x',rfl,Hpl.out,⟨_,oS⟩,Ht.out⟩,hS⟩
theorem EO (a b:Vlu) (w:World) (h:a.plain=b.plain) (h1:Reads w 1 a.M a.marks.length (a.marks.map (.int .i64))) (h2:Reads w 1 b.M b.marks.length (b.marks.map (.int .i64))) (hm:a.marks.length≤1099511627776) :
 Calls Tryz.prog 29 #[a.val,b.val] w fun e w'=>e=.returned (.bool true)∧Bl w w':=by
 obtain ⟨f,t,A,c,m,s⟩:=a;obtain ⟨f',t',B,d,m',s'⟩:=b;simp only[Vlu.plain,Prod.mk.injEq] at h;obtain ⟨rfl,rfl,rfl,rfl⟩:=h;unfold Vlu.val;simp only at h1 h2 hm;have hs:=fun wx (hb:Bl w wx)=>rL A B c d m m wx (h1.bl hb) (h2.bl hb) hm;have Hs:=aHH hs;clear hs h1 h2
 go_in
 go_wp2_with fail;refine (Hs.out _ (((Bl.refl _).alloc _).alloc _)).mono ?_;rintro e w1 ⟨rfl,hb1⟩;go_wp2_with fail;go_ret;exact ⟨by simp,(((Bl.refl _).alloc _).alloc _).trans hb1⟩
theorem AB (L1 L2:Option Addr) (c1 c2:Nat) (ls1 ls2:List Vlu) (w:World) (h:ls1.map Vlu.plain=ls2.map Vlu.plain) (h1:VlusAt w L1 ls1) (h2:VlusAt w L2 ls2) (hn:ls1.length≤1099511627776) (hm:∀l∈ls1,l.marks.length≤1099511627776) :
 Calls Tryz.prog 28 #[.slice L1 ls1.length c1,.slice L2 ls2.length c2,.func (.func 29) #[] #[]] w fun e w'=>e=.returned (.bool true)∧Bl w w':=by
 have cT:ls2.length=ls1.length:=(by have:=congrArg List.length h;simpa using this.symm);have ZF:∀args w,(callFunc 29 args).run Tryz.prog w=.ok (.enter 29 args) w:=fT Tryz.func29 (by kernel_rfl) rfl;rw[cT];obtain ⟨H1,H2,HF,HM,AG⟩:=aHK h1 h2 h hm cT;clear h1 h2 h hm cT
 go_in
 go_wp2_with fail;go_loopw [17] (fun u wr=>∃i:Nat,i≤ls1.length∧u=.int .i64 i∧Bl w wr) (fun u _=>ls1.length-(RowKit.intOf u).toNat);case atStart=>exact ⟨0,Nat.zero_le _,rfl,Bl.refl _⟩
 case round=>
  obtain ⟨i,hi,rfl,hbr⟩:=hrel;by_cases hlt:i<ls1.length
  ·have iH:i<ls2.length:=(by rw[AG.out];exact hlt);have g1:ls1[i]? = some ls1[i]:=aH2 hlt;have g2:ls2[i]? = some ls2[i]:=aH2 iH;obtain ⟨a,ha⟩:=aH0 (ls1[i]);obtain ⟨b,hb⟩:=aH0 (ls2[i]);rw[←ha] at g1;rw[←hb] at g2;have hf:a.plain=b.plain:=by
    have e1:(ls1.map Vlu.plain)[i]? = some a.plain:=(by rw[aId,g1];rfl);have e2:(ls2.map Vlu.plain)[i]? = some b.plain:=(by rw[aId,g2];rfl);rw[HF.out,e2] at e1;exact (aIw e1).symm
   have hs:=fun wx (hx:Bl w wx)=>EO a b wx hf ((H1.out.bl hx).2 a (List.mem_of_getElem? g1)).1 ((H2.out.bl hx).2 b (List.mem_of_getElem? g2)).1 (HM.out a (List.mem_of_getElem? g1));unfold Vlu.val at hs;have Hs:=aHH hs;obtain ⟨ad,rfl,j1,j2,j3,j4⟩:=(H1.out.bl hbr).at_ g1;have hb1:Bl wr (wr.alloc (.cells #[a.field,a.text,.slice a.M a.marks.length a.mc,a.sure] 69)):=(Bl.refl _).alloc _;obtain ⟨ad2,rfl,i1,i2,i3,i4⟩:=(H2.out.bl (hbr.trans hb1)).at_ g2;clear ha hb g1 g2 hf hs iH;go_wp2_with fail;refine (Hs.out _ ((hbr.trans hb1).alloc _)).mono ?_;rintro e w1 ⟨rfl,hbw⟩;go_wp2_with fail;exact ⟨⟨i+1,hlt,by go_num,((hbr.trans hb1).alloc _).trans hbw⟩,by simp[RowKit.intOf];omega⟩
  ·obtain rfl:i=ls1.length:=(by omega);go_wp2_with fail;go_ret;exact ⟨rfl,hbr⟩
def I6 (ht:Int) (x:Fld):Bool:=decide (x.kind=1)&&decide (x.box.H<ht)
theorem YC (g:Nat) (fnm:List UInt8) (ht gap sp:Int) (L:Option Addr) (n lc:Nat) (x:Fld) (w:World) (hb:Blk w g 46 #[fnm,ht,gap,sp,.slice L n lc]) :
 Calls Tryz.prog 26 #[x.val,.pointer (some ⟨g,0,none⟩)] w fun e w'=>e=.returned (.bool (I6 ht x))∧Bl w w':=by
 have k1:=hb.all5;have hlt:=hb.lt;obtain ⟨xn,xk,xb,M,mc,ms,xm,xd⟩:=x;unfold Fld.val I6;simp only;by_cases h1:xk=1
 ·by_cases h2:xb.H<ht
  ·go_in
   go_wp2_with fail;go_ret;exact ⟨by simp[h1,h2],(Bl.refl _).alloc _⟩
  ·go_in
   go_wp2_with fail;go_ret;exact ⟨by simp[h2],(Bl.refl _).alloc _⟩
 ·go_in
  go_wp2_with fail;go_ret;exact ⟨by simp[h1],(Bl.refl _).alloc _⟩
theorem Q3 (g:Nat) (fnm:List UInt8) (ht gap sp:Int) (L:Option Addr) (n lc:Nat) (ls:List Fld) (w:World) (hb:Blk w g 46 #[fnm,ht,gap,sp,.slice L n lc]):TestsG Fld.val Tryz.prog 26 #[.pointer (some ⟨g,0,none⟩)] w ls (I6 ht):=
 ⟨fT Tryz.func26 (by kernel_rfl) rfl,fun wy y hy _=>YC g fnm ht gap sp L n lc y wy (hb.bl hy)⟩
theorem aAx (ht:Int) (lf:List Fld):decide (∃x∈lf,I6 ht x=true)=LK ht lf:=by
 unfold LK;cases h:lf.any fun x=>decide (x.kind=1)&&decide (x.box.H<ht) with
 |true=>exact aIu (aIm.1 h)
 |false=>refine aIt ?_;rintro ⟨x,hx,h2⟩;exact absurd h2 (List.any_eq_false.1 h x hx)
def sN (f:Frm) (cs:List Bool) (ht gap sp:Int) (ls:List Ltr):List VP:=f.lf.map (lG (kW f cs) f.W.toNat f.dark ht.toNat ls ((gap+sp+1) / 2))
theorem sO (f : Frm) (bW bH : Int) (C : Option Addr) (n cc : Nat) (cs : List Bool) (fnm : List UInt8) (ht gap sp : Int) (L : Option Addr) (lc : Nat) (ls : List Ltr) (w : World) (hF : FrmAt w f) (hS : f.small 1048576) (hN : NumOk w) (hC : SplitOk w) (hT : SpOk w)
 (hL:LtrsAt w L ls) (hnm:fnm.length≤9223372036854775807) (hn:ls.length≤9223372036854775807) (hR:Reads w 1 C n (cs.map .bool)) :
 Calls Tryz.prog 16 #[f.val, .agg #[bW, bH, .slice C n cc], .agg #[fnm, ht, gap, sp, .slice L ls.length lc]] w
  fun e w'=>FReadRes (lI f.err (bN (cG fnm) ht gap sp ls) (iW f.W f.H bW bH n) (LK ht f.lf)) (sN f cs ht gap sp ls) e w'∧Bl w w':=by
 by_cases h:f.err=0∧bN (cG fnm) ht gap sp ls=0∧iW f.W f.H bW bH n=0
 ·obtain ⟨h1,h2,h3⟩:=h;have hw:mH f bW bH n=0:=(by unfold mH;rw[if_pos h1];exact h3);obtain ⟨-,W,H,r,dW,rfl,rfl,rfl⟩:=EF hw;obtain ⟨⟨-,hq2,-⟩,-⟩:=g9 h2;unfold eT at hq2;rw[aIs,aIs,aQ,aQ,aQ] at hq2;obtain ⟨ht',rfl⟩:=Int.eq_ofNat_of_zero_le (show 0≤ht by omega);obtain ⟨gap',rfl⟩:=Int.eq_ofNat_of_zero_le (show 0≤gap by omega);obtain ⟨sp',rfl⟩:=Int.eq_ofNat_of_zero_le (show 0≤sp by omega);have e1:lI f.err (bN (cG fnm) ht' gap' sp' ls) (iW f.W f.H W H (W*H)) (LK ht' f.lf)=aE (LK ht' f.lf) 15:=by
   unfold lI;rw[if_pos h1,if_pos h2,if_pos h3]
  have e2:sN f cs ht' gap' sp' ls=f.lf.map (lG (kW f cs) W f.dark ht' ls (((gap':Int)+(sp':Int)+1) / 2)):=by
   unfold sN;rw[dW.fW,aIF,aIF]
  rw[e1,e2];exact YB f W H r C cc cs fnm ht' gap' sp' L lc ls w h1 dW hF hS hN hC hT hL hnm hn h2 h3 hR
 ·exact VD f bW bH C n cc fnm ht gap sp L lc ls _ _ w hF hS hN hC hL hnm hn h
end Go.Proofs.YtllefinciimffaaGreatDoor
