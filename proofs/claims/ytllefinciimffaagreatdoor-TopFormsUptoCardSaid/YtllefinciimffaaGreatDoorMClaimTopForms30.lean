import Derived.Test.YtllefinciimffaaGreatDoorMClaimTopForms27
set_option maxHeartbeats 20000000
set_option maxRecDepth 100000
namespace Go.Proofs.YtllefinciimffaaGreatDoor
theorem nR (a b cs:List UInt8):aM (a++b) cs=(aM a cs&&aM b cs):=by unfold aM;rw[List.all_append]
theorem J5:∀k<44,aM (jQ k) gN=true:=by decide +kernel
theorem DS : ∀ ks : List Nat, (∀ k ∈ ks, k < 44) → aM (fS ks) gN = true
 |[],_=>rfl
 |[k],h=>J5 k (h k (aLQ.2 rfl))
 |k :: k' :: ks,h=>by
  show aM (jQ k++([48]++fS (k' :: ks))) gN=true;rw[nR,nR,J5 k (h k (List.mem_cons_self ..)),DS (k' :: ks) (fun x hx=>h x (List.mem_cons_of_mem _ hx))];decide
theorem NC {l:List UInt8} (h:aT l=true):aM (mO l) gN=true:=DS _ (DL h)
theorem TH:∀d<10,aM (fA.getD d []) gN=true∧aM (exB (fA.getD d [])) gN=true∧aM (exB (fA.getD d [])).reverse gN=true∧(fA.getD d []).length=7:=by decide +kernel
theorem ND (k:UInt8) {d:Nat} (h:d<10):aM (aK k d) gN=true∧(aK k d).length=7:=by
 obtain ⟨h1,h2,h3,h4⟩:=TH d h;unfold aK;split
 ·exact ⟨h2,by unfold exB;rw[aLz,h4]⟩
 ·split
  ·exact ⟨h3,by rw[aL3];unfold exB;rw[aLz,h4]⟩
  ·exact ⟨h1,h4⟩
theorem wP {ds : List UInt8} (hm : aM ds bJ = true) : ∀ i, i ≤ 12 → aM (iD ds i) gN = true ∧ (iD ds i).length = 3 + 7 * i + (if 6 < i then 5 else 0)
 |0,_=>⟨show aM wX gN=true by decide,rfl⟩
 |i+1,hi=>by
  obtain ⟨h1,h2⟩:=wP hm i (by omega);obtain ⟨h3,h4⟩:=ND (cX ds (i+1)) (d:=aS ds (i+1)) (by have:=mB hm (i+1);omega);show aM (iD ds i++(if i=6 then IU else [])++aK (cX ds (i+1)) (aS ds (i+1))) gN=true∧(iD ds i++(if i=6 then IU else [])++aK (cX ds (i+1)) (aS ds (i+1))).length=_;rw[nR,nR,h1,h3,aLy,aLy,h2,h4];by_cases h6:i=6
  ·rw[if_pos h6,if_neg (by omega),if_pos (by omega)];refine ⟨by decide,?_⟩;show _+5+7=_;omega
  ·rw[if_neg h6];refine ⟨by decide,?_⟩;show _+0+7=_;by_cases h7:6<i
   ·rw[if_pos h7,if_pos (by omega)];omega
   ·rw[if_neg h7,if_neg (by omega)];omega
theorem TI {ds:List UInt8} (hm:aM ds bJ=true):aM (jU ds) gN=true∧(jU ds).length=95:=by
 obtain ⟨h1,h2⟩:=wP hm 12 (Nat.le_refl _);unfold jU;rw[nR,h1,aLy,h2];exact ⟨by decide,rfl⟩
theorem XZ {l:List UInt8} (h:aT l=true):mO l≠[]:=by
 unfold mO;have hlt:=DL h;have hn:ksL l≠[]:=by
  unfold ksL;intro e;have:=congrArg List.length e;rw[aLz,pX] at this;simp at this
 cases hk:ksL l with
 |nil=>exact absurd hk hn
 |cons k ks=>
  have h15:=(dR k (hlt k (by rw[hk];exact List.mem_cons_self ..))).1;cases ks with
  |nil=>intro e;have:=congrArg List.length e;rw[show fS [k]=jQ k from rfl,h15] at this;simp at this
  |cons k' ks=>intro e;have:=congrArg List.length e;rw[show fS (k :: k' :: ks)=jQ k++48 :: fS (k' :: ks) from rfl,aLy,h15] at this;simp at this
def iK (t:List UInt8):Int:=if uR t 13=true then nL t else fE t
def lV (t:List UInt8):List UInt8:=if uR t 13=true then jU t else mO t
theorem X4 {t:List UInt8} (h:nL t=0):t.length=13∧aM t bJ=true:=by
 unfold nL at h;split at h
 ·rename_i hd
  unfold uR at hd;simp at hd;exact hd
 ·exact absurd h (by decide)
theorem TJ {t:List UInt8} (h:fE t=0):t.length≤40∧aT t=true:=by
 unfold fE at h;split at h
 ·exact absurd h (by decide)
 ·split at h
  ·exact absurd h (by decide)
  ·split at h
   ·rename_i h1 h2
    exact ⟨by omega,h2⟩
   ·exact absurd h (by decide)
theorem PM {t:List UInt8} (h:iK t=0):aM (lV t) gN=true∧lV t≠[]∧(lV t).length≤4000:=by
 unfold iK at h;unfold lV;split at h
 ·rename_i hd
  rw[if_pos hd];obtain ⟨h1,h2⟩:=X4 h;obtain ⟨h3,h4⟩:=TI h2;refine ⟨h3,?_,by omega⟩;intro e;rw[e] at h4;cases h4
 ·rename_i hd
  rw[if_neg hd];obtain ⟨h1,h2⟩:=TJ h;have h3:=DM h2;exact ⟨NC h2,XZ h2,by omega⟩
section
variable (ls:List Ltr) (ht gap sp:Nat)
def iP (x:Fld) (t:List UInt8):Int:=
 if x.kind=1 then (if jN ls ht gap sp t=0 then aF (decide (x.box.W<(nH ls gap sp t:Int))||decide (x.box.H<(ht:Int))) 15 else jN ls ht gap sp t)
 else (if iK t=0 then aF (decide (x.box.W<((lV t).length:Int))) 15 else iK t)
def fF (x:Fld) (t:List UInt8):Nat:=if x.kind=1 then nH ls gap sp t else (lV t).length
def gQ (x:Fld):Nat:=if x.kind=1 then ht else x.box.H.toNat
def oX (x:Fld) (t:List UInt8):List Bool:=if x.kind=1 then oA ls ht gap sp t else eS (lV t).length x.box.H.toNat (oC (lV t) 1 0)
def lA (W H:Nat) (fs:List Fld) (tw:Bool) (v:Vlu) (pg:List Bool):Int × List Bool:=match lT fs v.field with
 |none=>(10,[])
 |some x => if cP fs tw v = 0 then (if v.text = [] then (0, dB W H x v.marks pg v.marks.length)
  else if iP ls ht gap sp x v.text=0 then (0,eS W H (fZ (dB W H x v.marks pg v.marks.length) (oX ls ht gap sp x v.text) W H (fF ls gap sp x v.text) (gQ ht x) x.box.X x.box.Y)) else (iP ls ht gap sp x v.text,[]))
  else (cP fs tw v,[])
def sH (W H : Nat) (fs : List Fld) : List (List UInt8) → List Vlu → List Bool → Int × List Bool
 |_,[],pg=>(0,pg)
 |prev,v :: l,pg=>if (lA ls ht gap sp W H fs (decide (v.field∈prev)) v pg).1=0 then sH W H fs (prev++[v.field]) l (lA ls ht gap sp W H fs (decide (v.field∈prev)) v pg).2 else ((lA ls ht gap sp W H fs (decide (v.field∈prev)) v pg).1,[])
end
theorem TK {ls : List Ltr} {ht gap sp W H : Nat} {fs : List Fld} {l : List Vlu} {i : Nat} {v : Vlu} {pg : List Bool} (h : l[i]? = some v) : sH ls ht gap sp W H fs ((l.take i).map Vlu.field) (l.drop i) pg =
 if (lA ls ht gap sp W H fs (decide (v.field∈(l.take i).map Vlu.field)) v pg).1=0 then sH ls ht gap sp W H fs ((l.take (i+1)).map Vlu.field) (l.drop (i+1)) (lA ls ht gap sp W H fs (decide (v.field∈(l.take i).map Vlu.field)) v pg).2 else ((lA ls ht gap sp W H fs (decide (v.field∈(l.take i).map Vlu.field)) v pg).1,[]):=by
 rw[pR h,eI h,aLS];rfl
end Go.Proofs.YtllefinciimffaaGreatDoor
namespace Go.Proofs.YtllefinciimffaaGreatDoor
open Go.RowKit Go.Shelf
def mY (ls:List Ltr) (ht gap sp:Nat) (x:Fld) (t:List UInt8):Int:=
 if x.kind=1 then jN ls ht gap sp t else (if iK t=0 then aF (decide (x.box.W<((lV t).length:Int))) 15 else iK t)
def DrawnRes (B:Nat) (E:Int) (W H:Nat) (bs:List Bool) (e:Ending) (w':World):Prop:=∃a b R m d,e=.returned (.tuple #[.agg #[.int .i64 a,.int .i64 b,.slice R m d],E])∧Res B w' E W H (bs.map .bool) a b R m d
theorem vD {m:List UInt8} {h:Nat} {bW:Int} (hm:aM m gN=true) (hn:m≠[]) (hl:(m.length:Int)≤bW) (hW:bW≤4000) (hh:1≤h∧h≤4000) (hWH:bW*(h:Int)≤1048576):jT m 1 h 0=0:=by
 unfold jT;rw[if_neg hn,if_neg (by rw[hm];decide)];have hr:eE 1 h 0=true:=by
  unfold eE;rw[aR.2 (show (1:Int)≤1∧(1:Int)≤8 by omega),aR.2 (show (1:Int)≤(h:Int)∧(h:Int)≤4000 by omega),aR.2 (show (0:Int)≤0∧(0:Int)≤200 by omega)];rfl
 rw[if_neg (by rw[hr];decide)];have cL:1≤m.length:=(by cases m with|nil=>exact absurd rfl hn|cons=>simp);have hmul:(m.length:Int)*(h:Int)≤bW*(h:Int):=Int.mul_le_mul_of_nonneg_right hl (by omega);unfold aE;rw[show (2*0+1*(m.length:Int))=(m.length:Int) by omega,if_pos (by omega),if_neg (by omega)]
theorem X6 (x : Fld) (t : List UInt8) (nm : List UInt8) (ht gap sp : Nat) (adl : Addr) (c : Nat) (ls : List Ltr) (w : World) (hL : LtrsAt w (some adl) ls) (hnm : nm.length ≤ 9223372036854775807) (hn : ls.length ≤ 9223372036854775807) (hfe : bN (dA nm) ht gap sp ls = 0) (htl : t.length ≤ 1048576) (hv : SubOk w) (hT : SpOk w)
 (UV:x.kind≠1→∃h:Nat,x.box.H=(h:Int)∧(1≤h∧h≤4000)∧x.box.W≤4000∧x.box.W*(h:Int)≤1048576) :
 Calls Tryz.prog 99 #[x.val,t,.agg #[nm,ht,gap,sp,.slice (some adl) ls.length c]] w fun e w'=>DrawnRes w.heap.size (mY ls ht gap sp x t) (fF ls gap sp x t) (gQ ht x) (oX ls ht gap sp x t) e w'∧Bl w w':=by
 have GO:=fun wx hL hv=>aAL nm ht gap sp (some adl) c ls t wx hL hnm hn (by omega) hv;rw[hfe] at GO;obtain ⟨DE,hDE⟩:=aLt (mY ls ht gap sp x t);obtain ⟨DW,hDW⟩:=aLt (fF ls gap sp x t);obtain ⟨DH,hDH⟩:=aLt (gQ ht x);obtain ⟨DB,hDB⟩:=aLt (oX ls ht gap sp x t);rw[←hDE,←hDW,←hDH,←hDB];obtain ⟨HDE,HDW,HDH,HDB⟩:=aLc hDE hDW hDH hDB;let w1:=(((w).alloc (.cells #[.string ⟨x.name.toArray⟩,.int .i64 x.kind,.int .i64 x.box.X,.int .i64 x.box.Y,.int .i64 x.box.W,.int .i64 x.box.H,.slice x.M x.marks.length x.mc,.int .i64 x.most,.bool x.needed] 61)).alloc (.cells #[nm,ht,gap,sp,.slice (some adl) ls.length c] 46)).alloc (.cells #[.int .i64 0,.int .i64 0,.slice none 0 0] 43);obtain ⟨w1b,w11,w12,w13⟩:=aLj (x:=w1) w _ _ _ _ _ _ rfl;have sz1:w1.heap.size=w.heap.size+1+1+1:=(by simp[w1]);obtain ⟨aER,HT,aHA⟩:=aLb (GO w1 (hL.bl w1b) (hv.bl w1b)) (hT.bl w1b) UV;have k1:=w11.all9;have k2:=w12.all5;have k3:=w13.all3;have dV:=aLa w1b;unfold Fld.val;clear GO hL hv hT UV w1b hDE hDW hDH hDB hfe
 go_in
 go_upto_region 1 with fail;rw[show ((w.alloc (.cells #[.string ⟨x.name.toArray⟩,.int .i64 x.kind,.int .i64 x.box.X,.int .i64 x.box.Y,.int .i64 x.box.W,.int .i64 x.box.H,.slice x.M x.marks.length x.mc,.int .i64 x.most,.bool x.needed] 61)).alloc (.cells #[nm,ht,gap,sp,.slice (some adl) ls.length c] 46)).alloc (.cells #[.int .i64 0,.int .i64 0,.slice none 0 0] 43)=w1 from rfl];clear_value w1;by_cases hk:x.kind=1
 ·have q:(x.kind==1)=true:=(by simpa using hk);obtain ⟨HE,HWW,HHH,HBB⟩:=aLc (show DE=jN ls ht gap sp t by rw[HDE.out];unfold mY;rw[if_pos hk]) (show DW=nH ls gap sp t by rw[HDW.out];unfold fF;rw[if_pos hk]) (show DH=ht by rw[HDH.out];unfold gQ;rw[if_pos hk]) (show DB=oA ls ht gap sp t by rw[HDB.out];unfold oX;rw[if_pos hk]);clear hk;go_wp2_with fail;refine aER.out.mono ?_;rintro e w2 ⟨a,b,R,m,d,rfl,lQ,hb2⟩;have K6:Res w1.heap.size w2 DE DW DH (DB.map .bool) a b R m d:=by
   have h:=lQ;unfold pP at h;rw[if_pos rfl,aL8,aL8,aL8] at h;rw[HE.out,HWW.out,HHH.out,HBB.out];exact h
  have hfs:pP 0 ls ht gap sp t=DE:=by
   unfold pP;rw[if_pos rfl,aL8,aL8,aL8,HE.out]
  rw[hfs];obtain ⟨QR,Hb2,B3⟩:=aLb K6 (dV.out.trans hb2) (w13.bl hb2);have k3:=B3.out.all3;clear lQ K6 hfs hb2 k1 k2;go_wp2_with fail;obtain ⟨wS,hwS⟩:=aLt (((w2.setCell ⟨w.heap.size+1+1,0,none⟩ (.int .i64 a)).setCell ⟨w.heap.size+1+1,1,none⟩ (.int .i64 b)).setCell ⟨w.heap.size+1+1,2,none⟩ (.slice R m d));have bS:Blk wS (w.heap.size+1+1) 43 #[a,.int .i64 b,.slice R m d]:=(by rw[hwS];exact ((B3.out.set_ 0 _).set_ 1 _).set_ 2 _);have hS:Bl w wS:=(by rw[hwS];exact ((Hb2.out.setCell (by show _≤_+1+1;omega) _).setCell (by show _≤_+1+1;omega) _).setCell (by show _≤_+1+1;omega) _);have rS:Res w1.heap.size wS DE DW DH (DB.map .bool) a b R m d:=(by rw[hwS];exact ((QR.out.store (by show _+1+1<_;omega) _).store (by show _+1+1<_;omega) _).store (by show _+1+1<_;omega) _);rw[←hwS];have kF:=bS.all3;refine aL0 (v:=.tuple #[.agg #[a,.int .i64 b,.slice R m d],DE]) (by simp[results,Tryz.results99,go_sem,kF]) rfl ⟨⟨a,b,R,m,d,rfl,rS.mono (by omega)⟩,hS⟩
 ·have q:(x.kind==1)=false:=(by simpa using hk);obtain ⟨HE,HWW,HHH,HBB⟩:=aLc (show DE=if iK t=0 then aF (decide (x.box.W<((lV t).length:Int))) 15 else iK t by rw[HDE.out];unfold mY;rw[if_neg hk]) (show DW=(lV t).length by rw[HDW.out];unfold fF;rw[if_neg hk]) (show DH=x.box.H.toNat by rw[HDH.out];unfold gQ;rw[if_neg hk]) (show DB=eS (lV t).length x.box.H.toNat (oC (lV t) 1 0) by rw[HDB.out];unfold oX;rw[if_neg hk]);obtain ⟨h,hxH,hh,hxW,hWH⟩:=aHA.out hk;obtain ⟨htr,aHB,H39⟩:=aLb (fun wx=>tI t bJ wx (by omega) (by decide) wA) (fun wx=>aDi t wx (by omega)) (fun wx hT=>S9 t wx (by omega) hT);have hd:uR t 13=(decide (t.length=13)&&(Lib.trimS t bJ).isEmpty):=(by unfold uR;rw[kG]);obtain ⟨db,hdb⟩:=aLt (uR t 13);rw[←hdb] at hd;obtain ⟨CE,hCE⟩:=aLt (iK t);obtain ⟨CM,hCM⟩:=aLt (lV t);have aIU:CE=0→aM CM gN=true∧CM≠[]∧CM.length≤4000:=fun h=>(by rw[hCM];exact PM (hCE.symm.trans h));rw[←hCE,←hCM] at HE;rw[←hCM] at HWW HBB;obtain ⟨HCe,HCm,Hd,aFu,HxH,HWH⟩:=aLe (show CE=if db=true then nL t else fE t by rw[hCE,hdb];rfl) (show CM=if db=true then jU t else mO t by rw[hCM,hdb];rfl) hd aIU hxH hWH;have hsz:(⟨t.toArray⟩:ByteArray).size=t.length:=Lib.size_mk t;have Hdb:=aLa hdb;clear hk hd hCE hCM aIU hWH hdb hxH;go_upto_region 4 with fail;go_cut [26] from 19 to 27 (fun s wc=>s=.bool db∧Bl w1 wc);case first=>
   by_cases h13:t.length=13
   ·obtain ⟨te,hte⟩:=aLu ((Lib.trimS t bJ).isEmpty);have HX:=aLa (show db=te by rw[Hd.out,aLX h13,hte];rfl);have q3:((t.length:Int)==13)=true:=(by simp[h13]);clear h13;go_wp2_with (go_at_call 153;refine (htr.out _).mono ?_;rintro e wa ⟨rfl,hba⟩);go_meet;case rel=>exact ⟨by rw[HX.out],hba⟩
   ·have HX:=aLa (show db=false by rw[Hd.out,aLW h13];rfl);have q3:((t.length:Int)==13)=false:=(by rw[aLU];omega);clear h13;go_wp2_with fail;go_meet;case rel=>exact ⟨by rw[HX.out],Bl.refl _⟩
  case rest=>
  rename World=>w2;obtain ⟨rfl,hb2⟩:=hcut;have Hb2:=aLa hb2;clear hb2 k1 k2 k3;cases db with
  |true=>
   have aHC:=aLa (show CM=jU t from HCm.out);have aFv:=aLa (show CE=nL t from HCe.out);have hev:CE=0→oW t=CM:=fun h=>(by rw[aHC.out];unfold oW;rw[if_pos (aFv.out.symm.trans h)]);have aGm:=aHB.out;rw[←aFv.out] at aGm;obtain ⟨EV,hEV⟩:=aLt (oW t);rw[←hEV] at aGm hev;have aHB:=aLa aGm;have Hev:=aLa hev;clear aGm hev hEV;go_upto_region 7 with (go_at_call 156;refine (aHB.out _).mono ?_;rintro e w3 ⟨rfl,hb3⟩);have Hb3:=aLa (dV.out.trans (Hb2.out.trans hb3));have B3:=aLa (w13.bl (Hb2.out.trans hb3));have k1:=(w11.bl (Hb2.out.trans hb3)).all9;have N2:=(Hb2.out.trans hb3).le;clear hb3;by_cases hz1:CE=0
   ·obtain rfl:=Hev.out hz1;clear hz1;by_cases hz:CE≠0
    ·have q2:(CE != 0)=true:=(by simp[hz]);have HX:=aLa (show DE=CE by rw[HE.out,if_neg hz]);have Hz:=aLa hz;have k3:=B3.out.all3;clear hz;go_wp2_with fail;obtain ⟨wS,hwS⟩:=aLt (((w3.setCell ⟨w.heap.size+1+1,0,none⟩ (.int .i64 0)).setCell ⟨w.heap.size+1+1,1,none⟩ (.int .i64 0)).setCell ⟨w.heap.size+1+1,2,none⟩ (.slice none 0 0));have bS:Blk wS (w.heap.size+1+1) 43 #[.int .i64 0,.int .i64 0,.slice none 0 0]:=(by rw[hwS];exact ((B3.out.set_ 0 _).set_ 1 _).set_ 2 _);have hS:Bl w wS:=(by rw[hwS];exact ((Hb3.out.setCell (by show _≤_+1+1;omega) _).setCell (by show _≤_+1+1;omega) _).setCell (by show _≤_+1+1;omega) _);rw[←hwS];have kF:=bS.all3;refine aL0 (v:=.tuple #[.agg #[.int .i64 0,.int .i64 0,.slice none 0 0],CE]) (by simp[results,Tryz.results99,go_sem,kF]) rfl ⟨⟨0,0,none,0,0,by rw[HX.out],Res.zero _ _ _ _ _ (by rw[HX.out];exact Hz.out)⟩,hS⟩
    ·have hz0:CE=0:=Classical.not_not.1 hz;have q2:(CE != 0)=false:=(by simp[hz0]);obtain ⟨c1,c2,c3⟩:=aFu.out hz0;have HE2:=aLa (show DE=aF (decide (x.box.W<(EV.length:Int))) 15 by rw[HE.out,if_pos hz0]);have k3:=B3.out.all3;clear hz hz0;by_cases hw:x.box.W<(EV.length:Int)
     ·have HX:=aLa (show DE=15 by rw[HE2.out,aLX hw];rfl);go_wp2_with fail;obtain ⟨wS,hwS⟩:=aLt (((w3.setCell ⟨w.heap.size+1+1,0,none⟩ (.int .i64 0)).setCell ⟨w.heap.size+1+1,1,none⟩ (.int .i64 0)).setCell ⟨w.heap.size+1+1,2,none⟩ (.slice none 0 0));have bS:Blk wS (w.heap.size+1+1) 43 #[.int .i64 0,.int .i64 0,.slice none 0 0]:=(by rw[hwS];exact ((B3.out.set_ 0 _).set_ 1 _).set_ 2 _);have hS:Bl w wS:=(by rw[hwS];exact ((Hb3.out.setCell (by show _≤_+1+1;omega) _).setCell (by show _≤_+1+1;omega) _).setCell (by show _≤_+1+1;omega) _);rw[←hwS];have kF:=bS.all3;refine aL0 (v:=.tuple #[.agg #[.int .i64 0,.int .i64 0,.slice none 0 0],.int .i64 15]) (by simp[results,Tryz.results99,go_sem,kF]) rfl ⟨⟨0,0,none,0,0,by rw[HX.out],Res.zero _ _ _ _ _ (by rw[HX.out];exact (by decide))⟩,hS⟩
     ·obtain ⟨HX,hdr,Hdr⟩:=aLb (show DE=0 by rw[HE2.out,aLW hw];rfl) (vD c1 c2 (by omega) hxW hh HWH.out) (fun wx=>OU EV 1 x.box.H 0 wx (by omega));clear c1 c2;go_upto_region 11 with fail;go_wp2_with fail;refine (Hdr.out _).mono ?_;rintro e w4 ⟨a,b,R,n,d,err,rfl,he,lQ,hb4⟩;have he0:err=0:=(by rw[HxH.out] at he;exact he.trans hdr.out);subst he0;have K6:Res w3.heap.size w4 0 DW DH (DB.map .bool) a b R n d:=by
       have h1:=lQ;rw[show ((2:Int)*0+1*(EV.length:Int)).toNat=EV.length by omega,HxH.out,aL8] at h1;rw[HWW.out,HHH.out,HBB.out,HxH.out,aL8];exact h1
      obtain ⟨QR,Hb4,B4⟩:=aLb K6 (Hb3.out.trans hb4) (B3.out.bl hb4);have k3:=B4.out.all3;have aGi:=N2;clear lQ K6 he hb4;go_wp2_with fail;obtain ⟨wS,hwS⟩:=aLt (((w4.setCell ⟨w.heap.size+1+1,0,none⟩ (.int .i64 a)).setCell ⟨w.heap.size+1+1,1,none⟩ (.int .i64 b)).setCell ⟨w.heap.size+1+1,2,none⟩ (.slice R n d));have bS:Blk wS (w.heap.size+1+1) 43 #[a,.int .i64 b,.slice R n d]:=(by rw[hwS];exact ((B4.out.set_ 0 _).set_ 1 _).set_ 2 _);have hS:Bl w wS:=(by rw[hwS];exact ((Hb4.out.setCell (by show _≤_+1+1;omega) _).setCell (by show _≤_+1+1;omega) _).setCell (by show _≤_+1+1;omega) _);have rS:Res w3.heap.size wS 0 DW DH (DB.map .bool) a b R n d:=(by rw[hwS];exact ((QR.out.store (by show _+1+1<_;omega) _).store (by show _+1+1<_;omega) _).store (by show _+1+1<_;omega) _);rw[←hwS];have kF:=bS.all3;refine aL0 (v:=.tuple #[.agg #[a,.int .i64 b,.slice R n d],.int .i64 0]) (by simp[results,Tryz.results99,go_sem,kF]) rfl ⟨⟨a,b,R,n,d,by rw[HX.out],by rw[HX.out];exact rS.mono (by omega)⟩,hS⟩
   ·clear Hev;have q2:(CE != 0)=true:=(by simp[hz1]);have HX:=aLa (show DE=CE by rw[HE.out,if_neg hz1]);have Hz:=aLa hz1;have k3:=B3.out.all3;clear hz1;go_wp2_with fail;obtain ⟨wS,hwS⟩:=aLt (((w3.setCell ⟨w.heap.size+1+1,0,none⟩ (.int .i64 0)).setCell ⟨w.heap.size+1+1,1,none⟩ (.int .i64 0)).setCell ⟨w.heap.size+1+1,2,none⟩ (.slice none 0 0));have bS:Blk wS (w.heap.size+1+1) 43 #[.int .i64 0,.int .i64 0,.slice none 0 0]:=(by rw[hwS];exact ((B3.out.set_ 0 _).set_ 1 _).set_ 2 _);have hS:Bl w wS:=(by rw[hwS];exact ((Hb3.out.setCell (by show _≤_+1+1;omega) _).setCell (by show _≤_+1+1;omega) _).setCell (by show _≤_+1+1;omega) _);rw[←hwS];have kF:=bS.all3;refine aL0 (v:=.tuple #[.agg #[.int .i64 0,.int .i64 0,.slice none 0 0],CE]) (by simp[results,Tryz.results99,go_sem,kF]) rfl ⟨⟨0,0,none,0,0,by rw[HX.out],Res.zero _ _ _ _ _ (by rw[HX.out];exact Hz.out)⟩,hS⟩
  |false=>
   have aHC:=aLa (show CM=mO t from HCm.out);have aFv:=aLa (show CE=fE t from HCe.out);have hev:CE=0→mV t=CM:=fun h=>(by rw[aHC.out];unfold mV;rw[if_pos (aFv.out.symm.trans h)]);have h39:=fun wx hT=>H39.out wx hT;rw[←aFv.out] at h39;obtain ⟨EV,hEV⟩:=aLt (mV t);rw[←hEV] at h39 hev;have H39:=aLa h39;have Hev:=aLa hev;clear h39 hev hEV;go_upto_region 7 with (go_at_call 155;refine (H39.out _ (HT.out.bl Hb2.out)).mono ?_;rintro e w3 ⟨rfl,hb3⟩);have Hb3:=aLa (dV.out.trans (Hb2.out.trans hb3));have B3:=aLa (w13.bl (Hb2.out.trans hb3));have k1:=(w11.bl (Hb2.out.trans hb3)).all9;have N2:=(Hb2.out.trans hb3).le;clear hb3;by_cases hz1:CE=0
   ·obtain rfl:=Hev.out hz1;clear hz1;by_cases hz:CE≠0
    ·have q2:(CE != 0)=true:=(by simp[hz]);have HX:=aLa (show DE=CE by rw[HE.out,if_neg hz]);have Hz:=aLa hz;have k3:=B3.out.all3;clear hz;go_wp2_with fail;obtain ⟨wS,hwS⟩:=aLt (((w3.setCell ⟨w.heap.size+1+1,0,none⟩ (.int .i64 0)).setCell ⟨w.heap.size+1+1,1,none⟩ (.int .i64 0)).setCell ⟨w.heap.size+1+1,2,none⟩ (.slice none 0 0));have bS:Blk wS (w.heap.size+1+1) 43 #[.int .i64 0,.int .i64 0,.slice none 0 0]:=(by rw[hwS];exact ((B3.out.set_ 0 _).set_ 1 _).set_ 2 _);have hS:Bl w wS:=(by rw[hwS];exact ((Hb3.out.setCell (by show _≤_+1+1;omega) _).setCell (by show _≤_+1+1;omega) _).setCell (by show _≤_+1+1;omega) _);rw[←hwS];have kF:=bS.all3;refine aL0 (v:=.tuple #[.agg #[.int .i64 0,.int .i64 0,.slice none 0 0],CE]) (by simp[results,Tryz.results99,go_sem,kF]) rfl ⟨⟨0,0,none,0,0,by rw[HX.out],Res.zero _ _ _ _ _ (by rw[HX.out];exact Hz.out)⟩,hS⟩
    ·have hz0:CE=0:=Classical.not_not.1 hz;have q2:(CE != 0)=false:=(by simp[hz0]);obtain ⟨c1,c2,c3⟩:=aFu.out hz0;have HE2:=aLa (show DE=aF (decide (x.box.W<(EV.length:Int))) 15 by rw[HE.out,if_pos hz0]);have k3:=B3.out.all3;clear hz hz0;by_cases hw:x.box.W<(EV.length:Int)
     ·have HX:=aLa (show DE=15 by rw[HE2.out,aLX hw];rfl);go_wp2_with fail;obtain ⟨wS,hwS⟩:=aLt (((w3.setCell ⟨w.heap.size+1+1,0,none⟩ (.int .i64 0)).setCell ⟨w.heap.size+1+1,1,none⟩ (.int .i64 0)).setCell ⟨w.heap.size+1+1,2,none⟩ (.slice none 0 0));have bS:Blk wS (w.heap.size+1+1) 43 #[.int .i64 0,.int .i64 0,.slice none 0 0]:=(by rw[hwS];exact ((B3.out.set_ 0 _).set_ 1 _).set_ 2 _);have hS:Bl w wS:=(by rw[hwS];exact ((Hb3.out.setCell (by show _≤_+1+1;omega) _).setCell (by show _≤_+1+1;omega) _).setCell (by show _≤_+1+1;omega) _);rw[←hwS];have kF:=bS.all3;refine aL0 (v:=.tuple #[.agg #[.int .i64 0,.int .i64 0,.slice none 0 0],.int .i64 15]) (by simp[results,Tryz.results99,go_sem,kF]) rfl ⟨⟨0,0,none,0,0,by rw[HX.out],Res.zero _ _ _ _ _ (by rw[HX.out];exact (by decide))⟩,hS⟩
     ·obtain ⟨HX,hdr,Hdr⟩:=aLb (show DE=0 by rw[HE2.out,aLW hw];rfl) (vD c1 c2 (by omega) hxW hh HWH.out) (fun wx=>OU EV 1 x.box.H 0 wx (by omega));clear c1 c2;go_upto_region 11 with fail;go_wp2_with fail;refine (Hdr.out _).mono ?_;rintro e w4 ⟨a,b,R,n,d,err,rfl,he,lQ,hb4⟩;have he0:err=0:=(by rw[HxH.out] at he;exact he.trans hdr.out);subst he0;have K6:Res w3.heap.size w4 0 DW DH (DB.map .bool) a b R n d:=by
       have h1:=lQ;rw[show ((2:Int)*0+1*(EV.length:Int)).toNat=EV.length by omega,HxH.out,aL8] at h1;rw[HWW.out,HHH.out,HBB.out,HxH.out,aL8];exact h1
      obtain ⟨QR,Hb4,B4⟩:=aLb K6 (Hb3.out.trans hb4) (B3.out.bl hb4);have k3:=B4.out.all3;have aGi:=N2;clear lQ K6 he hb4;go_wp2_with fail;obtain ⟨wS,hwS⟩:=aLt (((w4.setCell ⟨w.heap.size+1+1,0,none⟩ (.int .i64 a)).setCell ⟨w.heap.size+1+1,1,none⟩ (.int .i64 b)).setCell ⟨w.heap.size+1+1,2,none⟩ (.slice R n d));have bS:Blk wS (w.heap.size+1+1) 43 #[a,.int .i64 b,.slice R n d]:=(by rw[hwS];exact ((B4.out.set_ 0 _).set_ 1 _).set_ 2 _);have hS:Bl w wS:=(by rw[hwS];exact ((Hb4.out.setCell (by show _≤_+1+1;omega) _).setCell (by show _≤_+1+1;omega) _).setCell (by show _≤_+1+1;omega) _);have rS:Res w3.heap.size wS 0 DW DH (DB.map .bool) a b R n d:=(by rw[hwS];exact ((QR.out.store (by show _+1+1<_;omega) _).store (by show _+1+1<_;omega) _).store (by show _+1+1<_;omega) _);rw[←hwS];have kF:=bS.all3;refine aL0 (v:=.tuple #[.agg #[a,.int .i64 b,.slice R n d],.int .i64 0]) (by simp[results,Tryz.results99,go_sem,kF]) rfl ⟨⟨a,b,R,n,d,by rw[HX.out],by rw[HX.out];exact rS.mono (by omega)⟩,hS⟩
   ·clear Hev;have q2:(CE != 0)=true:=(by simp[hz1]);have HX:=aLa (show DE=CE by rw[HE.out,if_neg hz1]);have Hz:=aLa hz1;have k3:=B3.out.all3;clear hz1;go_wp2_with fail;obtain ⟨wS,hwS⟩:=aLt (((w3.setCell ⟨w.heap.size+1+1,0,none⟩ (.int .i64 0)).setCell ⟨w.heap.size+1+1,1,none⟩ (.int .i64 0)).setCell ⟨w.heap.size+1+1,2,none⟩ (.slice none 0 0));have bS:Blk wS (w.heap.size+1+1) 43 #[.int .i64 0,.int .i64 0,.slice none 0 0]:=(by rw[hwS];exact ((B3.out.set_ 0 _).set_ 1 _).set_ 2 _);have hS:Bl w wS:=(by rw[hwS];exact ((Hb3.out.setCell (by show _≤_+1+1;omega) _).setCell (by show _≤_+1+1;omega) _).setCell (by show _≤_+1+1;omega) _);rw[←hwS];have kF:=bS.all3;refine aL0 (v:=.tuple #[.agg #[.int .i64 0,.int .i64 0,.slice none 0 0],CE]) (by simp[results,Tryz.results99,go_sem,kF]) rfl ⟨⟨0,0,none,0,0,by rw[HX.out],Res.zero _ _ _ _ _ (by rw[HX.out];exact Hz.out)⟩,hS⟩
end Go.Proofs.YtllefinciimffaaGreatDoor
