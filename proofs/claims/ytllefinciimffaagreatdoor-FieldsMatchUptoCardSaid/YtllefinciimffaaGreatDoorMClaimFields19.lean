import Derived.Test.YtllefinciimffaaGreatDoorMClaimFields17
import Derived.Shelf.SlSortCmp.NoneTotal
import Derived.Shelf.SlicesQ.IndexFunc
import Derived.Ground.SlgfProg
set_option maxHeartbeats 20000000
set_option maxRecDepth 100000
namespace Go.Proofs
open Go.Shelf
def Tryz.laysIdxCd_ren:Go.Shelf.Ren:=⟨fun|6=>196|n=>n,fun|22=>158|23=>161|25=>250|3=>3|0=>0|4=>4|n=>n,fun|n=>n⟩
theorem Tryz.laysIdxCd : Go.Proofs.SlLaysH0.n6 Tryz.prog Tryz.laysIdxCd_ren := {
 mixed:=by kernel_rfl
 f6:=⟨Tryz.f196.name,by decide,Tryz.func196.trans (congrArg some (by kernel_rfl))⟩
 t0:=Tryz.underlying0
 a0:=Tryz.isAgg0
 z0:=Tryz.sizeOf0
 v0:=Tryz.zeroValue0
 t3:=Tryz.underlying3
 a3:=Tryz.isAgg3
 z3:=Tryz.sizeOf3
 v3:=Tryz.zeroValue3
 t4:=Tryz.underlying4
 a4:=Tryz.isAgg4
 z4:=Tryz.sizeOf4
 v4:=Tryz.zeroValue4
 t22:=Tryz.underlying158
 a22:=Tryz.isAgg158
 z22:=Tryz.sizeOf158
 v22:=Tryz.zeroValue158
 t25:=Tryz.underlying250
 a25:=Tryz.isAgg250
 z25:=Tryz.sizeOf250
 v25:=Tryz.zeroValue250 }
end Go.Proofs
namespace Go.Proofs.YtllefinciimffaaGreatDoor
open Go.RowKit Go.Shelf Go.Sort Go.Lib
def toS (out:List Cd) (h:∀e∈out,CdIn e):List CdS:=out.pmap Subtype.mk h
theorem yB (out:List Cd) (h:∀e∈out,CdIn e):(toS out h).length=out.length:=List.length_pmap ..
theorem aBB {out:List Cd} (h:∀e∈out,CdIn e) {i:Nat} {e:Cd} (hi:out[i]? = some e):∃p,(toS out h)[i]? = some ⟨e,p⟩:=by
 obtain ⟨hl,he⟩:=aH3.1 hi;refine ⟨h e (List.mem_of_getElem? hi),?_⟩;rw[aH2 (by rw[yB];exact hl)]
 congr 1
 apply Subtype.ext;unfold toS;rw[List.getElem_pmap];exact he
def fB (out:List Cd) (h:∀e∈out,CdIn e):List Cd:=(pdq (ltOf M1) (toS out h).toArray 0 (toS out h).toArray.size (Lib.bitLen (toS out h).toArray.size) true true).toList.map (·.1)
theorem TY {w:World} {B blk cap:Nat} {T:TypeId} {out:List Cd} (h:∀e∈out,CdIn e) (aV:w.ownsRow B T 6 (.slice (some ⟨blk,0,none⟩) out.length cap) out.length (aK out)):HoldsK GT 6 w blk 0 (toS out h).toArray:=by
 intro j hj;rw[size_flatK,List.size_toArray,yB] at hj;rw[get_flatK _ _ _ _ (by rw[List.size_toArray,yB];exact hj),Nat.zero_add];obtain ⟨e,he⟩:∃e,out[j / 6]? = some e:=⟨_,aH2 (by omega)⟩;obtain ⟨p,hp⟩:=aBB h he;have h1:(toS out h).toArray[j / 6]! = ⟨e,p⟩:=by
  rw[List.getElem!_toArray,List.getElem!_eq_getElem?_getD,hp];rfl
 rw[h1];have hc:=kM he (j % 6) (by omega);rw[show j / 6*6+j % 6=j by omega] at hc;have hl:j % 6<e.cells.length:=(by show j % 6<6;omega);rw[aH2 hl] at hc;refine ⟨?_,(kR aV).2 j⟩;rw[gT aV hc];show some (e.cells[j % 6])=some (id (e.cells[j % 6]!));rw[List.getElem!_eq_getElem?_getD,aH2 hl];rfl
theorem GY {w:World} {blk:Nat} {d:Array CdS} (h:HoldsK GT 6 w blk 0 d):Reads w 6 (some ⟨blk,0,none⟩) d.size (aK (d.toList.map (·.1))):=by
 refine ⟨by rw[xO];simp,fun _=>⟨_,rfl,fun j u hu => ?_⟩⟩;have hj:j<d.size*6:=by
  have:=(aH3.1 hu).1;rw[xO] at this;simpa using this
 have hi:j / 6<d.size:=(by omega);have he:(d.toList.map (·.1))[j / 6]? = some (d[j / 6]!).1:=by
  rw[aId,Array.getElem?_toList,Array.getElem?_eq_getElem hi,getElem!_pos d _ hi];rfl
 have hc:=kM he (j % 6) (by omega);rw[show j / 6*6+j % 6=j by omega,hu] at hc;have:=HoldsK.cells h (fun _=>rfl) hi (j % 6) u hc.symm;rw[Addr.add_lit] at this;rw[Addr.add_lit,Nat.zero_add];rw[Nat.zero_add,show j / 6*6+j % 6=j by omega] at this;exact this
theorem GZ {w0 w:World} {blk n:Nat} {d:Array CdS} {os:Array Obj} (h:Bl w0 w) (hb:w0.heap.size≤blk):Bl w0 (sortWorldK GT 6 w blk 0 n d os):=by
 have h1:Bl w0 (putRowK GT 6 (Sort.ahead w n) blk 0 d):=Lib.below_putRow (q:=n) h hb;refine ⟨h1.os,h1.tape,h1.output,?_,fun k hk => ?_⟩
 ·have:=Below.size h1;show _≤((putRowK GT 6 (Sort.ahead w n) blk 0 d).heap++os).size;simp;omega
 ·have h2:=Below.block h1 k hk;have h3:=Below.size h1;show ((putRowK GT 6 (Sort.ahead w n) blk 0 d).heap++os)[k]? = _;rw[Array.getElem?_append_left (by omega)];exact h2
theorem M4 (g : Nat) (cf : CdS → CdS → Int) (hlt : ltOf cf = ltOf M1) (eg : ∀ args w, (callFunc g args).run Tryz.prog w = .ok (.enter g args) w)
 (hc:∀(x y:CdS) (w:World),Calls Tryz.prog g #[.agg (GT x).toArray,.agg (GT y).toArray] w fun e w'=>e=.returned (.int .i64 (cf x y))∧∃q os',w'=grow (w.drewN q) os')
 (B blk cap:Nat) (T:TypeId) (out:List Cd) (h:∀e∈out,CdIn e) (w:World) (aV:w.ownsRow B T 6 (.slice (some ⟨blk,0,none⟩) out.length cap) out.length (aK out)) (hn:out.length≤1000000) :
 Calls Tryz.prog 198 #[.slice (some ⟨blk,0,none⟩) out.length cap,.func (.func g) #[] #[]] w fun e w'=>e=.returned (.tuple #[])∧Reads w' 6 (some ⟨blk,0,none⟩) out.length (aK (fB out h))∧∀w0,Bl w0 w→w0.heap.size≤blk→Bl w0 w':=by
 have hs:(toS out h).toArray.size=out.length:=(by rw[List.size_toArray,yB]);have JA:blk<w.heap.size:=YX aV;have hH:=TY h aV;have hO:SWO (ltOf cf):=(by rw[hlt];exact vW);have aGN:CmpLays Tryz.prog g #[] GT 6 cf blk 0 (toS out h).toArray.size w:=fun _ _ _ _ x y=>hc x y _;have AD:=AnyQ.slices_SortFunc_eq Tryz.laysSortCd 6 Tryz.isAgg161 Tryz.sizeOf161 GT (fun _=>rfl) (fun x v hv=>by
  have hv:v∈([.int .i64 x.1.k,.string ⟨x.1.t.toArray⟩,.int .i64 x.1.X,.int .i64 x.1.Y,.int .i64 x.1.W,.int .i64 x.1.n]:List Value):=hv;simp only[aIk,List.not_mem_nil,or_false] at hv;rcases hv with rfl|rfl|rfl|rfl|rfl|rfl<;>rfl) cf hO g #[] blk 0 cap (toS out h).toArray w eg aGN hH JA (by omega)
 rw[hlt,hs] at AD;refine Calls.mono (R:=fun e w'=>e=.returned (.tuple #[])∧∃n os,w'=sortWorldK GT 6 w blk 0 n (pdq (ltOf M1) (toS out h).toArray 0 out.length (Lib.bitLen out.length) true true) os) AD ?_;rintro e w' ⟨rfl,n,os,rfl⟩;have hps:=(pdq_sorts (ltOf M1) vW (toS out h).toArray 0 (toS out h).toArray.size (Lib.bitLen (toS out h).toArray.size) true true (Nat.zero_le _) (Nat.le_refl _) (Or.inl rfl)).1.1;have hsw:SWK GT 6 w blk 0 (pdq (ltOf M1) (toS out h).toArray 0 out.length (Lib.bitLen out.length) true true) (sortWorldK GT 6 w blk 0 n (pdq (ltOf M1) (toS out h).toArray 0 out.length (Lib.bitLen out.length) true true) os):=⟨n,os,rfl⟩;have hsz:(pdq (ltOf M1) (toS out h).toArray 0 out.length (Lib.bitLen out.length) true true).size=(toS out h).toArray.size:=(by rw[hs] at hps;rw[hps,hs]);have hR:=GY (hsw.holds JA hH hsz);rw[hsz,hs] at hR;refine ⟨rfl,?_,fun w0 h0 hb=>GZ h0 hb⟩;unfold fB;rw[hs];exact hR
theorem uT (fv:Value) (c:Nat) (w:World):Calls Tryz.prog 198 #[.slice none 0 c,fv] w fun e w'=>e=.returned (.tuple #[])∧w'=w:=by
 have h:=AnyF.slices_SortFunc_none { Tryz.laysSortCd with } none c fv w;exact h
theorem KN (g : Nat) (lb : Array Value) (p : Cd → Bool) (eg : ∀ args w, (callFunc g args).run Tryz.prog w = .ok (.enter g args) w) (w : World)
 (hp:∀(W:World) (x:Cd),Bl w W→Calls Tryz.prog g (#[.agg x.cells.toArray]++lb) W fun e w'=>e=.returned (.bool (p x))∧Bl W w')
 (B blk cap:Nat) (T:TypeId) (out:List Cd) (aV:w.ownsRow B T 6 (.slice (some ⟨blk,0,none⟩) out.length cap) out.length (aK out)) (hn:out.length≤1000000) :
 Calls Tryz.prog 196 #[.slice (some ⟨blk,0,none⟩) out.length cap,.func (.func g) #[] lb] w fun e w'=>e=.returned (.int .i64 (match out.findIdx? p with|some k=>(k:Int)|none => -1))∧Bl w w':=by
 have AD:=AnyQ.slices_IndexFunc Tryz.laysIdxCd 6 Tryz.isAgg161 Tryz.sizeOf161 Cd.cells (fun _=>rfl) p g lb eg blk 0 out.length cap out w (fun W x hb=>(hp W x hb).mono fun _ _ ⟨he,hb'⟩=>⟨he,Bl.trans hb hb'⟩) (Nat.le_refl _) (by omega) (YX aV) (fun j hj i v hv=>by
  obtain ⟨e,he⟩:∃e,out[j]? = some e:=⟨_,aH2 hj⟩;have h1:out[j]! = e:=(by rw[List.getElem!_eq_getElem?_getD,he];rfl);rw[h1] at hv;have hi:i<6:=(aH3.1 hv).1;rw[Nat.zero_add];exact gT aV (by rw[kM he i hi];exact hv))
 rw[aH9,O5] at AD;exact AD
theorem mY:(Tryz.prog.info? 161).map (fun i=>(i.zero,i.size,i.bytes))=some (some (.agg #[.int .i64 0,.string ⟨#[]⟩,.int .i64 0,.int .i64 0,.int .i64 0,.int .i64 0]),6,56):=by kernel_rfl
theorem zZ (fv:Value) (w:World):Calls Tryz.prog 196 #[.slice none 0 0,fv] w fun e w'=>e=.returned (.int .i64 (-1))∧w=w':=by
 go_in
 go_wp2_with fail;refine wp_loop_rounds 1 ?_;rw[rounds_succ];go_wp2_with fail;go_ret;exact ⟨rfl,rfl⟩
def RowC (w:World) (B:Nat) (v:Value) (out:List Cd):Prop:=w.ownsRow B 161 6 v out.length (aK out)∧(out=[]→v=.slice none 0 0)
theorem RowC.nil (w:World) (B:Nat):RowC w B (.slice none 0 0) []:=⟨World.ownsRow_nil w B _ 6,fun _=>rfl⟩
theorem RowC.bl {w w':World} {B:Nat} {v:Value} {out:List Cd} (h:RowC w B v out) (hb:Bl w w'):RowC w' B v out:=⟨cX h.1 hb,h.2⟩
theorem RowC.got {w:World} {B:Nat} {v:Value} {out:List Cd} (h:RowC w B v out) (hn:out≠[]):∃g cap,v=.slice (some ⟨g,0,none⟩) out.length cap∧B≤g:=by
 obtain ⟨g,cap,hv,hb,_⟩:=gF h.1 (List.length_pos_iff.2 hn);exact ⟨g,cap,hv,hb⟩
theorem P9 (g : Nat) (lb : Array Value) (p : Cd → Bool) (eg : ∀ args w, (callFunc g args).run Tryz.prog w = .ok (.enter g args) w) (w : World)
 (hp:∀(W:World) (x:Cd),Bl w W→Calls Tryz.prog g (#[.agg x.cells.toArray]++lb) W fun e w'=>e=.returned (.bool (p x))∧Bl W w')
 (B:Nat) (v:Value) (out:List Cd) (aV:RowC w B v out) (hn:out.length≤1000000) :
 Calls Tryz.prog 196 #[v,.func (.func g) #[] lb] w fun e w'=>e=.returned (.int .i64 (match out.findIdx? p with|some k=>(k:Int)|none => -1))∧Bl w w':=by
 by_cases h0:out=[]
 ·rw[aV.2 h0,h0];refine (zZ _ w).mono ?_;rintro e w' ⟨rfl,rfl⟩;exact ⟨rfl,Bl.refl _⟩
 ·obtain ⟨gg,cap,rfl,hB⟩:=aV.got h0;exact KN g lb p eg w hp B gg cap _ out aV.1 hn
theorem lY {out:List Cd} {i:Nat} {o:Cd} (h:out[i]? = some o) (j:Nat) (hj:j<6) (u:Value):(aK out).set (i*6+j) u=(out.take i).flatMap Cd.cells++o.cells.set j u++(out.drop (i+1)).flatMap Cd.cells:=by
 induction out generalizing i with
 |nil=>simp at h
 |cons y out ih=>
  unfold aK;rw[aIM];cases i with
  |zero=>simp only[aIq,Option.some.injEq] at h;subst h;rw[List.set_append_left _ _ (by show 0*6+j<6;omega)];simp
  |succ i=>rw[List.set_append_right _ _ (by show 6≤(i+1)*6+j;omega)];rw[show (i+1)*6+j-y.cells.length=i*6+j by show (i+1)*6+j-6=_;omega];have:=ih (i:=i) (by simpa using h);unfold aK at this;rw[this];simp
theorem pC {out:List Cd} {i:Nat} {o:Cd} (h:out[i]? = some o) (c:Cd):aK (out.set i c)=(out.take i).flatMap Cd.cells++c.cells++(out.drop (i+1)).flatMap Cd.cells:=by
 induction out generalizing i with
 |nil=>simp at h
 |cons y out ih=>
  unfold aK;cases i with
  |zero=>simp
  |succ i=>have:=ih (i:=i) (by simpa using h);unfold aK at this;rw[List.set_cons_succ,aIM,this];simp
theorem KO {out:List Cd} {i:Nat} {o:Cd} (h:out[i]? = some o) (X Y W n:Int) :
 ((((aK out).set (i*6+2) (.int .i64 X)).set (i*6+3) (.int .i64 Y)).set (i*6+5) (.int .i64 n)).set (i*6+4) (.int .i64 W)=aK (out.set i ⟨o.k,o.t,X,Y,W,n⟩):=by
 have hl:i<out.length:=(aH3.1 h).1;have e1:(aK out).set (i*6+2) (.int .i64 X)=aK (out.set i ⟨o.k,o.t,X,o.Y,o.W,o.n⟩):=(by rw[lY h 2 (by omega),pC h];rfl);have h1:(out.set i ⟨o.k,o.t,X,o.Y,o.W,o.n⟩)[i]? = some ⟨o.k,o.t,X,o.Y,o.W,o.n⟩:=(by rw[List.getElem?_set_self hl]);have e2:(aK (out.set i ⟨o.k,o.t,X,o.Y,o.W,o.n⟩)).set (i*6+3) (.int .i64 Y)=aK (out.set i ⟨o.k,o.t,X,Y,o.W,o.n⟩):=(by rw[lY h1 3 (by omega)];exact (pC h1 ⟨o.k,o.t,X,Y,o.W,o.n⟩).symm.trans (by rw[List.set_set]));have h2:(out.set i ⟨o.k,o.t,X,Y,o.W,o.n⟩)[i]? = some ⟨o.k,o.t,X,Y,o.W,o.n⟩:=(by rw[List.getElem?_set_self hl]);have e3:(aK (out.set i ⟨o.k,o.t,X,Y,o.W,o.n⟩)).set (i*6+5) (.int .i64 n)=aK (out.set i ⟨o.k,o.t,X,Y,o.W,n⟩):=(by rw[lY h2 5 (by omega)];exact (pC h2 ⟨o.k,o.t,X,Y,o.W,n⟩).symm.trans (by rw[List.set_set]));have h3:(out.set i ⟨o.k,o.t,X,Y,o.W,n⟩)[i]? = some ⟨o.k,o.t,X,Y,o.W,n⟩:=(by rw[List.getElem?_set_self hl]);have e4:(aK (out.set i ⟨o.k,o.t,X,Y,o.W,n⟩)).set (i*6+4) (.int .i64 W)=aK (out.set i ⟨o.k,o.t,X,Y,W,n⟩):=(by rw[lY h3 4 (by omega)];exact (pC h3 ⟨o.k,o.t,X,Y,W,n⟩).symm.trans (by rw[List.set_set]));rw[e1,e2,e3,e4]
theorem RowC.set {w:World} {B g cap i:Nat} {out:List Cd} {o:Cd} (h:RowC w B (.slice (some ⟨g,0,none⟩) out.length cap) out) (hi:out[i]? = some o) (X Y W n:Int) :
 RowC ((((w.setCell ⟨g,i*6+2,none⟩ (.int .i64 X)).setCell ⟨g,i*6+3,none⟩ (.int .i64 Y)).setCell ⟨g,i*6+5,none⟩ (.int .i64 n)).setCell ⟨g,i*6+4,none⟩ (.int .i64 W)) B (.slice (some ⟨g,0,none⟩) (out.set i ⟨o.k,o.t,X,Y,W,n⟩).length cap) (out.set i ⟨o.k,o.t,X,Y,W,n⟩):=by
 refine ⟨?_,fun e => ?_⟩
 ·rw[←KO hi,List.length_set];exact dO (dO (dO (dO h.1 _ _) _ _) _ _) _ _
 ·have hl:i<out.length:=(aH3.1 hi).1;have:=congrArg List.length e;rw[List.length_set,List.length_nil] at this;omega
theorem jJ (out:List Cd) (h:∀e∈out,CdIn e):(fB out h).length=out.length:=by
 have hps:=(pdq_sorts (ltOf M1) vW (toS out h).toArray 0 (toS out h).toArray.size (Lib.bitLen (toS out h).toArray.size) true true (Nat.zero_le _) (Nat.le_refl _) (Or.inl rfl)).1.1;unfold fB;rw[aH6,Array.length_toList,hps,List.size_toArray,yB]
theorem fL (a b:List Cd):aK (a++b)=aK a++aK b:=by unfold aK;rw[aIL]
theorem QA (A:Option Addr) (d:Nat) (cs:List Cd) (w:World) (hx:Reads w 6 A cs.length (aK cs)) (hl:cs.length≤10000) (hok:∀c∈cs,CdOk 1 c) :
 Calls Tryz.prog 152 #[.slice A cs.length d] w fun e w'=>∃R c h,e=.returned (.slice R (cB cs).length c)∧Reads w' 6 R (cB cs).length (aK (fB (cB cs) h))∧Bl w w':=by
 obtain ⟨HX,HOK,HCk⟩:=aHI hx (rW hok) hok;clear hx hok
 go_in
 go_wp2_with fail;go_loopw [3,11] (fun s3 s11 wr=>∃(i:Nat) (v:Value),i≤cs.length∧s11=.int .i64 i∧v=s3∧Bl w wr∧RowC wr w.heap.size v (cB (cs.take i))) (fun _ s11 _=>cs.length-(RowKit.intOf s11).toNat);case atStart=>exact ⟨0,_,Nat.zero_le _,rfl,rfl,Bl.refl _,RowC.nil _ _⟩
 case round=>
  obtain ⟨i,v,hi,rfl,rfl,hbr,qY⟩:=hrel;have sS:=aHH qY;clear qY;by_cases hlt:i<cs.length
  ·obtain ⟨c,hc⟩:∃c,cs[i]? = some c:=⟨_,aH2 hlt⟩;obtain ⟨ad,rfl,k0,k1,k2,k3,k4,k5⟩:=O0 (HX.out.bl hbr) hc;have hin:(i:Int)<(cs.length:Int):=(by omega);have HG:=aHH (qJ hc);have HC1:=aHH (HCk.out c (List.mem_of_getElem? hc));obtain ⟨out,CJ⟩:=aH0 (cB (cs.take i));rw[←CJ] at sS HG;have HO:=aHH (show (∀e∈out,CdOk i e)∧out.length≤i from CJ ▸ HOK.out i hi);clear hc CJ;go_upto_region 5 with fail;obtain ⟨w5,hw5⟩:=aH0 (wr.alloc (.cells #[.int .i64 c.k,.string ⟨c.t.toArray⟩,.int .i64 c.X,.int .i64 c.Y,.int .i64 c.W,.int .i64 c.n] 161));obtain ⟨o,ho⟩:=aH0 wr.heap.size;have bO:=aHW hw5 ho;have hb5:=aHU hw5;rw[←hw5,←ho];obtain ⟨HLt,HBO,HB5,HR5⟩:=aHJ (show ∀g,v.ownBlock=some g→g<o from fun g hg=>by rw[ho];exact (sS.out.1.lt g hg).2) bO (Bl.trans hbr hb5) (sS.out.bl hb5);have aFz:=aHH (P9 197 #[.pointer (some ⟨o,0,none⟩)] (dH c) (fT Tryz.func197 (by kernel_rfl) rfl) w5 (fun W x hb=>JZ o c x W (bO.bl hb)) w.heap.size v out HR5.out (by have:=HO.out.2;omega));clear hw5 ho k0 k1 k2 k3 k4 k5 bO hb5 sS hbr;go_wp2_with fail;refine aFz.out.mono ?_;rintro e w6 ⟨rfl,hb6⟩;clear aFz;have HB6:=aHH (Bl.trans HB5.out hb6);have HR6:=aHH (HR5.out.bl hb6);have bO6:=HBO.out.bl hb6;have kO:=bO6.all6';have aFA:=aHH bO6;clear hb6 HR5 HB5 bO6 HBO;cases hf:out.findIdx? (dH c) with
   |none=>
    have HA:=aHH (F8 hf);clear hf;have HB1:=aHH (show w.heap.size≤w6.heap.size from HB6.out.le);have HL:=aHH (show out.length≤10000 by have:=HO.out.2;omega);go_wp2_with (at_builtin;refine aG (w1:=w) rfl (.tmp 20) (.tmp 22) 158 rfl 161 (.agg #[.int .i64 0,.string ⟨#[]⟩,.int .i64 0,.int .i64 0,.int .i64 0,.int .i64 0]) 6 56 Tryz.underlying158 mY rfl (by omega) w.heap.size v out.length (aK out) rfl (HB6.out.alloc _) (Nat.le_refl _) ?hBr (HR6.out.1.alloc _) (some ⟨w6.heap.size,0,none⟩) 1 1 c.cells rfl ((Blk.new _ _ _).reads 1 6 rfl) ?h1 ?c1 ?c2 ?_);case hBr=>have:=HB1.out;simp;omega
    case h1=>simp[Cd.cells,Value.oneCell']
    case c1=>have:=HL.out;unfold maxLen;omega
    case c2=>have:=HL.out;omega
    intro v' w8 bF hb8 hg8;have HR8:=aHH (show RowC w8 w.heap.size v' (cB (cs.take (i+1))) by
     rw[HG.out,HA.out];refine ⟨?_,fun e=>by simp at e⟩;rw[fL,aH5];simpa [aK] using bF)
    have HB8:=aHH hb8;clear bF hb8 hg8;go_wp2_with fail;exact ⟨⟨i+1,v',hlt,by go_num,rfl,HB8.out,HR8.out⟩,by simp[RowKit.intOf]<;>omega⟩
   |some k=>
    have hkl:=S4 hf;obtain ⟨e,he⟩:∃e,out[k]? = some e:=⟨_,aH2 hkl⟩;obtain ⟨g,cap,rfl,hBg⟩:=HR6.out.got (fun h=>by rw[h] at he;simp at he);obtain ⟨HA,HE,AF⟩:=aHI (xQ hf he) (HO.out.1 e (List.mem_of_getElem? he)) he;have nC:∀j u,j<6→e.cells[j]? = some u→w6.cell? ⟨g,k*6+j,none⟩=some u:=fun j u hj hu=>gT HR6.out.1 (by rw[kM he j hj];exact hu);have m2:w6.cell? ⟨g,k*6+2,none⟩=some (.int .i64 e.X):=nC 2 _ (by omega) rfl;have m3:w6.cell? ⟨g,k*6+3,none⟩=some (.int .i64 e.Y):=nC 3 _ (by omega) rfl;have m4:w6.cell? ⟨g,k*6+4,none⟩=some (.int .i64 e.W):=nC 4 _ (by omega) rfl;have m5:w6.cell? ⟨g,k*6+5,none⟩=some (.int .i64 e.n):=nC 5 _ (by omega) rfl;have mf:=(kR HR6.out.1).2;have hkI:(k:Int)<(out.length:Int):=(by omega);have hk0:¬((k:Int)<0):=(by omega);have hne:g≠o:=Nat.ne_of_lt (HLt.out g rfl);obtain ⟨-,hX0,hX1,hY0,hY1,hW0,hW1,hn0,hn1,-⟩:=HE.out;obtain ⟨-,cX0,cX1,cY0,cY1,cW0,cW1,cn0,cn1,-⟩:=HC1.out;have hi4:(i:Int)≤10000:=(by omega);clear hf nC he;obtain ⟨mx,hmx⟩:=aH1 (max (e.X+e.W) (c.X+c.W));obtain ⟨mn,hmn⟩:=aH1 (min e.X c.X);obtain ⟨my,hmy⟩:=aH1 (min e.Y c.Y);have hm0:0≤mx:=(by omega);have hm1:mx≤8000:=(by omega);have hm2:0≤mn:=(by omega);have hm3:mn≤4000:=(by omega);have qW:=HR6.out.set AF.out mn my (mx-mn) (e.n+c.n);have HS:=aHH (show RowC ((((w6.setCell ⟨g,k*6+2,none⟩ (.int .i64 mn)).setCell ⟨g,k*6+3,none⟩ (.int .i64 my)).setCell ⟨g,k*6+5,none⟩ (.int .i64 (e.n+c.n))).setCell ⟨g,k*6+4,none⟩ (.int .i64 (mx-mn))) w.heap.size (.slice (some ⟨g,0,none⟩) out.length cap) (cB (cs.take (i+1))) by
     rw[HG.out,HA.out];unfold uO;rw[hmx,hmn,hmy];rw[List.length_set] at qW;exact qW)
    have HBl:=aHH (show Bl w ((((w6.setCell ⟨g,k*6+2,none⟩ (.int .i64 mn)).setCell ⟨g,k*6+3,none⟩ (.int .i64 my)).setCell ⟨g,k*6+5,none⟩ (.int .i64 (e.n+c.n))).setCell ⟨g,k*6+4,none⟩ (.int .i64 (mx-mn))) from (((HB6.out.setCell hBg _).setCell hBg _).setCell hBg _).setCell hBg _);have HN2:=aHH (show (((w6.setCell ⟨g,k*6+2,none⟩ (.int .i64 mn)).setCell ⟨g,k*6+3,none⟩ (.int .i64 my)).setCell ⟨g,k*6+5,none⟩ (.int .i64 (e.n+c.n))).cell? ⟨g,k*6+2,none⟩=some (.int .i64 mn) by
     rw[World.cell?_setCell_other _ _ _ _ (by simp),World.cell?_setCell_other _ _ _ _ (by simp)];exact World.cell?_setCell_same' _ _ _ (by rw[m2];rfl))
    have HN4:=aHH (show (((w6.setCell ⟨g,k*6+2,none⟩ (.int .i64 mn)).setCell ⟨g,k*6+3,none⟩ (.int .i64 my)).setCell ⟨g,k*6+5,none⟩ (.int .i64 (e.n+c.n))).cell? ⟨g,k*6+4,none⟩=some (.int .i64 e.W) by
     rw[World.cell?_setCell_other _ _ _ _ (by simp),World.cell?_setCell_other _ _ _ _ (by simp),World.cell?_setCell_other _ _ _ _ (by simp)];exact m4)
    have HNf:=aHH (show ∀j,(((w6.setCell ⟨g,k*6+2,none⟩ (.int .i64 mn)).setCell ⟨g,k*6+3,none⟩ (.int .i64 my)).setCell ⟨g,k*6+5,none⟩ (.int .i64 (e.n+c.n))).frozen? ⟨g,j,none⟩=false from fun j=>by
     rw[World.frozen?_setCell,World.frozen?_setCell,World.frozen?_setCell];exact mf j)
    clear qW;go_upto_region 9 with fail;go_cut [8] from 27 to 41 (fun s8 wc=>s8=.int .i64 mx∧wc=w6.drew);case first=>
     refine aHZ [aHX 0,aHX 1,aHX 2,aHX 3,aHX 4,aHX 5,aHX 6,aHX 7,aHX 8,aHX 9,aHX 10,aHX 11,aHX 12,aHX 13,aHX 14,aHX 15] (by kernel_rfl) ?_;apply Flow.mv _ rfl
     ·intro a b;simp only[sqA,Act.eval,sqC];exact b
     iterate 3
      apply Flow.calm2 _ _ rfl rfl
      ·intro a b c d;obtain ⟨e,f⟩:=b.rule;go_simp;(try go_ints);exact d
      ·intro a b;simp only[sqA];exact b
     apply Flow.mv _ rfl
     ·intro a b;simp only[sqA,Act.eval,sqC];exact b
     iterate 10
      apply Flow.calm2 _ _ rfl rfl
      ·intro a b c d;obtain ⟨e,f⟩:=b.rule;go_simp;(try go_ints);exact d
      ·intro a b;simp only[sqA];exact b
     apply Flow.asg _ rfl
     ·intro a b;simp only[sqA,Act.eval,sqC];exact b
     refine Flow.done ?_;go_wp2_with fail;go_meet;case rel=>exact ⟨rfl,rfl⟩
    case rest=>
    obtain ⟨rfl,rfl⟩:=hcut;go_upto_region 10 with fail;go_cut [] from 42 to 71 (fun wc=>wc=((((w6.setCell ⟨g,k*6+2,none⟩ (.int .i64 mn)).setCell ⟨g,k*6+3,none⟩ (.int .i64 my)).setCell ⟨g,k*6+5,none⟩ (.int .i64 (e.n+c.n))).drew).drew);case first=>
     go_big_region
     go_wp2_with fail;go_meet;case rel=>rfl
    case rest=>
    subst hcut;generalize ((w6.setCell ⟨g,k*6+2,none⟩ (.int .i64 mn)).setCell ⟨g,k*6+3,none⟩ (.int .i64 my)).setCell ⟨g,k*6+5,none⟩ (.int .i64 (e.n+c.n))=w9 at HS HBl HN2 HN4 HNf ⊢;have n2:=HN2.out;have n4:=HN4.out;have nf:=HNf.out;clear m2 m3 m4 m5 mf kO hmx hmn hmy;go_wp2_with fail;exact ⟨⟨i+1,_,hlt,by go_num,rfl,HBl.out.drew.drew,HS.out.bl (Bl.refl _).drew.drew⟩,by simp[RowKit.intOf]<;>omega⟩
  ·obtain rfl:i=cs.length:=(by omega);have qY:=sS.out;have hgo:=HOK.out cs.length (Nat.le_refl _);rw[aH9] at qY hgo;have HIn:=aHH (show ∀e∈cB cs,CdIn e from fun e he=>(hgo.1 e he).in_);have HL:=aHH hgo.2;clear hgo sS;by_cases h0:cB cs=[]
   ·obtain rfl:=qY.2 h0;have HN:=aHH (uT (.func (.func 199) #[] #[]) 0 wr);have HH0:=aHH h0;clear qY h0;go_wp2_with fail;refine HN.out.mono ?_;rintro e w' ⟨rfl,rfl⟩;go_wp2_with fail;go_ret;refine ⟨none,0,HIn.out,by rw[HH0.out];rfl,?_,hbr⟩;have e1:∀(l:List Cd) (h:∀e∈l,CdIn e),l=[]→aK (fB l h)=[]:=fun l h e=>by
     have hl:(fB l h).length=0:=(by rw[jJ,e];rfl);rw[List.eq_nil_of_length_eq_zero hl];rfl
    rw[e1 _ _ HH0.out,HH0.out];exact Reads.none_
   ·obtain ⟨g,cap,rfl,hBg⟩:=qY.got h0;have HS:=aHH (M4 199 M1 rfl (fT Tryz.func199 (by kernel_rfl) rfl) KH w.heap.size g cap _ (cB cs) HIn.out wr qY.1 (by have:=HL.out;omega));clear qY h0;go_wp2_with fail;refine HS.out.mono ?_;rintro e w1 ⟨rfl,hr1,hb1⟩;have hb2:=hb1 w hbr hBg;go_wp2_with fail;go_ret;exact ⟨_,_,HIn.out,rfl,hr1,hb2⟩
end Go.Proofs.YtllefinciimffaaGreatDoor
namespace Go.Proofs.YtllefinciimffaaGreatDoor
open Go.RowKit Go.Shelf
def iP (x:Int × List UInt8):Value:=.agg #[.int .i64 x.1,.string ⟨x.2.toArray⟩]
theorem BK (a b:Int × List UInt8) (h:iP a=iP b):a=b:=by
 obtain ⟨a1,a2⟩:=a;obtain ⟨b1,b2⟩:=b;unfold iP at h;simp at h;obtain ⟨h1,h2⟩:=h;rw[h1,h2]
theorem TZ (a b:Int × List UInt8) (w:World):(Op.equal 286 (iP a) (iP b)).run Tryz.prog w=.ok (decide (a=b)) w:=by
 have hS:Tryz.prog.underlying 286=some (.struct (Tryz.prog.fieldsOf 286)):=(by kernel_rfl);have hp:Tryz.prog.stoodInHeld 286=false:=(by kernel_rfl);obtain ⟨a1,a2⟩:=a;obtain ⟨b1,b2⟩:=b;have u3:=Tryz.underlying3;have u9:=Tryz.underlying9;unfold iP Op.equal Op.maxDepth;rw[show (10000:Nat)=9999+1 from rfl,run_equalIn_agg w 9999 286 _ _ hS hp];simp only[Program.fieldsOf,Tryz.underlying286];go_simp;by_cases h1:a1=b1<;>by_cases h2:a2=b2<;>simp[h1,h2]
theorem BL (w : World) (k : Int × List UInt8) : ∀ (l : List MapEntry) (i : Nat), (∀ x ∈ l, ∃ a, x.key = iP a) →
 (∃j e,(Instr.findAsking 286 (iP k) l i).run Tryz.prog w=.ok (some (i+j,e.val)) w∧l[j]? = some e∧e.key=iP k)∨((Instr.findAsking 286 (iP k) l i).run Tryz.prog w=.ok none w∧∀x∈l,x.key≠iP k)
 |[],i,_=>.inr ⟨rfl,fun x hx=>by cases hx⟩
 |e :: l,i,h=>by
  obtain ⟨a,ha⟩:=h e (.head _);have he:=TZ k a w;by_cases hk:k=a
  ·rw[aIu hk] at he;refine .inl ⟨0,e,?_,rfl,by rw[ha,hk]⟩;simp[Instr.findAsking,ha,he,Result.andThen]
  ·rw[aIt hk] at he;have hne:e.key≠iP k:=fun h=>hk (BK _ _ (ha.symm.trans h)).symm;rcases BL w k l (i+1) (fun x hx=>h x (.tail _ hx)) with ⟨j,e',h1,h2,h3⟩|⟨h1,h2⟩
   ·refine .inl ⟨j+1,e',?_,by simpa using h2,h3⟩;rw[show i+(j+1)=i+1+j by omega,←h1];simp[Instr.findAsking,ha,he,Result.andThen]
   ·refine .inr ⟨?_,fun x hx => ?_⟩
    ·rw[←h1];simp[Instr.findAsking,ha,he,Result.andThen]
    ·cases hx with
     |head=>exact hne
     |tail _ hx=>exact h2 x hx
theorem M5:KeyKind Tryz.prog 286 iP where
 find w k l hl:=by
  cases l with
  |nil=>refine .inr ⟨?_,fun x hx=>by cases hx⟩;simp[Instr.findKey,run_underlying Tryz.underlying286,Instr.findNow,Result.andThen]
  |cons e l=>
   obtain ⟨a,ha⟩:=hl e (.head _);have hr:(Instr.findKey 286 (iP k) (e :: l)).run Tryz.prog w=(Instr.findAsking 286 (iP k) (e :: l)).run Tryz.prog w:=by
    simp only[Instr.findKey,Sem.run_bind,run_underlying Tryz.underlying286,Result.andThen_ok,Instr.findNow,ha];rfl
   rw[hr];rcases BL w k (e :: l) 0 hl with ⟨j,e',h1,h2,h3⟩|h
   ·rw[Nat.zero_add] at h1;exact .inl ⟨j,e',h1,h2,h3⟩
   ·exact .inr h
 check w e k:=by
  unfold iP;have c3:∀n,(Instr.checkKey e (n+1) 3 (.int .i64 k.1)).run Tryz.prog w=.ok () w:=fun n=>MapKept.run_checkKey (k:=.int .i64 k.1) Tryz.underlying3 (show IntKind.i64=IntKind.i64 from rfl) e n;have c9:∀n,(Instr.checkKey e (n+1) 9 (.string ⟨k.2.toArray⟩)).run Tryz.prog w=.ok () w:=fun n=>MapKept.run_checkKey (k:=.string ⟨k.2.toArray⟩) Tryz.underlying9 (show True from trivial) e n;have p3:(part 3 #[.int .i64 k.1,.string ⟨k.2.toArray⟩] 0).run Tryz.prog w=.ok (.int .i64 k.1) w:=(by go_simp);have p9:(part 9 #[.int .i64 k.1,.string ⟨k.2.toArray⟩] 1).run Tryz.prog w=.ok (.string ⟨k.2.toArray⟩) w:=(by go_simp);rw[show (10000:Nat)=9998+1+1 from rfl];unfold Instr.checkKey;simp only[Sem.run_bind,run_underlying Tryz.underlying286,Result.andThen_ok];rw[←Array.forIn_toList];simp only[List.forIn_cons,List.forIn_nil,Sem.run_bind];simp[p3,p9,c3,c9,Result.andThen]
 stays w k:=by
  unfold iP;have hb:((⟨k.2.toArray⟩:ByteArray)==⟨k.2.toArray⟩)=true:=(MapKept.bytes_beq _ _).2 rfl;simp[Instr.keyThatStays,Instr.sameBits,hb]
 inj:=BK
theorem RowC.of_heap {w w':World} {B:Nat} {v:Value} {out:List Cd} (h:RowC w B v out) (hb:∀g,v.ownBlock=some g→w'.heap[g]? = w.heap[g]?):RowC w' B v out:=by
 refine ⟨⟨h.1.1,?_⟩,h.2⟩;rcases h.1.2 with h2|⟨g,cap,cur,hv,hg,hh,r⟩
 ·exact .inl h2
 ·subst hv;exact .inr ⟨g,cap,cur,rfl,hg,(hb g rfl).trans hh,r⟩
end Go.Proofs.YtllefinciimffaaGreatDoor
namespace Go.Proofs.YtllefinciimffaaGreatDoor
open Go.RowKit Go.Shelf Go.Sort Go.Lib
theorem T2 {cs:List Cd} {i:Nat} {c:Cd} (h0:aB ((cs.take i).map gL)=0) (hc:cs[i]? = some c) (h:gL c≠0):eS cs=gL c:=by
 unfold eS;rw[tF gL cs i c h0 hc h,if_neg h]
def VoteRes (cs:List Cd) (w:World) (e:Ending) (w':World):Prop:=
 (eS cs≠0∧e=.returned (.tuple #[.slice none 0 0,.int .i64 (eS cs)])∧Bl w w') ∨
 (eS cs=0∧∃R c h,e=.returned (.tuple #[.slice R (cB cs).length c,.int .i64 0])∧Reads w' 6 R (cB cs).length (aK (fB (cB cs) h))∧Bl w w')
theorem XC (A:Option Addr) (d:Nat) (cs:List Cd) (w:World) (hx:Reads w 6 A cs.length (aK cs)) (hl:cs.length≤9223372036854775807) (ht:∀c∈cs,c.t.length≤9223372036854775807) :
 Calls Tryz.prog 184 #[.slice A cs.length d] w (VoteRes cs w):=by
 have HX:=aHH hx;have HT:=aHH ht;clear hx ht;have HSd:=aHH WS
 go_in
 go_wp2_with fail;go_loopw [18] (fun s18 wr=>∃i:Nat,i≤cs.length∧s18=.int .i64 i∧Bl w wr∧Hid (aB ((cs.take i).map gL)=0)) (fun s18 _=>cs.length-(RowKit.intOf s18).toNat);case atStart=>exact ⟨0,Nat.zero_le _,rfl,Bl.refl _,aHH rfl⟩
 case round=>
  obtain ⟨i,hi,rfl,hbr,H0⟩:=hrel;by_cases hlt:i<cs.length
  ·obtain ⟨c,hc⟩:∃c,cs[i]? = some c:=⟨_,aH2 hlt⟩;obtain ⟨ad,rfl,k0,k1,k2,k3,k4,k5⟩:=O0 (HX.out.bl hbr) hc;have aD0:=aHH (fun (h:gL c≠0)=>T2 H0.out hc h);have aB8:=aHH (fun (h:gL c=0)=>oR gL cs i c H0.out hc h);have hin:(i:Int)<(cs.length:Int):=(by omega);clear hc;go_upto_region 5 with fail;obtain ⟨w5,hw5⟩:=aH0 (wr.alloc (.cells #[.int .i64 c.k,.string ⟨c.t.toArray⟩,.int .i64 c.X,.int .i64 c.Y,.int .i64 c.W,.int .i64 c.n] 161));obtain ⟨o,ho⟩:=aH0 wr.heap.size;have bO:=aHW hw5 ho;have hb5:Bl w w5:=(by rw[hw5];exact hbr.alloc _);rw[←hw5,←ho];clear hw5 ho k0 k1 k2 k3 k4 k5;have kO:=bO.all6';obtain ⟨kb,hkb⟩:∃b,b=decide (c.k≠1∧c.k≠2):=⟨_,rfl⟩;have HKb:=aHH hkb;clear hkb;go_cut [22] from 22 to 30 (fun s22 wc=>s22=.bool kb∧wc=w5);case first=>
    by_cases hk1:c.k=1
    ·have h1:(c.k != 1)=false:=(by rw[bne_eq_false_iff_eq];exact hk1);have HV:=aHH (show kb=false by rw[HKb.out];exact aIt (fun h=>h.1 hk1));clear hk1;go_wp2_with fail;go_meet;case rel=>exact ⟨by rw[HV.out],rfl⟩
    ·have h1:(c.k != 1)=true:=(by rw[bne_iff_ne];exact hk1);by_cases hk2:c.k=2
     ·have h2:(c.k != 2)=false:=(by rw[bne_eq_false_iff_eq];exact hk2);have HV:=aHH (show kb=false by rw[HKb.out];exact aIt (fun h=>h.2 hk2));clear hk1 hk2;go_wp2_with fail;go_meet;case rel=>exact ⟨by rw[HV.out],rfl⟩
     ·have h2:(c.k != 2)=true:=(by rw[bne_iff_ne];exact hk2);have HV:=aHH (show kb=true by rw[HKb.out];exact aIu ⟨hk1,hk2⟩);clear hk1 hk2;go_wp2_with fail;go_meet;case rel=>exact ⟨by rw[HV.out],rfl⟩
   case rest=>
    obtain ⟨rfl,rfl⟩:=hcut;rename World=>w5;cases kb with
    |true=>have hk:=aIv HKb.out.symm;have HE:=aHH (show eS cs=1 by rw[aD0.out (by unfold gL;rw[if_pos hk];decide)];unfold gL;rw[if_pos hk]);clear hk;go_wp2_with fail;refine aIx (v:=.tuple #[.slice none 0 0,.int .i64 1]) (by simp[results,Tryz.results184,go_sem]) rfl (Or.inl ⟨by rw[HE.out];decide,by rw[HE.out],hb5⟩)
    |false=>
     have hk:=of_decide_eq_false HKb.out.symm;have aD1:=aHH (show gL c=if jA c=false then 3 else 0 by unfold gL;rw[if_neg hk]);clear hk;have H3:=aHH (fun (h:jA c=false)=>(show eS cs=3 by rw[aD0.out (by rw[aD1.out,h];decide),aD1.out,h];rfl));cases hX:inB c.X 0 4000
     ·have HE:=aHH (H3.out (by unfold jA;rw[hX];rfl));go_wp2_with fail;refine (HSd.out _ _).mono ?_;rintro e w' ⟨rfl,rfl⟩;go_wp2_with fail;refine aIx (v:=.tuple #[.slice none 0 0,.int .i64 3]) (by simp[results,Tryz.results184,go_sem]) rfl (Or.inl ⟨by rw[HE.out];decide,by rw[HE.out],hb5⟩)
     ·cases hY:inB c.Y 0 4000
      ·have HE:=aHH (H3.out (by unfold jA;rw[hX,hY];rfl));go_wp2_with fail;refine (HSd.out _ _).mono ?_;rintro e w' ⟨rfl,rfl⟩;go_wp2_with fail;refine (HSd.out _ _).mono ?_;rintro e w' ⟨rfl,rfl⟩;go_wp2_with fail;refine aIx (v:=.tuple #[.slice none 0 0,.int .i64 3]) (by simp[results,Tryz.results184,go_sem]) rfl (Or.inl ⟨by rw[HE.out];decide,by rw[HE.out],hb5⟩)
      ·cases hW:inB c.W 0 4000
       ·have HE:=aHH (H3.out (by unfold jA;rw[hX,hY,hW];rfl));go_wp2_with fail;refine (HSd.out _ _).mono ?_;rintro e w' ⟨rfl,rfl⟩;go_wp2_with fail;refine (HSd.out _ _).mono ?_;rintro e w' ⟨rfl,rfl⟩;go_wp2_with fail;refine (HSd.out _ _).mono ?_;rintro e w' ⟨rfl,rfl⟩;go_wp2_with fail;refine aIx (v:=.tuple #[.slice none 0 0,.int .i64 3]) (by simp[results,Tryz.results184,go_sem]) rfl (Or.inl ⟨by rw[HE.out];decide,by rw[HE.out],hb5⟩)
       ·by_cases hn1:c.n<1
        ·have HE:=aHH (H3.out (by unfold jA;rw[hX,hY,hW];show inB c.n 1 1000000=false;unfold inB;simp;omega));go_wp2_with fail;refine (HSd.out _ _).mono ?_;rintro e w' ⟨rfl,rfl⟩;go_wp2_with fail;refine (HSd.out _ _).mono ?_;rintro e w' ⟨rfl,rfl⟩;go_wp2_with fail;refine (HSd.out _ _).mono ?_;rintro e w' ⟨rfl,rfl⟩;go_wp2_with fail;refine aIx (v:=.tuple #[.slice none 0 0,.int .i64 3]) (by simp[results,Tryz.results184,go_sem]) rfl (Or.inl ⟨by rw[HE.out];decide,by rw[HE.out],hb5⟩)
        ·by_cases hn2:1000000<c.n
         ·have HE:=aHH (H3.out (by unfold jA;rw[hX,hY,hW];show inB c.n 1 1000000=false;unfold inB;simp;omega));go_wp2_with fail;refine (HSd.out _ _).mono ?_;rintro e w' ⟨rfl,rfl⟩;go_wp2_with fail;refine (HSd.out _ _).mono ?_;rintro e w' ⟨rfl,rfl⟩;go_wp2_with fail;refine (HSd.out _ _).mono ?_;rintro e w' ⟨rfl,rfl⟩;go_wp2_with fail;refine aIx (v:=.tuple #[.slice none 0 0,.int .i64 3]) (by simp[results,Tryz.results184,go_sem]) rfl (Or.inl ⟨by rw[HE.out];decide,by rw[HE.out],hb5⟩)
         ·have HG2:=aHH (aB8.out (by rw[aD1.out];unfold jA;rw[hX,hY,hW,show inB c.n 1 1000000=true by unfold inB;simp;omega];rfl));clear H3 aD0 aB8;go_wp2_with fail;refine (HSd.out _ _).mono ?_;rintro e w' ⟨rfl,rfl⟩;go_wp2_with fail;refine (HSd.out _ _).mono ?_;rintro e w' ⟨rfl,rfl⟩;go_wp2_with fail;refine (HSd.out _ _).mono ?_;rintro e w' ⟨rfl,rfl⟩;go_wp2_with fail;exact ⟨⟨i+1,hlt,by go_num,hb5,HG2⟩,by simp[RowKit.intOf]<;>omega⟩
  ·obtain rfl:i=cs.length:=(by omega);have h0:=H0.out;rw[aH9] at h0;have HV:=aHH (show eS cs=aE (decide (10000<(cs.length:Int))) 4 by unfold eS;rw[if_pos h0]);have iG:∀c∈cs,CdOk 1 c:=fun c hc=>qK (by
    have key:∀l:List Cd,aB (l.map gL)=0→∀c∈l,gL c=0:=fun l=>by
     induction l with
     |nil=>intro _ c hc;cases hc
     |cons x l ih=>
      intro h c hc;have h':(if gL x=0 then aB (l.map gL) else gL x)=0:=h;by_cases hx:gL x=0
      ·rw[if_pos hx] at h';rcases aIk.1 hc with rfl|hc
       ·exact hx
       ·exact ih h' c hc
      ·rw[if_neg hx] at h';exact absurd h' hx
    exact key cs h0 c hc) (HT.out c hc)
   have HOK:=aHH (rW iG);have HCk:=aHH iG;clear h0 iG H0;by_cases cT:(10000:Int)<(cs.length:Int)
   ·have HE:=aHH (show eS cs=4 by rw[HV.out,aIu cT];rfl);go_wp2_with fail;refine aIx (v:=.tuple #[.slice none 0 0,.int .i64 4]) (by simp[results,Tryz.results184,go_sem]) rfl (Or.inl ⟨by rw[HE.out];decide,by rw[HE.out],hbr⟩)
   ·have HE:=aHH (show eS cs=0 by rw[HV.out,aIt cT];rfl);have hl4:cs.length≤10000:=(by omega);clear HV;have hmm:=@run_makeMap Tryz.prog;have hmt:=Tryz.underlying284;go_wp2_with fail;clear hmm;obtain ⟨b0,hb0⟩:=aH0 wr.heap.size;have hm0:MapL iP (fun z:Int=>.int .i64 z) (wr.alloc (.map #[] 0)) b0 []:=(by rw[hb0];exact MapL.new _);have hb1:Bl w (wr.alloc (.map #[] 0)):=hbr.alloc _;have HB0:=aHH (show w.heap.size≤b0 by rw[hb0];exact hbr.le);rw[←hb0];generalize wr.alloc (.map #[] 0)=w1 at hm0 hb1 ⊢;clear hb0 hbr;have HSt:=aHH (And.intro hb1 (And.intro (RowC.nil w1 (b0+1)) (And.intro hm0 PlacesOf.nil)));clear hm0 hb1;go_wp2_with fail;go_loopw [8,68] (fun s8 s68 wr=>∃(i:Nat) (v:Value) (m:List ((Int × List UInt8) × Int)),i≤cs.length∧s68=.int .i64 i∧v=s8∧Bl w wr∧RowC wr (b0+1) v (cB (cs.take i))∧MapL iP (fun z:Int=>.int .i64 z) wr b0 m∧PlacesOf m (cB (cs.take i))) (fun _ s68 _=>cs.length-(RowKit.intOf s68).toNat);case atStart=>exact ⟨0,_,[],Nat.zero_le _,rfl,rfl,HSt.out.1,HSt.out.2.1,HSt.out.2.2.1,HSt.out.2.2.2⟩
    case round=>
     rename World=>wr;obtain ⟨i,v,m,hi,rfl,rfl,hbr,qY,aCT,hpl⟩:=hrel;obtain ⟨sS,aD2,HP⟩:=aHI qY aCT hpl;clear qY aCT hpl HSt;by_cases hlt:i<cs.length
     ·obtain ⟨c,hc⟩:∃c,cs[i]? = some c:=⟨_,aH2 hlt⟩;obtain ⟨ad,rfl,k0,k1,k2,k3,k4,k5⟩:=O0 (HX.out.bl hbr) hc;have hin:(i:Int)<(cs.length:Int):=(by omega);have HG:=aHH (qJ hc);have HC1:=aHH (HCk.out c (List.mem_of_getElem? hc));obtain ⟨out,CJ⟩:=aH0 (cB (cs.take i));rw[←CJ] at sS HG HP;have HO:=aHH (show (∀e∈out,CdOk i e)∧out.length≤i from CJ ▸ HOK.out i hi);clear hc CJ;go_upto_region 18 with fail;obtain ⟨w6,hw6⟩:=aH0 ((wr.alloc (.cells #[.int .i64 c.k,.string ⟨c.t.toArray⟩,.int .i64 c.X,.int .i64 c.Y,.int .i64 c.W,.int .i64 c.n] 161)).alloc (.cells #[.int .i64 c.k,.string ⟨c.t.toArray⟩] 286));obtain ⟨o,ho⟩:=aH0 wr.heap.size;have bO6:Blk w6 o 161 #[.int .i64 c.k,.string ⟨c.t.toArray⟩,.int .i64 c.X,.int .i64 c.Y,.int .i64 c.W,.int .i64 c.n]:=(by rw[hw6,ho];exact (Blk.new _ _ _).alloc _);have bK6:Blk w6 (o+1) 286 #[.int .i64 c.k,.string ⟨c.t.toArray⟩]:=by
       have h:=Blk.new (wr.alloc (.cells #[.int .i64 c.k,.string ⟨c.t.toArray⟩,.int .i64 c.X,.int .i64 c.Y,.int .i64 c.W,.int .i64 c.n] 161)) 286 #[.int .i64 c.k,.string ⟨c.t.toArray⟩];rw[World.size_alloc] at h;rw[hw6,ho];exact h
      have hb6:Bl wr w6:=(by rw[hw6];exact ((Bl.refl _).alloc _).alloc _);rw[←hw6,←ho];obtain ⟨HLt,HBo,aFA,HB6,HR6,HM6⟩:=aHL (show ∀g,v.ownBlock=some g→g<o from fun g hg=>by rw[ho];exact (sS.out.1.lt g hg).2) (show b0<o by rw[ho];exact aD2.out.lt) bO6 (Bl.trans hbr hb6) (sS.out.bl hb6) (aD2.out.bl hb6);have kO:=bO6.all6';have kK:=bK6.all2;clear hw6 ho k0 k1 k2 k3 k4 k5 bO6 bK6 hb6 sS hbr aD2;have N4:=HM6.out.lookup2 M5 hmt (Tryz.zeroValue3 w6) (RI c);have hpc:=HP.out c;cases hf:out.findIdx? (dH c) with
      |none=>
       rw[hf] at hpc;rw[hpc] at N4;have hlk:(Instr.lookup 284 (.map (some b0)) (.agg #[.int .i64 c.k,.string ⟨c.t.toArray⟩]) true).run Tryz.prog w6=.ok (.tuple #[.int .i64 0,.bool false]) w6:=N4;have HA:=aHH (F8 hf);have HPl:=aHH (HP.out.append hf);obtain ⟨w7,aFB,hm7,aC1⟩:=HM6.out.update M5 hmt (RI c) (out.length:Int);have hup:(Instr.mapUpdate 284 (.map (some b0)) (.agg #[.int .i64 c.k,.string ⟨c.t.toArray⟩]) (.int .i64 (out.length:Int))).run Tryz.prog w6=.ok () w7:=aFB;have bO7:Blk w7 o 161 #[.int .i64 c.k,.string ⟨c.t.toArray⟩,.int .i64 c.X,.int .i64 c.Y,.int .i64 c.W,.int .i64 c.n]:=(aC1.1 o (by have:=HBo.out;omega)).trans aFA.out;have kO7:=bO7.all6';obtain ⟨HR7,HM7,HB7,aD3⟩:=aHJ (HR6.out.of_heap (w':=w7) fun g hg=>aC1.1 g (by have h1:=(HR6.out.1.lt g hg).1;omega)) hm7 (aC1.2.2 w HB6.out HB0.out) (show b0+1≤w7.heap.size by have:=hm7.lt;omega);obtain ⟨A1,c1,hv1⟩:∃A1 c1,v=.slice A1 out.length c1:=by
        obtain ⟨A1,c1,h1,_⟩:=bL HR7.out.1;exact ⟨A1,c1,h1⟩
       subst hv1;have HL:=aHH (show out.length≤10000 by have:=HO.out.2;omega);clear hf hpc N4 aFB hm7 aC1 bO7;go_wp2_with (at_builtin;refine aG (w1:=w) rfl (.tmp 89) (.tmp 91) 158 rfl 161 (.agg #[.int .i64 0,.string ⟨#[]⟩,.int .i64 0,.int .i64 0,.int .i64 0,.int .i64 0]) 6 56 Tryz.underlying158 mY rfl (by omega) (b0+1) _ out.length (aK out) rfl (HB7.out.alloc _) ?hB ?hBr (HR7.out.1.alloc _) (some ⟨w7.heap.size,0,none⟩) 1 1 c.cells rfl ((Blk.new _ _ _).reads 1 6 rfl) ?h1 ?c1 ?c2 ?_);case hB=>have:=HB0.out;omega
       case hBr=>have:=aD3.out;simp;omega
       case h1=>simp[Cd.cells,Value.oneCell']
       case c1=>have:=HL.out;unfold maxLen;omega
       case c2=>have:=HL.out;omega
       intro v' w8 bF hb8 hg8;have HM8:=aHH (HM7.out.other (w':=w8) (by
        have h1:=hg8.block b0 (by have:=aD3.out;simp;omega) (fun e=>by have:=(HR7.out.1.lt b0 e.symm).1;omega);rw[h1];exact Below.heap_alloc w7 _ b0 (by have:=aD3.out;omega)))
       have HR8:=aHH (show RowC w8 (b0+1) v' (cB (cs.take (i+1))) by
        rw[HG.out,HA.out];refine ⟨?_,fun e=>by simp at e⟩;rw[fL,aH5];simpa [aK] using bF)
       have HP8:=aHH (show PlacesOf ((RI c,(out.length:Int)) :: m) (cB (cs.take (i+1))) by
        rw[HG.out,HA.out];exact HPl.out)
       have HB8:=aHH hb8;clear bF hb8 hg8;go_wp2_with fail;exact ⟨⟨i+1,v',_,hlt,by go_num,rfl,HB8.out,HR8.out,HM8.out,HP8.out⟩,by simp[RowKit.intOf]<;>omega⟩
      |some k=>
       rw[hf] at hpc;rw[hpc] at N4;have hlk:(Instr.lookup 284 (.map (some b0)) (.agg #[.int .i64 c.k,.string ⟨c.t.toArray⟩]) true).run Tryz.prog w6=.ok (.tuple #[.int .i64 (k:Int),.bool true]) w6:=N4;clear N4 hpc;have hkl:=S4 hf;obtain ⟨e,he⟩:∃e,out[k]? = some e:=⟨_,aH2 hkl⟩;obtain ⟨g,cap,rfl,hBg⟩:=HR6.out.got (fun h=>by rw[h] at he;simp at he);have aC2:w.heap.size≤g:=(by have:=HB0.out;omega);have HPl:=aHH (HP.out.set (c:=c) he);rw[←xQ hf he,←HG.out] at HPl;obtain ⟨HA,HE,AF⟩:=aHI (xQ hf he) (HO.out.1 e (List.mem_of_getElem? he)) he;have nC:∀j u,j<6→e.cells[j]? = some u→w6.cell? ⟨g,k*6+j,none⟩=some u:=fun j u hj hu=>gT HR6.out.1 (by rw[kM he j hj];exact hu);have m2:w6.cell? ⟨g,k*6+2,none⟩=some (.int .i64 e.X):=nC 2 _ (by omega) rfl;have m3:w6.cell? ⟨g,k*6+3,none⟩=some (.int .i64 e.Y):=nC 3 _ (by omega) rfl;have m4:w6.cell? ⟨g,k*6+4,none⟩=some (.int .i64 e.W):=nC 4 _ (by omega) rfl;have m5:w6.cell? ⟨g,k*6+5,none⟩=some (.int .i64 e.n):=nC 5 _ (by omega) rfl;have mf:=(kR HR6.out.1).2;have hkI:(k:Int)<(out.length:Int):=(by omega);have hk0:¬((k:Int)<0):=(by omega);have hne:g≠o:=Nat.ne_of_lt (HLt.out g rfl);obtain ⟨-,hX0,hX1,hY0,hY1,hW0,hW1,hn0,hn1,-⟩:=HE.out;obtain ⟨-,cX0,cX1,cY0,cY1,cW0,cW1,cn0,cn1,-⟩:=HC1.out;have hi4:(i:Int)≤10000:=(by omega);clear hf nC he;obtain ⟨mx,hmx⟩:=aH1 (max (e.X+e.W) (c.X+c.W));obtain ⟨mn,hmn⟩:=aH1 (min e.X c.X);obtain ⟨my,hmy⟩:=aH1 (min e.Y c.Y);have hm0:0≤mx:=(by omega);have hm1:mx≤8000:=(by omega);have hm2:0≤mn:=(by omega);have hm3:mn≤4000:=(by omega);have qW:=HR6.out.set AF.out mn my (mx-mn) (e.n+c.n);have HS:=aHH (show RowC ((((w6.setCell ⟨g,k*6+2,none⟩ (.int .i64 mn)).setCell ⟨g,k*6+3,none⟩ (.int .i64 my)).setCell ⟨g,k*6+5,none⟩ (.int .i64 (e.n+c.n))).setCell ⟨g,k*6+4,none⟩ (.int .i64 (mx-mn))) (b0+1) (.slice (some ⟨g,0,none⟩) out.length cap) (cB (cs.take (i+1))) by
        rw[HG.out,HA.out];unfold uO;rw[hmx,hmn,hmy];rw[List.length_set] at qW;exact qW)
       have HBl:=aHH (show Bl w ((((w6.setCell ⟨g,k*6+2,none⟩ (.int .i64 mn)).setCell ⟨g,k*6+3,none⟩ (.int .i64 my)).setCell ⟨g,k*6+5,none⟩ (.int .i64 (e.n+c.n))).setCell ⟨g,k*6+4,none⟩ (.int .i64 (mx-mn))) from (((HB6.out.setCell aC2 _).setCell aC2 _).setCell aC2 _).setCell aC2 _);have HMp:=aHH (HM6.out.other (w':=(((w6.setCell ⟨g,k*6+2,none⟩ (.int .i64 mn)).setCell ⟨g,k*6+3,none⟩ (.int .i64 my)).setCell ⟨g,k*6+5,none⟩ (.int .i64 (e.n+c.n))).setCell ⟨g,k*6+4,none⟩ (.int .i64 (mx-mn))) (by
        have hgb:b0≠g:=(by omega);rw[Below.heap_setCell _ _ _ _ hgb,Below.heap_setCell _ _ _ _ hgb,Below.heap_setCell _ _ _ _ hgb,Below.heap_setCell _ _ _ _ hgb]))
       have HN2:=aHH (show (((w6.setCell ⟨g,k*6+2,none⟩ (.int .i64 mn)).setCell ⟨g,k*6+3,none⟩ (.int .i64 my)).setCell ⟨g,k*6+5,none⟩ (.int .i64 (e.n+c.n))).cell? ⟨g,k*6+2,none⟩=some (.int .i64 mn) by
        rw[World.cell?_setCell_other _ _ _ _ (by simp),World.cell?_setCell_other _ _ _ _ (by simp)];exact World.cell?_setCell_same' _ _ _ (by rw[m2];rfl))
       have HN4:=aHH (show (((w6.setCell ⟨g,k*6+2,none⟩ (.int .i64 mn)).setCell ⟨g,k*6+3,none⟩ (.int .i64 my)).setCell ⟨g,k*6+5,none⟩ (.int .i64 (e.n+c.n))).cell? ⟨g,k*6+4,none⟩=some (.int .i64 e.W) by
        rw[World.cell?_setCell_other _ _ _ _ (by simp),World.cell?_setCell_other _ _ _ _ (by simp),World.cell?_setCell_other _ _ _ _ (by simp)];exact m4)
       have HNf:=aHH (show ∀j,(((w6.setCell ⟨g,k*6+2,none⟩ (.int .i64 mn)).setCell ⟨g,k*6+3,none⟩ (.int .i64 my)).setCell ⟨g,k*6+5,none⟩ (.int .i64 (e.n+c.n))).frozen? ⟨g,j,none⟩=false from fun j=>by
        rw[World.frozen?_setCell,World.frozen?_setCell,World.frozen?_setCell];exact mf j)
       clear qW;go_upto_region 23 with fail;go_cut [15] from 96 to 110 (fun s15 wc=>s15=.int .i64 mx∧wc=w6.drew);case first=>
        refine aHZ [aHX 0,aHX 1,aHX 2,aHX 3,aHX 4,aHX 5,aHX 6,aHX 7,aHX 8,aHX 9,aHX 10,aHX 11,aHX 12,aHX 13,aHX 14,aHX 15] (by kernel_rfl) ?_;apply Flow.mv _ rfl
        ·intro a b;simp only[sqA,Act.eval,sqC];exact b
        iterate 3
         apply Flow.calm2 _ _ rfl rfl
         ·intro a b c d;obtain ⟨e,f⟩:=b.rule;go_simp;(try go_ints);exact d
         ·intro a b;simp only[sqA];exact b
        apply Flow.mv _ rfl
        ·intro a b;simp only[sqA,Act.eval,sqC];exact b
        iterate 10
         apply Flow.calm2 _ _ rfl rfl
         ·intro a b c d;obtain ⟨e,f⟩:=b.rule;go_simp;(try go_ints);exact d
         ·intro a b;simp only[sqA];exact b
        apply Flow.asg _ rfl
        ·intro a b;simp only[sqA,Act.eval,sqC];exact b
        refine Flow.done ?_;go_wp2_with fail;go_meet;case rel=>exact ⟨rfl,rfl⟩
       case rest=>
       obtain ⟨rfl,rfl⟩:=hcut;go_upto_region 24 with fail;go_cut [] from 111 to 140 (fun wc=>wc=((((w6.setCell ⟨g,k*6+2,none⟩ (.int .i64 mn)).setCell ⟨g,k*6+3,none⟩ (.int .i64 my)).setCell ⟨g,k*6+5,none⟩ (.int .i64 (e.n+c.n))).drew).drew);case first=>
        go_big_region
        go_wp2_with fail;go_meet;case rel=>rfl
       case rest=>
       subst hcut;generalize ((w6.setCell ⟨g,k*6+2,none⟩ (.int .i64 mn)).setCell ⟨g,k*6+3,none⟩ (.int .i64 my)).setCell ⟨g,k*6+5,none⟩ (.int .i64 (e.n+c.n))=w9 at HS HBl HMp HN2 HN4 HNf ⊢;have n2:=HN2.out;have n4:=HN4.out;have nf:=HNf.out;clear m2 m3 m4 m5 mf kO hmx hmn hmy;go_wp2_with fail;exact ⟨⟨i+1,_,_,hlt,by go_num,rfl,HBl.out.drew.drew,HS.out.bl (Bl.refl _).drew.drew,HMp.out.drew.drew,HPl.out⟩,by simp[RowKit.intOf]<;>omega⟩
     ·obtain rfl:i=cs.length:=(by omega);have qY:=sS.out;have hgo:=HOK.out cs.length (Nat.le_refl _);rw[aH9] at qY hgo;have HIn:=aHH (show ∀e∈cB cs,CdIn e from fun e he=>(hgo.1 e he).in_);have HL:=aHH hgo.2;clear hgo sS;by_cases h0:cB cs=[]
      ·obtain rfl:=qY.2 h0;have HN:=aHH (uT (.func (.func 239) #[] #[]) 0 wr);have HH0:=aHH h0;clear qY h0;go_wp2_with fail;refine HN.out.mono ?_;rintro e w' ⟨rfl,rfl⟩;go_wp2_with fail;refine aIx (v:=.tuple #[.slice none 0 0,.int .i64 0]) (by simp[results,Tryz.results184,go_sem]) rfl (Or.inr ⟨HE.out,none,0,HIn.out,by rw[HH0.out];rfl,?_,hbr⟩);have e1:∀(l:List Cd) (h:∀e∈l,CdIn e),l=[]→aK (fB l h)=[]:=fun l h e=>by
        have hl:(fB l h).length=0:=(by rw[jJ,e];rfl);rw[List.eq_nil_of_length_eq_zero hl];rfl
       rw[e1 _ _ HH0.out,HH0.out];exact Reads.none_
      ·obtain ⟨g,cap,rfl,hBg⟩:=qY.got h0;have HS:=aHH (M4 239 aDn W8 (fT Tryz.func239 (by kernel_rfl) rfl) TP (b0+1) g cap _ (cB cs) HIn.out wr qY.1 (by have:=HL.out;omega));have aGO:w.heap.size≤g:=(by have:=HB0.out;omega);clear qY h0;go_wp2_with fail;refine HS.out.mono ?_;rintro e w1 ⟨rfl,hr1,hb1⟩;have hb2:=hb1 w hbr aGO;go_wp2_with fail;refine aIx (v:=.tuple #[.slice (some ⟨g,0,none⟩) (cB cs).length cap,.int .i64 0]) (by simp[results,Tryz.results184,go_sem]) rfl (Or.inr ⟨HE.out,_,_,HIn.out,rfl,hr1,hb2⟩)
end Go.Proofs.YtllefinciimffaaGreatDoor
