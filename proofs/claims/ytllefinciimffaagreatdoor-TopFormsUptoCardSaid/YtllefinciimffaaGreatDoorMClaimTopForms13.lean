import Derived.Test.YtllefinciimffaaGreatDoorMClaimTopForms10
set_option maxHeartbeats 20000000
set_option maxRecDepth 100000
namespace Go.Proofs.YtllefinciimffaaGreatDoor
open Go.RowKit Go.Shelf
def FSetRes (fe:Int) (ls:List Ltr) (ht gap sp:Int) (t:List UInt8) (w:World) (e:Ending) (w':World):Prop:=∃a b R m d,e=.returned (.tuple #[.agg #[.int .i64 a,.int .i64 b,.slice R m d],.int .i64 (pP fe ls ht gap sp t)]) ∧
 Res w.heap.size w' (pP fe ls ht gap sp t) (nH ls gap.toNat sp.toNat t) ht.toNat ((oA ls ht.toNat gap.toNat sp.toNat t).map .bool) a b R m d∧Bl w w'
theorem aAL (nm:List UInt8) (ht gap sp:Int) (L:Option Addr) (c:Nat) (ls:List Ltr) (t:List UInt8) (w:World) (hL:LtrsAt w L ls) (hnm:nm.length≤9223372036854775807) (hn:ls.length≤9223372036854775807) (htl:t.length≤9223372036854775807) (hv:SubOk w) :
 Calls Tryz.prog 154 #[.agg #[nm,ht,gap,sp,.slice L ls.length c],t] w (FSetRes (bN (dA nm) ht gap sp ls) ls ht gap sp t w):=by
 let w2:=((w).alloc (.cells #[nm,ht,gap,sp,.slice L ls.length c] 46)).alloc (.cells #[.int .i64 0,.int .i64 0,.slice none 0 0] 43);obtain ⟨w2b,w21,w22⟩:=aLi (x:=w2) w _ _ _ _ rfl;have lw2:w2.heap.size=w.heap.size+2:=(by simp[w2]);have HL:=aLa (hL.bl w2b);have HV:=aLa (hv.bl w2b);obtain ⟨fe,hfe⟩:=aLt (bN (dA nm) ht gap sp ls);have hck:=nG nm ht gap sp L c ls w2 (hL.bl w2b) hnm hn;rw[←hfe] at hck ⊢;have Hck:=aLa hck;have HFe:=aLa hfe;have k1:=w21.all5;clear hL hck hfe hv
 go_in
 go_wp2_with fail;refine Hck.out.mono ?_;rintro e w3 ⟨rfl,hb3⟩;clear_value w2;clear k1 Hck;have kz:=(w22.bl hb3).all3;by_cases hz:fe=0;case neg=>
  have hq:(fe != 0)=true:=(by simp[hz]);have hq2:(fe==0)=false:=(by simp[hz]);have HZ:=aLa hz;have HE:=aLa (show pP fe ls ht gap sp t=fe from if_neg hz);clear hz;go_wp2_with fail;refine aL0 (v:=.tuple #[.agg #[.int .i64 0,.int .i64 0,.slice none 0 0],fe]) (by simp[results,Tryz.results154,go_sem,kz]) rfl ⟨0,0,none,0,0,by rw[HE.out],by rw[HE.out];exact Res.zero _ _ _ _ _ HZ.out,?_⟩;exact (((w2b.trans hb3).setCell (by simp) _).setCell (by simp) _).setCell (by simp) _
 case pos=>
  subst hz;obtain ⟨ht',gap',sp',rfl,rfl,rfl,hR⟩:=OT HFe.out.symm;obtain ⟨adl,rfl⟩:=aCY HL.out hR.many.1;have hs:=aAx nm ht' gap' sp' adl c ls t w3 (HL.out.bl hb3) hR htl (HV.out.bl hb3);have Hs:=aLa hs;have HR:=aLa hR;have k1:=(w21.bl hb3).all5;clear hs hR kz;go_wp2_with fail;refine Hs.out.mono ?_;rintro e w4 ⟨a,b,R,m,d,rfl,lQ,hb4⟩;have hfs:pP 0 ls ht' gap' sp' t=jN ls ht' gap' sp' t:=(by unfold pP;rw[if_pos rfl];simp);have HFs:=aLa hfs;have aJU:=aLa lQ;have hle:=hb3.le;have kz:=(w22.bl (hb3.trans hb4)).all3;clear hfs lQ k1 Hs;go_wp2_with fail;refine aL0 (v:=.tuple #[.agg #[a,b,.slice R m d],.int .i64 (jN ls ht' gap' sp' t)]) (by simp[results,Tryz.results154,go_sem,kz]) rfl ⟨a,b,R,m,d,by rw[HFs.out],?_,?_⟩
  ·rw[HFs.out];simp only[aL8];have hB:w.heap.size+2≤w3.heap.size:=(by omega);exact ((((aJU.out.mono hB).store (by simp) _).store (by simp) _).store (by simp) _).mono (by omega)
  ·exact (((w2b.trans (hb3.trans hb4)).setCell (by simp) _).setCell (by simp) _).setCell (by simp) _
end Go.Proofs.YtllefinciimffaaGreatDoor
namespace Go.Proofs.YtllefinciimffaaGreatDoor
open Go.ChangeShapes Go.WideShapes Go.ChangeAt Go.RowKit Go.Joins
theorem uV {α : Type} {Q : Nat → α → Prop} : ∀ (n : Nat), (∀ i, i < n → ∃ y, Q i y) → ∃ ys : List α, ys.length = n ∧ ∀ (i : Nat) y, ys[i]? = some y → Q i y
 |0,_=>⟨[],rfl,fun i y h=>by simp at h⟩
 |n+1,h=>by
  obtain ⟨ys,hl,hy⟩:=uV n fun i hi=>h i (by omega);obtain ⟨z,hz⟩:=h n (by omega);refine ⟨ys++[z],by simp[hl],fun i y hi => ?_⟩;rcases Nat.lt_or_ge i ys.length with h1|h1
  ·rw[aLE h1] at hi;exact hy i y hi
  ·have hlt:=(aLw.1 hi).1;have e:i=ys.length:=(by simp at hlt;omega);subst e;rw[aLD (Nat.le_refl _),Nat.sub_self] at hi;injection hi with hi;subst hi;rw[hl];exact hz
section
variable {H:Type} {enc:TypeId × Value→H} {P:Program} {w:World} {base:Nat} {spare:Nat→Bool} {gY:Bool}
theorem yW {a:Addr} {n:Nat} {cs:List Value} (h:w.cells? base a n=some cs):cs.length=n∧∀(j:Nat) u,cs[j]? = some u→w.cell? (a.add j)=some u:=by
 unfold World.cells? at h;split at h
 ·have key:∀(m:Nat) (l:List Nat) (cs:List Value),l=(List.range' m (n-m))→m≤n→l.mapM (fun i=>w.cell? (a.add i))=some cs→cs.length=n-m∧∀(j:Nat) u,cs[j]? = some u→w.cell? (a.add (m+j))=some u:=by
   intro m l;induction l generalizing m with
   |nil=>
    intro cs hl hm hc;simp at hc;subst hc;have:n-m=0:=by
     have:=congrArg List.length hl;simpa using this.symm
    exact ⟨by simp[this],fun j u hj=>by simp at hj⟩
   |cons x l ih=>
    intro cs hl hm hc;have hlt:m<n:=by
     have:=congrArg List.length hl;simp at this;omega
    have e:n-m=(n-(m+1))+1:=(by omega);rw[e,List.range'_succ] at hl;injection hl with h1 h2;subst h1;simp only[List.mapM_cons,Option.bind_eq_bind,Option.bind_eq_some_iff,Option.pure_def,Option.some.injEq] at hc;obtain ⟨v,hv,vs,hvs,rfl⟩:=hc;obtain ⟨k1,k2⟩:=ih (x+1) vs h2 (by omega) hvs;refine ⟨by simp[k1];omega,fun j u hj => ?_⟩;rcases j with _|j
    ·simp at hj;subst hj;exact hv
    ·have:=k2 j u (by simpa using hj);rw[show x+(j+1)=x+1+j by omega];exact this
  have:=key 0 (List.range n) cs (by rw[List.range_eq_range'];rfl) (Nat.zero_le _) h;simpa using this
 ·cases h
theorem OZ {t e:TypeId} {fuel:Nat} {a0:Option Addr} {len cap:Nat} {x:DataW H × List MemPlace} (ht:P.underlying t=some (.slice e)) (h:DataW.trod enc P w base spare gY fuel t [.slice a0 len cap]=some x) :
 (a0=none∧len=0∧cap=0)∨∃a n',a0=some a∧len≤cap∧cap≤maxLen∧∀i,i<len→∃cs x',cs.length=P.cellsOf e∧(∀(j:Nat) u,cs[j]? = some u→w.cell? (a.add (i*P.cellsOf e+j))=some u)∧DataW.trod enc P w base spare gY n' e cs=some x':=by
 rcases DataW.trod_slice ht h with ⟨hcs,_⟩|⟨a,len',cap',elems,rest,n,_,hcs,_,_,hl,hm,cL,hel,_⟩
 ·simp at hcs;exact .inl hcs
 ·simp at hcs;obtain ⟨rfl,rfl,rfl⟩:=hcs;refine .inr ⟨a,n,rfl,hl,hm,fun i hi => ?_⟩;have h1:=hel i hi;rw[aLv (by omega)] at h1;obtain ⟨cs,hcs,htr⟩:=Option.bind_eq_some_iff.1 h1;obtain ⟨k1,k2⟩:=yW hcs;refine ⟨cs,_,k1,fun j u hj => ?_,htr⟩;have:=k2 j u hj
  rwa [cY] at this
end
section
variable {H:Type} {enc:TypeId × Value→H} {w:World} {base b0:Nat} {spare:Nat→Bool} {gY:Bool} {r:Reach}
theorem kH:Tryz.prog.cellsOf 9=1:=by kernel_rfl
theorem jC:Tryz.prog.cellsOf 3=1:=by kernel_rfl
theorem MC:Tryz.prog.cellsOf 41=1:=by kernel_rfl
theorem uW:Tryz.prog.cellsOf 43=3:=by kernel_rfl
theorem IY:Tryz.prog.cellsOf 148=4:=by kernel_rfl
theorem R8:Tryz.prog.cellsOf 46=5:=by kernel_rfl
theorem V2 {fuel:Nat} {cs:List Value} {x:DataW H × List MemPlace} (h:DataW.trod enc Tryz.prog w base spare gY fuel 43 cs=some x):∃p:Pg,cs=p.cells∧p.bs.length=p.m∧Reads w 1 p.A p.m (p.bs.map .bool):=by
 obtain ⟨y0,y1,y2,n,_,hl,h0,h1,h2⟩:=Go.Deep.trod_struct3 Tryz.underlying43 h;rw[uW] at hl
 match cs,hl with
 |[c0,c1,c2],_=>simp only[jC,MC,List.drop_zero,List.drop_succ_cons,List.take_succ_cons,List.take_zero] at h0 h1 h2;obtain ⟨W,e0,_,w0⟩:=DataW.trod_int Tryz.underlying3 h0;obtain ⟨Ht,e1,_,w1⟩:=DataW.trod_int Tryz.underlying3 h1;obtain ⟨A,m,c,rfl⟩:=fM Tryz.underlying41 h2;simp at e0 e1;subst e0 e1;obtain ⟨bs,hz,hr,hm⟩:=aAq Tryz.underlying41 Tryz.underlying4 (by kernel_rfl) h2;exact ⟨⟨W,Ht,A,m,c,bs⟩,rfl,hz,hr⟩
theorem V3 {fuel:Nat} {cs:List Value} {x:DataW H × List MemPlace} (h:DataW.trod enc Tryz.prog w base spare gY fuel 148 cs=some x):∃l:Ltr,cs=l.cells∧l.bs.length=l.m∧Reads w 1 l.A l.m (l.bs.map .bool)∧l.text.length≤9223372036854775807:=by
 obtain ⟨y0,y1,n,_,hl,h0,h1⟩:=trod_struct2 Tryz.underlying148 h;rw[IY] at hl
 match cs,hl with
 |[c0,c1,c2,c3],_=>simp only[kH,uW,List.drop_zero,List.drop_succ_cons,List.take_succ_cons,List.take_zero] at h0 h1;obtain ⟨s,e0,_,w0⟩:=DataW.trod_string Tryz.underlying9 h0;obtain ⟨p,e1,hb,hr⟩:=V2 h1;obtain ⟨t,rfl⟩:=iY s;simp at e0;subst e0;unfold Pg.cells at e1;simp at e1;obtain ⟨rfl,rfl,rfl⟩:=e1;exact ⟨⟨t,p.W,p.H,p.A,p.m,p.c,p.bs⟩,rfl,hb,hr,by rw[Lib.size_mk] at w0;exact w0⟩
theorem aJt (j:Nat):j=j / 4*4+j % 4:=by omega
theorem SA {fuel:Nat} {a0:Option Addr} {len cap:Nat} {x:DataW H × List MemPlace} (h:DataW.trod enc Tryz.prog w base spare gY fuel 44 [.slice a0 len cap]=some x):∃ls:List Ltr,ls.length=len∧LtrsAt w a0 ls∧len≤9223372036854775807∧len≤cap:=by
 rcases OZ Tryz.underlying44 h with ⟨rfl,rfl,rfl⟩|⟨a,n',rfl,hlc,hcm,hel⟩
 ·exact ⟨[],rfl,LtrsAt.none _,by omega,by omega⟩
 ·obtain ⟨ls,hl,hls⟩:=uV (Q:=fun i (l:Ltr)=>(∀(j:Nat) u,l.cells[j]? = some u→w.cell? (a.add (i*4+j))=some u)∧Reads w 1 l.A l.m (l.bs.map .bool)∧l.text.length≤9223372036854775807) len (fun i hi=>by
   obtain ⟨cs,x',_,hc,ht⟩:=hel i hi;obtain ⟨l,rfl,_,hr,hx⟩:=V3 ht;rw[IY] at hc;exact ⟨l,hc,hr,hx⟩)
  refine ⟨ls,hl,⟨⟨pG ls,fun _=>⟨a,rfl,fun j u hj => ?_⟩⟩,fun l hp => ?_⟩,by unfold maxLen at hcm;omega,hlc⟩
  ·have hlt:j<ls.length*4:=(by rw[←pG];exact (aLw.1 hj).1);have hi:j / 4<ls.length:=(by omega);have hg:ls[j / 4]? = some ls[j / 4]:=aLv hi;rw[aJt j] at hj ⊢;rw[xY hg (j % 4) (Nat.mod_lt _ (by decide))] at hj;exact (hls _ _ hg).1 _ _ hj
  ·obtain ⟨i,hi⟩:=List.getElem?_of_mem hp;exact (hls i l hi).2
theorem aEt {α:Type} {cs:Array α} (h:cs.size=5):∃c0 c1 c2 c3 c4,cs=#[c0,c1,c2,c3,c4]:=by
 obtain ⟨l⟩:=cs
 match l,h with
 |[c0,c1,c2,c3,c4],_=>exact ⟨c0,c1,c2,c3,c4,rfl⟩
theorem V4 {v:Value} {d:DataW H} {p:List MemPlace} (hv:Value.okWide Tryz.prog w r b0 46 v) (h:DataW.Trod enc Tryz.prog w base spare gY 46 v d p) :
 ∃(nm:List UInt8) (ht gap sp:Int) (L:Option Addr) (c:Nat) (ls:List Ltr),v=.agg #[nm,ht,gap,sp,.slice L ls.length c]∧LtrsAt w L ls∧nm.length≤9223372036854775807∧ls.length≤9223372036854775807∧ls.length≤c:=by
 obtain ⟨cs,rfl,hsz⟩:=okWide_struct Tryz.underlying46 hv;obtain ⟨c0,c1,c2,c3,c4,rfl⟩:=aEt (hsz.trans R8);obtain ⟨fuel,hf⟩:=h;obtain ⟨xs,n,_,_,_,cL,hfs⟩:=DataW.trod_struct Tryz.underlying46 hf
 match xs,cL with
 |[y0,y1,y2,y3,y4],_=>have h0:=hfs 0 _ rfl;have h1:=hfs 1 _ rfl;have h2:=hfs 2 _ rfl;have h3:=hfs 3 _ rfl;have h4:=hfs 4 _ rfl;simp only[Value.cells,aLT,List.getElem?_cons_succ] at h0 h1 h2 h3 h4;obtain ⟨s,e0,_,w0⟩:=DataW.trod_string Tryz.underlying9 h0;obtain ⟨a,e1,_,_⟩:=DataW.trod_int Tryz.underlying3 h1;obtain ⟨b,e2,_,_⟩:=DataW.trod_int Tryz.underlying3 h2;obtain ⟨c,e3,_,_⟩:=DataW.trod_int Tryz.underlying3 h3;obtain ⟨A,m,cc,rfl⟩:=fM Tryz.underlying44 h4;obtain ⟨t,rfl⟩:=iY s;simp[kH,jC] at e0 e1 e2 e3;subst e0 e1 e2 e3;obtain ⟨ls,rfl,hL,hn,hc⟩:=SA h4;exact ⟨t,a,b,c,A,cc,ls,rfl,hL,by rw[Lib.size_mk] at w0;exact w0,hn,hc⟩
end
end Go.Proofs.YtllefinciimffaaGreatDoor
