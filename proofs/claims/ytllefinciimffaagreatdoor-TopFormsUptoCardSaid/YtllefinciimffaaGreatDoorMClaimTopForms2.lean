import Derived.Test.YtllefinciimffaaGreatDoorMClaimTopForms1
set_option maxHeartbeats 20000000
set_option maxRecDepth 100000
namespace Go.Proofs.YtllefinciimffaaGreatDoor
open Go.RowKit
section
variable {P:Program} {ops:Array Oper} {Q:Exit→Act→World→Prop} {md:Region.Mode} {S:World→Prop}
def vL (P : Program) (md : Region.Mode) (ops : Array Oper) (Q : Exit → Act → World → Prop) (S : World → Prop) : Nat → Array Bool → Act → World → Prop
 |0,listed,a,w=>Region.ready md ops listed=[]∧Q .normal a w
 |fuel+1,listed,a,w=>
  (Region.ready md ops listed=[]→Q .normal a w) ∧
  ∀i∈Region.ready md ops listed,wpOp P ops Q i (fun a' w'=>S w'∧vL P md ops Q S fuel (listed.setIfInBounds i true) a' w') a w
theorem CG : ∀ (fuel : Nat) (listed : Array Bool) (a : Act) (w : World), vL P md ops Q S fuel listed a w → wpAny P md ops Q fuel listed a w
 |0,_,_,_,h=>h
 |fuel+1,_,_,_,h=>⟨h.1,fun i hi=>wpOp_mono (fun a' w' h'=>CG fuel _ a' w' h'.2) (h.2 i hi)⟩
theorem vM {i : Nat} {oi : Oper} {v : Value} (hi : ops[i]? = some oi) (aEO : ∀ (j : Nat) (o : Oper) cs b, ops[j]? = some o → o.op ≠ .select cs b)
 (hQ:∀c a w,Q (.panic c) (a.put oi.dst v) w→Q (.panic c) a w) :
 ∀ (fuel : Nat) (listed : Array Bool) (a : Act) (w : World), listed.size = ops.size → DownClosed md ops listed →
  (∀j oj,ops[j]? = some oj→j≠i→listed.getD j true=false→(∀e∈oj.after,Region.binds md e=true→e.on≠i)→oi.apart ops oj=true) →
  i∈Region.ready md ops listed→S w→YieldsIf P ops S oi v a →
  vL P md ops Q S fuel (listed.setIfInBounds i true) (a.put oi.dst v) w→vL P md ops Q S (fuel+1) listed a w:=by
 intro fuel;induction fuel with
 |zero=>
  intro listed a w _ _ _ hr hS hy H;refine ⟨fun h=>(by rw[h] at hr;cases hr),fun j hj => ?_⟩;by_cases hji:j=i
  ·subst hji;exact hy.wpOp hi hS ⟨hS,H⟩
  ·have:=ready_mono hj hji;rw[H.1] at this;cases this
 |succ fuel ih=>
  intro listed a w hsz hdc ZD hr hS hy H;refine ⟨fun h=>(by rw[h] at hr;cases hr),fun j hj => ?_⟩;by_cases hji:j=i
  ·subst hji;exact hy.wpOp hi hS ⟨hS,H⟩
  ·have h1:=H.2 j (ready_mono hj hji);obtain ⟨aD8,oj,hoj,gA⟩:=mem_ready.1 hj;have aFM:listed.getD i false=false:=by
    have h0:=(mem_ready.1 hr).1;rcases Nat.lt_or_ge i listed.size with h' | h'
    ·simp[h'] at h0 ⊢;exact h0
    ·simp[Array.getElem?_eq_none h']
   have aGH:∀e∈oj.after,Region.binds md e=true→e.on≠i:=fun e he hb heq=>by
    have h1:=gA e he hb;rw[heq,aFM] at h1;cases h1
   have h2:=wpOp_putIf hoj (ZD j oj hoj hji aD8 aGH) (fun cs b=>aEO i oi cs b hi) (fun cs b=>aEO j oj cs b hoj) hQ hy h1;have aFN:∀k,(listed.setIfInBounds j true).getD k true=false→listed.getD k true=false:=fun k hun=>by
    by_cases hjk:j=k
    ·subst hjk;exact aD8
    ·rw[getD_set_ne true hjk] at hun;exact hun
   refine wpOp_mono (fun a' w' h3 => ⟨h3.2.1, ih (listed.setIfInBounds j true) a' w' (by simpa using hsz) (hdc.set hj)
    (fun k ok hk hki hun hno=>ZD k ok hk hki (aFN k hun) hno) (ready_mono hr (Ne.symm hji)) h3.2.1 h3.1 (by rw[Array.setIfInBounds_comm _ _ hji];exact h3.2.2)⟩) h2
def FlowS (P : Program) (ops : Array Oper) (Q : Exit → Act → World → Prop) (S : World → Prop) : List (Bool × Nat) → Act → World → Prop
 |[],a,w=>Q .normal a w
 |(true,i) :: σ,a,w=>∃o v,ops[i]? = some o∧YieldsIf P ops S o v a∧FlowS P ops Q S σ (a.put o.dst v) w
 |(false,i) :: σ,a,w=>wpOp P ops Q i (fun a' w'=>S w'∧FlowS P ops Q S σ a' w') a w
def rU (md : Region.Mode) (ops : Array Oper) : List (Bool × Nat) → Array Bool → Bool
 |[],listed=>(Region.ready md ops listed).isEmpty
 |(true,i) :: σ,listed=>(Region.ready md ops listed).contains i&&Region.free md ops listed i&&rU md ops σ (listed.setIfInBounds i true)
 |(false,i) :: σ,listed=>Region.ready md ops listed==[i]&&rU md ops σ (listed.setIfInBounds i true)
theorem LJ (hs:Region.noSelect ops=true) (hQ:∀c a d v w,Q (.panic c) (Act.put a d v) w→Q (.panic c) a w) :
 ∀ (σ : List (Bool × Nat)) (fuel : Nat) (listed : Array Bool) (a : Act) (w : World), listed.size = ops.size → DownClosed md ops listed → σ.length ≤ fuel → rU md ops σ listed = true → S w →
  FlowS P ops Q S σ a w→vL P md ops Q S fuel listed a w:=by
 intro σ;induction σ with
 |nil=>
  intro fuel listed a w _ _ _ hok _ h;have hr:Region.ready md ops listed=[]:=(by simpa [rU] using hok);cases fuel with
  |zero=>exact ⟨hr,h⟩
  |succ fuel=>exact ⟨fun _=>h,fun i hi=>by rw[hr] at hi;cases hi⟩
 |cons s σ ih=>
  obtain ⟨b,i⟩:=s;intro fuel listed a w hsz hdc hf hok hS h;cases fuel with
  |zero=>simp at hf
  |succ fuel=>
   have hf':σ.length≤fuel:=(by simpa using hf);cases b with
   |true=>simp only[rU,aLV] at hok;obtain ⟨⟨h1,h2⟩,h4⟩:=hok;obtain ⟨o,v,ho,hy,hfl⟩:=h;have hir:i∈Region.ready md ops listed:=(by simpa using h1);exact vM ho (Region.noSelect_spec hs) (fun c a w=>hQ c a o.dst v w) fuel listed a w hsz hdc (Region.free_spec ho h2) hir hS hy (ih fuel _ _ _ (by simpa using hsz) (hdc.set hir) hf' h4 hS hfl)
   |false=>simp only[rU,aLV,beq_iff_eq] at hok;obtain ⟨h1,h4⟩:=hok;refine ⟨fun h0=>(by rw[h0] at h1;cases h1),fun j hj => ?_⟩;have hj0:=hj;rw[h1] at hj;obtain rfl:=aLQ.1 hj;exact wpOp_mono (fun a' w' h'=>⟨h'.1,ih fuel _ _ _ (by simpa using hsz) (hdc.set hj0) hf' h4 h'.1 h'.2⟩) h
section
variable {l:List Oper} {B:World}
theorem FlowS.calm {i : Nat} {o : Oper} {σ : List (Bool × Nat)} {a : Act} {w : World} (v : Value) (ho : l[i]? = some o) (hg : o.guard = none)
 (hr:∀w',S w'→(execOp a.eval o).run P w'=.ok (.value v) w') (h:FlowS P l.toArray Q S σ (a.put o.dst v) w):FlowS P l.toArray Q S ((true,i) :: σ) a w:=
 ⟨o,v,by simpa using ho,.inl ⟨by simp[Region.wanted,hg],hr⟩,h⟩
theorem FlowS.calm2 {i : Nat} {o : Oper} {σ : List (Bool × Nat)} {a : Act} {w : World} (v : Value) (a' : Act) (ho : l[i]? = some o) (hg : o.guard = none)
 (hr:∀w',S w'→∀K:Result Next→Prop,K (.ok (.value v) w')→K ((execOp a.eval o).run P w')) (ha:∀K:Act→Prop,K a'→K (a.put o.dst v))
 (h:FlowS P l.toArray Q S σ a' w):FlowS P l.toArray Q S ((true,i) :: σ) a w:=
 FlowS.calm v ho hg (fun w' hb=>hr w' hb (fun r=>r=.ok (.value v) w') rfl) (ha (fun x=>FlowS P l.toArray Q S σ x w) h)
theorem FlowS.mv {i : Nat} {d : Option Tmp} {x : Operand} {ty : TypeId} {ps : String} {af : Array Edge} {σ : List (Bool × Nat)} {a : Act} {w : World} (a' : Act) (ho : l[i]? = some ⟨d, .move x, ty, ps, af, none⟩)
 (ha:∀K:Act→Prop,K a'→K (a.put d (a.eval x))) (h:FlowS P l.toArray Q S σ a' w):FlowS P l.toArray Q S ((true,i) :: σ) a w:=
 FlowS.calm (a.eval x) ho rfl (fun w' _=>by simp[execOp]) (ha (fun x=>FlowS P l.toArray Q S σ x w) h)
theorem FlowS.asg {i : Nat} {d : Option Tmp} {x : Operand} {ty : TypeId} {ps : String} {af : Array Edge} {σ : List (Bool × Nat)} {a : Act} {w : World} (a' : Act) (ho : l[i]? = some ⟨d, .assign x, ty, ps, af, none⟩)
 (ha:∀K:Act→Prop,K a'→K (a.put d (a.eval x))) (h:FlowS P l.toArray Q S σ a' w):FlowS P l.toArray Q S ((true,i) :: σ) a w:=
 FlowS.calm (a.eval x) ho rfl (fun w' _=>by simp[execOp]) (ha (fun x=>FlowS P l.toArray Q S σ x w) h)
theorem FlowS.done {a:Act} {w:World} (h:Q .normal a w):FlowS P ops (NoPanic Q) S [] a w:=h
end
end
section
variable {P:Program} {ops:Array Oper} {Q:Exit→Act→World→Prop} {md:Region.Mode} {cl:Nat→Bool}
def aAf (K : Act → World → Prop) (Q : Exit → Act → World → Prop) : Exit → Act → World → Prop
 |.normal,a,w=>K a w
 |e,a,w=>Q e a w
def vN : List (Bool × Nat) → Array Bool → Array Bool
 |[],listed=>listed
 |(_,i) :: σ,listed=>vN σ (listed.setIfInBounds i true)
end
def gD (bW bH cW cH:Nat) (x y:Int):Bool:=decide (x≤-(cW:Int))||decide ((bW:Int)≤x)||decide (y≤-(cH:Int))||decide ((bH:Int)≤y)
def fZ (bs cs:List Bool) (bW bH cW cH:Nat) (x y:Int) (u v:Nat):Bool:=pix bs bW u v||(!gD bW bH cW cH x y&&atI cs cW cH ((u:Int)-x) ((v:Int)-y))
theorem EM {bW bH cW cH:Nat} {x y:Int} (h:gD bW bH cW cH x y=false):-(cW:Int)<x∧x<bW∧-(cH:Int)<y∧y<bH:=by
 simp[gD] at h;omega
theorem QW {bs cs:List Bool} {bW bH cW cH:Nat} {x y:Int} {u v:Nat} (h:pix bs bW u v=true):fZ bs cs bW bH cW cH x y u v=true:=by simp[fZ,h]
theorem vO {bs cs:List Bool} {bW bH cW cH:Nat} {x y:Int} {u v:Nat} (h:pix bs bW u v=false) (h2:gD bW bH cW cH x y=true):fZ bs cs bW bH cW cH x y u v=false:=by simp[fZ,h,h2]
theorem G3 {bs cs:List Bool} {bW bH cW cH:Nat} {x y:Int} {u v:Nat} (h:pix bs bW u v=false) (h2:gD bW bH cW cH x y=false):fZ bs cs bW bH cW cH x y u v=atI cs cW cH ((u:Int)-x) ((v:Int)-y):=by simp[fZ,h,h2]
theorem QX (pb pa px py pc : Nat) (bW bH cW cH : Nat) (A C : Option Addr) (bc cc : Nat) (bs cs : List Bool) (x y : Int) (u v : Nat) (w : World)
 (h1:Blk w pb 43 #[bW,bH,.slice A (bW*bH) bc]) (h2:Blk w pa 4 #[.bool (gD bW bH cW cH x y)]) (h3:Blk w px 3 #[x]) (h4:Blk w py 3 #[y])
 (h5:Blk w pc 43 #[cW,cH,.slice C (cW*cH) cc])
 (hA:Reads w 1 A (bW*bH) (bs.map .bool)) (hC:Reads w 1 C (cW*cH) (cs.map .bool)) (b1:bW≤4000) (b2:bH≤4000) (b3:cW≤4000) (b4:cH≤4000) (hu:u<bW) (hv:v<bH) :
 Calls Tryz.prog 104 #[u, v, .pointer (some ⟨pb, 0, none⟩), .pointer (some ⟨pa, 0, none⟩), .pointer (some ⟨px, 0, none⟩), .pointer (some ⟨py, 0, none⟩), .pointer (some ⟨pc, 0, none⟩)] w
  fun e w'=>e=.returned (.bool (fZ bs cs bW bH cW cH x y u v))∧Bl w w':=by
 have k1:=h1.all3;have k2:=h2.all1;have k3:=h3.all1;have k4:=h4.all1;have k5:=h5.all3;obtain ⟨ad,rfl,hc⟩:=hA.place hu hv;have hk:=eD hu hv;obtain ⟨k,hkk⟩:=aLt (v*bW+u);rw[←hkk] at hc hk;have ek:(v:Int)*(bW:Int)+(u:Int)=(k:Int):=(by rw[hkk];simp);have hkl:(k:Int)<(bW:Int)*(bH:Int):=(by have:=aL9 bW bH;omega);have hq:(0:Int)≤(v:Int)*(bW:Int)∧(v:Int)*(bW:Int)≤16000000:=by
  have h5:=aL9 v bW;have h6:=aMa (show v≤4000 by omega) b1;omega
 have Hkk:=aLa hkk;clear hkk h1 h2 h3 h4 h5 hA;cases hp:pix bs bW u v
 case true=>
  have hf:=QW (cs:=cs) (bH:=bH) (cW:=cW) (cH:=cH) (x:=x) (y:=y) hp;rw[hp] at hc;have Hf:=aLa hf;have Hp:=aLa hp;clear hf hp hC
  go_in
  go_wp2
  go_ret;exact ⟨cD Hf.out.symm,Bl.refl _⟩
 case false=>
  rw[hp] at hc;cases ha:gD bW bH cW cH x y
  case true=>
   have hf:=vO (cs:=cs) hp ha;rw[ha] at k2;obtain ⟨Hf,Hp,Ha⟩:=aLb hf hp ha;clear hf hp ha hC
   go_in
   go_wp2
   go_ret;exact ⟨cD Hf.out.symm,Bl.refl _⟩
  case false=>
   have hf:=G3 (cs:=cs) hp ha;obtain ⟨r1,r2,r3,r4⟩:=EM ha;rw[ha] at k2;obtain ⟨Hf,Hp,Ha⟩:=aLb hf hp ha;clear hf hp ha;by_cases c1:0≤(u:Int)-x∧(u:Int)-x<cW∧0≤(v:Int)-y∧(v:Int)-y<cH
   ·obtain ⟨c1,c2,c3,c4⟩:=c1;obtain ⟨X,hX⟩:=Int.eq_ofNat_of_zero_le c1;obtain ⟨Y,hY⟩:=Int.eq_ofNat_of_zero_le c3;have hXl:X<cW:=(by omega);have hYl:Y<cH:=(by omega);have hat:=CC cs cW cH X Y hXl hYl;rw[←hX,←hY] at hat;obtain ⟨cd,rfl,hd⟩:=hC.place hXl hYl;have hj:=eD hXl hYl;obtain ⟨j,hjj⟩:=aLt (Y*cW+X);rw[←hjj] at hd hj;have ej:((v:Int)-y)*(cW:Int)+((u:Int)-x)=(j:Int):=(by rw[hjj,hX,hY];simp);have hjl:(j:Int)<(cW:Int)*(cH:Int):=(by have:=aL9 cW cH;omega);have hqj:(0:Int)≤((v:Int)-y)*(cW:Int)∧((v:Int)-y)*(cW:Int)≤16000000:=by
     have h5:=aL9 Y cW;have h6:=aMa (show Y≤4000 by omega) b3;rw[hY];omega
    obtain ⟨Hat,HX,HY,Hjj⟩:=aLc hat hX hY hjj;clear hat hX hY hjj hC
    go_in
    go_wp2_with fail;refine aLs [aLq 0,aLq 1,aLq 2,aLq 3,aLq 4,aLq 5,aLq 6,aLq 7] (by kernel_rfl) ?_;apply Flow.mv _ rfl
    ·intro a b;simp only[sqA,Act.eval,sqC];exact b
    iterate 2
     apply Flow.calm2 _ _ rfl rfl
     ·intro a b c d;obtain ⟨e,f⟩:=b.rule;go_simp;(try go_ints);exact d
     ·intro a b;simp only[sqA];exact b
    apply Flow.mv _ rfl
    ·intro a b;simp only[sqA,Act.eval,sqC];exact b
    iterate 2
     apply Flow.calm2 _ _ rfl rfl
     ·intro a b c d;obtain ⟨e,f⟩:=b.rule;go_simp;(try go_ints);exact d
     ·intro a b;simp only[sqA];exact b
    iterate 2
     apply Flow.asg _ rfl
     ·intro a b;simp only[sqA,Act.eval,sqC];exact b
    refine Flow.done ?_;go_wp2_with fail;go_ret;exact ⟨cD (by rw[Hf.out,Hat.out]),(Bl.refl _).drew⟩
   ·have hat:=uG cs cW cH ((u:Int)-x) ((v:Int)-y) c1;have Hat:=aLa hat;clear hat hC;have ZF:(u:Int)-x<0∨(0≤(u:Int)-x∧(cW:Int)≤(u:Int)-x)∨(0≤(u:Int)-x∧(u:Int)-x<cW∧(v:Int)-y<0)∨(0≤(u:Int)-x∧(u:Int)-x<cW∧0≤(v:Int)-y∧(cH:Int)≤(v:Int)-y):=(by omega);clear c1;rcases ZF with d|⟨d,d'⟩|⟨d,d',d''⟩|⟨d,d',d'',d'''⟩
    all_goals
     go_in
     go_wp2_with fail;refine aLs [aLq 0,aLq 1,aLq 2,aLq 3,aLq 4,aLq 5,aLq 6,aLq 7] (by kernel_rfl) ?_;apply Flow.mv _ rfl
     ·intro a b;simp only[sqA,Act.eval,sqC];exact b
     iterate 2
      apply Flow.calm2 _ _ rfl rfl
      ·intro a b c d;obtain ⟨e,f⟩:=b.rule;go_simp;(try go_ints);exact d
      ·intro a b;simp only[sqA];exact b
     apply Flow.mv _ rfl
     ·intro a b;simp only[sqA,Act.eval,sqC];exact b
     iterate 2
      apply Flow.calm2 _ _ rfl rfl
      ·intro a b c d;obtain ⟨e,f⟩:=b.rule;go_simp;(try go_ints);exact d
      ·intro a b;simp only[sqA];exact b
     iterate 2
      apply Flow.asg _ rfl
      ·intro a b;simp only[sqA,Act.eval,sqC];exact b
     refine Flow.done ?_;go_wp2_with fail;go_ret;exact ⟨cD (by rw[Hf.out,Hat.out]),(Bl.refl _).drew⟩
def m9 (f:Int→Nat) (lo:Int) (n:Nat):Nat:=lC (fun i=>f (lo+(i:Int))) n
theorem qD {f g:Int→Nat} {lo:Int} {n:Nat} (h:∀i:Nat,i<n→f (lo+(i:Int))=g (lo+(i:Int))):m9 f lo n=m9 g lo n:=dZ h
theorem G4 (f:Int→Nat) (lo:Int) (n:Nat):m9 f lo (n+1)=m9 f lo n+f (lo+(n:Int)):=rfl
theorem CH (f:Int→Nat) (lo:Int) (a b:Nat):m9 f lo (a+b)=m9 f lo a+m9 f (lo+(a:Int)) b:=by
 unfold m9;rw[CD]
 congr 1
 refine dZ fun i _ => ?_
 congr 1
 omega
theorem x8 {f:Int→Nat} {lo:Int} {n:Nat} (h:∀i:Nat,i<n→f (lo+(i:Int))=0):m9 f lo n=0:=(dZ h).trans (U0 n)
theorem OA {f:Int→Nat} {lo p:Int} {n m:Nat} (h1:lo≤p) (h2:p+(m:Int)≤lo+(n:Int)) (h:∀z,z<p∨p+(m:Int)≤z→f z=0):m9 f lo n=m9 f p m:=by
 obtain ⟨a,rfl⟩:∃a:Nat,p=lo+(a:Int):=⟨(p-lo).toNat,by omega⟩;obtain ⟨b,rfl⟩:∃b:Nat,n=a+(m+b):=⟨n-a-m,by omega⟩;rw[CH,CH,x8 (n:=a) (fun i hi=>h _ (by omega)),x8 (n:=b) (fun i hi=>h _ (by omega))];omega
theorem CI (f:Int→Nat) (d lo:Int) (n:Nat):m9 (fun z=>f (z-d)) lo n=m9 f (lo-d) n:=by
 refine dZ fun i _ => ?_;show f (lo+(i:Int)-d)=f (lo-d+(i:Int))
 congr 1
 omega
theorem OB (f g:Int→Nat) (lo:Int) (n:Nat):m9 (fun z=>f z+g z) lo n=m9 f lo n+m9 g lo n:=Z9 _ _ n
def AZ (F:Int→Int→Nat) (x0:Int) (nx:Nat) (y0:Int) (ny:Nat):Nat:=m9 (fun y=>m9 (fun x=>F x y) x0 nx) y0 ny
theorem EN (F G:Int→Int→Nat) (x0:Int) (nx:Nat) (y0:Int) (ny:Nat):AZ (fun x y=>F x y+G x y) x0 nx y0 ny=AZ F x0 nx y0 ny+AZ G x0 nx y0 ny:=by
 unfold AZ;rw[←OB];exact qD fun i _=>OB _ _ _ _
theorem EO {F : Int → Int → Nat} {x0 y0 px py : Int} {nx ny mx my : Nat} (h1 : x0 ≤ px) (h2 : px + (mx : Int) ≤ x0 + (nx : Int)) (h3 : y0 ≤ py) (h4 : py + (my : Int) ≤ y0 + (ny : Int))
 (h:∀x y,(x<px∨px+(mx:Int)≤x)∨(y<py∨py+(my:Int)≤y)→F x y=0):AZ F x0 nx y0 ny=AZ F px mx py my:=by
 unfold AZ;refine (OA h3 h4 (fun y hy=>x8 fun i _=>h (x0+(i:Int)) y (.inr hy))).trans ?_;exact qD fun i _=>OA h1 h2 fun x hx=>h _ _ (.inl hx)
theorem CJ (F:Int→Int→Nat) (dx dy x0 y0:Int) (nx ny:Nat):AZ (fun x y=>F (x-dx) (y-dy)) x0 nx y0 ny=AZ F (x0-dx) nx (y0-dy) ny:=by
 unfold AZ;have e:(fun y=>m9 (fun x=>F (x-dx) (y-dy)) x0 nx)=fun y=>(fun z=>m9 (fun x=>F x z) (x0-dx) nx) (y-dy):=by
  funext y
  exact CI (fun x=>F x (y-dy)) dx x0 nx
 rw[e,CI (fun z=>m9 (fun x=>F x z) (x0-dx) nx)]
theorem CK {F G:Int→Int→Nat} {x0:Int} {nx:Nat} {y0:Int} {ny:Nat} (h:∀x y,F x y=G x y):AZ F x0 nx y0 ny=AZ G x0 nx y0 ny:=by
 unfold AZ;exact qD fun i _=>qD fun j _=>h _ _
theorem x9 {f:Int→Nat} {c:Nat} (h:∀z,f z≤c) (lo:Int) (n:Nat):m9 f lo n≤n*c:=rR (fun _=>h _) n
theorem aCJ {F:Int→Int→Nat} (h:∀x y,F x y≤1) (x0:Int) (nx:Nat) (y0:Int) (ny:Nat):AZ F x0 nx y0 ny≤ny*nx:=by
 unfold AZ;refine x9 (c:=nx) (fun y => ?_) y0 ny;have:=x9 (c:=1) (fun x=>h x y) x0 nx;omega
def Held (A:Int→Int→Bool) (W H:Nat):Prop:=∀x y,A x y=true→0≤x∧x<(W:Int)∧0≤y∧y<(H:Int)
def G5 (A:Int→Int→Bool) (W H:Nat):Nat:=AZ (fun x y=>b1 (A x y)) 0 W 0 H
def pH (lo hi:Int):Nat:=(hi-lo).toNat
def uJ (A B:Int→Int→Bool) (W H W' H':Nat) (dx dy:Int):Nat:=
 AZ (fun x y=>b1 (A x y&&B (x-dx) (y-dy))) (max 0 dx) (pH (max 0 dx) (min (W:Int) ((W':Int)+dx))) (max 0 dy) (pH (max 0 dy) (min (H:Int) ((H':Int)+dy)))
def aCK (A B:Int→Int→Bool) (W H W' H' r:Nat) (dx dy:Int):Nat:=
 AZ (fun x y=>b1 (A x y != B (x-dx) (y-dy))) (-(r:Int)) (max W W'+2*r) (-(r:Int)) (max H H'+2*r)
theorem aEq {A:Int→Int→Bool} {W H:Nat} (h:Held A W H) {x y:Int} (hn:¬(0≤x∧x<(W:Int)∧0≤y∧y<(H:Int))):A x y=false:=by
 cases he:A x y
 ·rfl
 ·exact absurd (h x y he) hn
theorem U6 {A B:Int→Int→Bool} {W H W' H' r:Nat} {dx dy:Int} (hA:Held A W H) (hB:Held B W' H') (h1:-(r:Int)≤dx) (h2:dx≤(r:Int)) (h3:-(r:Int)≤dy) (h4:dy≤(r:Int)) :
 aCK A B W H W' H' r dx dy+2*uJ A B W H W' H' dx dy=G5 A W H+G5 B W' H':=by
 have e1:uJ A B W H W' H' dx dy=AZ (fun x y=>b1 (A x y&&B (x-dx) (y-dy))) (-(r:Int)) (max W W'+2*r) (-(r:Int)) (max H H'+2*r):=by
  unfold uJ pH;refine (EO (by omega) (by omega) (by omega) (by omega) fun x y hxy => ?_).symm;cases ha:A x y
  ·rfl
  ·cases hb:B (x-dx) (y-dy)
   ·rfl
   ·have a:=hA x y ha;have b:=hB _ _ hb;omega
 have e2:G5 A W H=AZ (fun x y=>b1 (A x y)) (-(r:Int)) (max W W'+2*r) (-(r:Int)) (max H H'+2*r):=by
  unfold G5;refine (EO (by omega) (by omega) (by omega) (by omega) fun x y hxy => ?_).symm;rw[aEq hA (by omega)];rfl
 have e3:G5 B W' H'=AZ (fun x y=>b1 (B (x-dx) (y-dy))) (-(r:Int)) (max W W'+2*r) (-(r:Int)) (max H H'+2*r):=by
  rw[CJ (fun x y=>b1 (B x y))];unfold G5;refine (EO (by omega) (by omega) (by omega) (by omega) fun x y hxy => ?_).symm;rw[aEq hB (by omega)];rfl
 rw[e1,e2,e3,←EN,Nat.two_mul];unfold aCK;rw[←EN,←EN];refine CK fun x y => ?_;cases A x y<;>cases B (x-dx) (y-dy)<;>rfl
def o4 (f : Nat → Nat) : Nat → Nat
 |0=>0
 |n+1=>max (o4 f n) (f n)
theorem EP {f:Nat→Nat} {c n:Nat} (h:∀i,i<n→f i≤c):o4 f n≤c:=by
 induction n with
 |zero=>exact Nat.zero_le _
 |succ n ih=>have a:=ih fun i hi=>h i (by omega);have b:=h n (by omega);show max (o4 f n) (f n)≤c;omega
def rF (r i:Nat):Int:=((i % (2*r+1):Nat):Int)-(r:Int)
def rG (r i:Nat):Int:=((i / (2*r+1):Nat):Int)-(r:Int)
def gS (A B:Int→Int→Bool) (W H W' H' r i:Nat):Nat:=uJ A B W H W' H' (rF r i) (rG r i)
def K7 (A B:Int→Int→Bool) (W H W' H' r:Nat):Int:=(G5 A W H:Int)+(G5 B W' H':Int)-2*(o4 (gS A B W H W' H' r) ((2*r+1)*(2*r+1)):Int)
def jY (bs:List Bool) (W H:Nat) (x y:Int):Bool:=atI bs W H x y
theorem G6 (bs:List Bool) (W H:Nat):Held (jY bs W H) W H:=fun x y h=>by
 unfold jY atI at h;rw[aLV] at h;exact aLY h.1
theorem LK (bs:List Bool) (W H x y:Nat) (hx:x<W) (hy:y<H):jY bs W H x y=bs.getD (y*W+x) false:=CC bs W H x y hx hy
def lE (bs:List Bool) (n:Nat):Nat:=lC (fun i=>b1 (bs.getD i false)) n
theorem CL (bs:List Bool) (n:Nat):lE bs (n+1)=lE bs n+b1 (bs.getD n false):=rfl
theorem qE (bs:List Bool) (n:Nat):lE bs n≤n:=by
 have:=rR (f:=fun i=>b1 (bs.getD i false)) (c:=1) (fun _=>GX _) n;simpa [lE] using this
theorem sX (bs:List Bool) (W H:Nat):lE bs (W*H)=G5 (jY bs W H) W H:=by
 unfold lE G5 AZ m9;rw[Nat.mul_comm,xW];refine dZ fun y hy=>dZ fun x hx => ?_;rw[show (0:Int)+(x:Int)=(x:Int) by omega,show (0:Int)+(y:Int)=(y:Int) by omega];show b1 (bs.getD (y*W+x) false)=b1 (jY bs W H x y);rw[LK bs W H x y hx hy]
theorem QZ (A B:Int→Int→Bool) (W H W' H' r i:Nat):gS A B W H W' H' r i≤H*W:=by
 unfold gS uJ;refine aMb (aCJ (fun x y=>GX _) _ _ _ _) ?_;refine aMa ?_ ?_<;>(unfold pH;omega)
theorem EQ (A B:Int→Int→Bool) (W H W' H' r n:Nat):o4 (gS A B W H W' H' r) n≤H*W:=EP fun i _=>QZ A B W H W' H' r i
theorem OC (r i j:Nat) (hj:j<2*r+1):rF r (i*(2*r+1)+j)=(j:Int)-(r:Int)∧rG r (i*(2*r+1)+j)=(i:Int)-(r:Int):=by
 unfold rF rG;have e1:(i*(2*r+1)+j) % (2*r+1)=j:=(by rw[Nat.mul_comm,Nat.mul_add_mod,Nat.mod_eq_of_lt hj]);have e2:(i*(2*r+1)+j) / (2*r+1)=i:=(by rw[Nat.mul_comm,Nat.mul_add_div (by omega),Nat.div_eq_of_lt hj,Nat.add_zero]);rw[e1,e2];exact ⟨rfl,rfl⟩
def aD6 (cs bs : List Bool) (n m : Nat) : Nat → Nat
 |0=>0
 |1=>lE cs n
 |_=>lE cs n+lE bs m
def aCL (A B:Int→Int→Bool) (dx dy x0:Int) (nx:Nat) (y:Int):Nat:=m9 (fun x=>b1 (A x y&&B (x-dx) (y-dy))) x0 nx
theorem U7 (A B:Int→Int→Bool) (W H W' H':Nat) (dx dy:Int):uJ A B W H W' H' dx dy=m9 (aCL A B dx dy (max 0 dx) (pH (max 0 dx) (min (W:Int) ((W':Int)+dx)))) (max 0 dy) (pH (max 0 dy) (min (H:Int) ((H':Int)+dy))):=rfl
theorem sY {w:World} {A:Option Addr} {n:Nat} {bs:List Bool} (h:Reads w 1 A n (bs.map .bool)) {k:Nat} (hk:k<n):∃ad,A=some ad∧w.cell? (ad.add k)=some (.bool (bs.getD k false)):=by
 obtain ⟨ad,u,e,hu,hc⟩:=h.at_ hk;refine ⟨ad,e,?_⟩;simp only[aLG,Option.map_eq_some_iff] at hu;obtain ⟨b,hb1,hb2⟩:=hu;rw[hc,←hb2,List.getD,hb1];rfl
theorem vP (W H W' H' r:Nat) (A B:Option Addr) (ac bc:Nat) (cs bs:List Bool) (w:World) (hA:Reads w 1 A (W*H) (cs.map .bool)) (hB:Reads w 1 B (W'*H') (bs.map .bool)) (hW:W≤4000) (hH:H≤4000) (hW':W'≤4000) (hH':H'≤4000) (hr:r≤4) :
 Calls Tryz.prog 159 #[.agg #[W,H,.slice A (W*H) ac],.agg #[W',H',.slice B (W'*H') bc],r] w fun e w'=>e=.returned (.int .i64 (K7 (jY cs W H) (jY bs W' H') W H W' H' r))∧Bl w w':=by
 let w2:=((w).alloc (.cells #[W,H,.slice A (W*H) ac] 43)).alloc (.cells #[W',H',.slice B (W'*H') bc] 43);obtain ⟨w2b,w21,w22⟩:=aLi (x:=w2) w _ _ _ _ rfl;have hA2:=hA.bl w2b;have hB2:=hB.bl w2b;have k1:=w21.all3;have k2:=w22.all3;have hn:W*H≤16000000:=(by have:=aMa hW hH;omega);have hm:W'*H'≤16000000:=(by have:=aMa hW' hH';omega);have HA:=aLa hA2;have HB:=aLa hB2;have t1:=qE cs (W*H);have t2:=qE bs (W'*H');have i0:∀w:World,(Instr.index 219 (.agg #[W,H,.slice A (W*H) ac,W',H',.slice B (W'*H') bc]) (.int .i64 0)).run Tryz.prog w=.ok (.agg #[W,H,.slice A (W*H) ac]) w:=fun _=>(by kernel_rfl);have i1:∀w:World,(Instr.index 219 (.agg #[W,H,.slice A (W*H) ac,W',H',.slice B (W'*H') bc]) (.int .i64 1)).run Tryz.prog w=.ok (.agg #[W',H',.slice B (W'*H') bc]) w:=fun _=>(by kernel_rfl);clear hA hB hA2 hB2
 go_in
 go_wp2_with fail;go_loopw [21,7] (fun u v wr=>∃i:Nat,i≤2∧u=.int .i64 i∧v=.int .i64 (aD6 cs bs (W*H) (W'*H') i:Nat)∧Bl w2 wr) (fun u _ _=>2-(RowKit.intOf u).toNat);case atStart=>exact ⟨0,by omega,rfl,rfl,Bl.refl _⟩
 case round=>
  clear k1 k2;obtain ⟨i,hi,rfl,rfl,hbr⟩:=hrel;by_cases hlt:i<2
  ·have inner:∀(X:Option Addr) (q pre:Nat) (zs:List Bool),True:=fun _ _ _ _=>trivial;clear inner;have ZF:i=0∨i=1:=(by omega);rcases ZF with rfl|rfl
   ·have e0:aD6 cs bs (W*H) (W'*H') 0=0:=rfl;rw[e0];go_wp2_with fail;obtain ⟨w5,hw5⟩:=aLt (wr.alloc (.cells #[W,H,.slice A (W*H) ac] 43));have hb5:=aLn hw5;rw[←hw5];clear hw5;go_loopw [27,7] (fun u v wx=>∃k:Nat,k≤W*H∧u=.int .i64 k∧v=.int .i64 (lE cs k:Nat)∧Bl w5 wx) (fun u _ _=>W*H-(RowKit.intOf u).toNat);case atStart=>exact ⟨0,Nat.zero_le _,rfl,rfl,Bl.refl _⟩
    case round=>
     rename World=>wx;obtain ⟨k,hk,rfl,rfl,hbx⟩:=hrel;have hts:=CL cs k;have htl:=qE cs k;obtain ⟨v,hv⟩:=aLt (lE cs k);rw[←hv] at hts htl ⊢;have Hts:=aLa hts;have HVv:=aLa hv;clear hts hv;by_cases hkl:k<W*H
     ·obtain ⟨ad,rfl,j1⟩:=sY (HA.out.bl (hbr.trans (hb5.trans hbx))) hkl;obtain ⟨bt,hbt⟩:=aLt (cs.getD k false);rw[←hbt] at j1;have HBt:=aLa hbt;clear hbt;cases bt
      ·have HN:=aLa (show lE cs (k+1)=v by rw[Hts.out,←HBt.out];rfl);go_wp2_with fail;exact ⟨⟨k+1,hkl,by go_num,by rw[HN.out],hbx⟩,by simp[RowKit.intOf]<;>omega⟩
      ·have HN:=aLa (show lE cs (k+1)=v+1 by rw[Hts.out,←HBt.out];rfl);go_wp2_with fail;exact ⟨⟨k+1,hkl,by go_num,by rw[HN.out];go_num,hbx⟩,by simp[RowKit.intOf]<;>omega⟩
     ·obtain rfl:k=W*H:=(by omega);have HN:=aLa (show aD6 cs bs (W*H) (W'*H') 1=v by rw[HVv.out];rfl);go_wp2_with fail;exact ⟨⟨1,by omega,by go_num,by rw[HN.out],hbr.trans (hb5.trans hbx)⟩,by simp[RowKit.intOf]<;>omega⟩
   ·have e0:aD6 cs bs (W*H) (W'*H') 1=lE cs (W*H):=rfl;rw[e0];obtain ⟨P0,hP0⟩:=aLt (lE cs (W*H));rw[←hP0] at t1 ⊢;have HP0:=aLa hP0;clear hP0 e0;go_wp2_with fail;obtain ⟨w5,hw5⟩:=aLt (wr.alloc (.cells #[W',H',.slice B (W'*H') bc] 43));have hb5:=aLn hw5;rw[←hw5];clear hw5;go_loopw [27,7] (fun u v wx=>∃k:Nat,k≤W'*H'∧u=.int .i64 k∧v=.int .i64 (P0+lE bs k:Nat)∧Bl w5 wx) (fun u _ _=>W'*H'-(RowKit.intOf u).toNat);case atStart=>exact ⟨0,Nat.zero_le _,rfl,rfl,Bl.refl _⟩
    case round=>
     rename World=>wx;obtain ⟨k,hk,rfl,rfl,hbx⟩:=hrel;have hts:=CL bs k;have htl:=qE bs k;obtain ⟨v,hv⟩:=aLt (lE bs k);rw[←hv] at hts htl ⊢;have Hts:=aLa hts;have HVv:=aLa hv;clear hts hv;by_cases hkl:k<W'*H'
     ·obtain ⟨ad,rfl,j1⟩:=sY (HB.out.bl (hbr.trans (hb5.trans hbx))) hkl;obtain ⟨bt,hbt⟩:=aLt (bs.getD k false);rw[←hbt] at j1;have HBt:=aLa hbt;clear hbt;cases bt
      ·have HN:=aLa (show lE bs (k+1)=v by rw[Hts.out,←HBt.out];rfl);go_wp2_with fail;exact ⟨⟨k+1,hkl,by go_num,by rw[HN.out],hbx⟩,by simp[RowKit.intOf]<;>omega⟩
      ·have HN:=aLa (show lE bs (k+1)=v+1 by rw[Hts.out,←HBt.out];rfl);go_wp2_with fail;exact ⟨⟨k+1,hkl,by go_num,by rw[HN.out];go_num,hbx⟩,by simp[RowKit.intOf]<;>omega⟩
     ·obtain rfl:k=W'*H':=(by omega);have HN:=aLa (show aD6 cs bs (W*H) (W'*H') 2=P0+v by rw[HVv.out,HP0.out];rfl);go_wp2_with fail;exact ⟨⟨2,by omega,by go_num,by rw[HN.out],hbr.trans (hb5.trans hbx)⟩,by simp[RowKit.intOf]<;>omega⟩
  ·obtain rfl:i=2:=(by omega);have e2:aD6 cs bs (W*H) (W'*H') 2=lE cs (W*H)+lE bs (W'*H'):=rfl;have hT1:=sX cs W H;have hT2:=sX bs W' H';rw[e2];obtain ⟨P1,hP1⟩:=aLt (lE cs (W*H));obtain ⟨P2,hP2⟩:=aLt (lE bs (W'*H'));rw[←hP1] at t1 hT1 ⊢;rw[←hP2] at t2 hT2 ⊢;obtain ⟨F,hF⟩:=aLt (gS (jY cs W H) (jY bs W' H') W H W' H' r);have hFb:∀k,o4 F k≤16000000:=fun k=>by
    have:=EQ (jY cs W H) (jY bs W' H') W H W' H' r k;rw[←hF] at this;rw[Nat.mul_comm] at this;omega
   have hFi:∀i j,j<2*r+1→F (i*(2*r+1)+j)=uJ (jY cs W H) (jY bs W' H') W H W' H' ((j:Int)-(r:Int)) ((i:Int)-(r:Int)):=fun i j hj=>by
    rw[hF];unfold gS;rw[(OC r i j hj).1,(OC r i j hj).2]
   have lQ:K7 (jY cs W H) (jY bs W' H') W H W' H' r=(P1:Int)+(P2:Int)-2*(o4 F ((2*r+1)*(2*r+1)):Int):=by
    unfold K7;rw[←hF,←hT1,←hT2]
   have k1:=(w21.bl hbr).all3;have k2:=(w22.bl hbr).all3;obtain ⟨HA2,HB2,HFb,HFi,HRs⟩:=aLd (HA.out.bl hbr) (HB.out.bl hbr) hFb hFi lQ;clear hF hFb hFi lQ hT1 hT2 hP1 hP2 e2 i0 i1 HA HB;go_wp2_with fail;go_loopw [13,12] (fun u v wx=>∃i:Nat,i≤2*r+1∧u=.int .i64 ((i:Int)-(r:Int))∧v=.int .i64 (o4 F (i*(2*r+1)):Nat)∧wr=wx) (fun u _ _=>2*r+1-(RowKit.intOf u+(r:Int)).toNat);case atStart=>exact ⟨0,Nat.zero_le _,by simp,by simp[o4],rfl⟩
   case round=>
    obtain ⟨i,hi,rfl,rfl,rfl⟩:=hrel;by_cases hlt:i<2*r+1
    ·have hc:(i:Int)-(r:Int)≤(r:Int):=(by omega);obtain ⟨dy,hdy⟩:=aLt ((i:Int)-(r:Int));have hd1:-4≤dy∧dy≤4:=(by omega);rw[←hdy] at hc ⊢;have HDy:=aLa hdy;have hM0:=HFb.out (i*(2*r+1));clear hdy;go_wp2_with fail;go_loopw [14,12] (fun u v wx=>∃j:Nat,j≤2*r+1∧u=.int .i64 ((j:Int)-(r:Int))∧v=.int .i64 (o4 F (i*(2*r+1)+j):Nat)∧wr=wx) (fun u _ _=>2*r+1-(RowKit.intOf u+(r:Int)).toNat);case atStart=>exact ⟨0,Nat.zero_le _,by simp,by simp,rfl⟩
     case round=>
      obtain ⟨j,hj,rfl,rfl,rfl⟩:=hrel;by_cases hjt:j<2*r+1
      ·have hFj:=HFi.out i j hjt;have hcj:(j:Int)-(r:Int)≤(r:Int):=(by omega);obtain ⟨dx,hdx⟩:=aLt ((j:Int)-(r:Int));have hd2:-4≤dx∧dx≤4:=(by omega);rw[←hdx,←HDy.out,U7] at hFj;rw[←hdx] at hcj ⊢;have HDx:=aLa hdx;have hM1:=HFb.out (i*(2*r+1)+j);obtain ⟨M,hM⟩:=aLt (o4 F (i*(2*r+1)+j));have hMs:o4 F (i*(2*r+1)+(j+1))=max M (F (i*(2*r+1)+j)):=(by rw[hM];rfl);rw[←hM] at hM1 ⊢;obtain ⟨x0,hx0⟩:∃x0:Nat,(x0:Int)=max 0 dx:=⟨(max 0 dx).toNat,by omega⟩;obtain ⟨y0,hy0⟩:∃y0:Nat,(y0:Int)=max 0 dy:=⟨(max 0 dy).toNat,by omega⟩;obtain ⟨x1,hx1⟩:=aLt (min (W:Int) ((W':Int)+dx));obtain ⟨y1,hy1⟩:=aLt (min (H:Int) ((H':Int)+dy));have gx0:(if (0:Int)<dx then dx else 0)=(x0:Int):=(by split<;>omega);have gy0:(if (0:Int)<dy then dy else 0)=(y0:Int):=(by split<;>omega);have gx1:(if (W:Int)<(W':Int)+dx then (W:Int) else (W':Int)+dx)=x1:=(by split<;>omega);have gy1:(if (H:Int)<(H':Int)+dy then (H:Int) else (H':Int)+dy)=y1:=(by split<;>omega);have gx2:(if dx<0 then (0:Int) else dx)=(x0:Int):=(by split<;>omega);have gy2:(if dy<0 then (0:Int) else dy)=(y0:Int):=(by split<;>omega);have gx3:(if (W':Int)+dx<(W:Int) then (W':Int)+dx else (W:Int))=x1:=(by split<;>omega);have gy3:(if (H':Int)+dy<(H:Int) then (H':Int)+dy else (H:Int))=y1:=(by split<;>omega);rw[←hx0,←hx1,←hy0,←hy1] at hFj;obtain ⟨nx,hnx⟩:=aLt (pH (x0:Int) x1);obtain ⟨ny,hny⟩:=aLt (pH (y0:Int) y1);rw[←hnx,←hny] at hFj;obtain ⟨Row,aFQ⟩:=aLt (aCL (jY cs W H) (jY bs W' H') dx dy (x0:Int) nx);rw[←aFQ] at hFj;obtain ⟨HFj,HMs,NY,HM,Hx0,Hy0,Hx1,Hy1⟩:=aLg hFj hMs aFQ hM hx0 hy0 hx1 hy1;have Hnx:=aLa hnx;have Hny:=aLa hny;have hrl:∀y,Row y≤nx:=fun y=>(by rw[aFQ];unfold aCL;have:=x9 (c:=1) (fun x=>GX (jY cs W H x y&&jY bs W' H' (x-dx) (y-dy))) (x0:Int) nx;omega);have hwl:∀k,k≤ny→m9 Row (y0:Int) k≤16000000:=fun k hk=>by
        have h1:=x9 (c:=nx) hrl (y0:Int) k;have h2:nx≤W:=by rw[hnx];unfold pH;omega
        have h3 : k ≤ H := by have : ny ≤ H := by rw [hny]; unfold pH; omega
                              omega
        have h4:=aMa h3 h2;rw[Nat.mul_comm H W] at h4;omega
       have HWl:=aLa hwl;have hy4:y0≤4:=(by omega);have hx4:x0≤4:=(by omega);clear hFj hMs aFQ hM hx0 hy0 hx1 hy1 hnx hny hrl hwl hdx;go_wp2_with fail;go_loopw [16,15] (fun u v wx=>∃y:Nat,y0≤y∧y≤y0+ny∧u=.int .i64 (y:Int)∧v=.int .i64 (m9 Row (y0:Int) (y-y0):Nat)∧wr=wx) (fun u _ _=>y0+ny-(RowKit.intOf u).toNat);case atStart=>exact ⟨y0,Nat.le_refl _,by omega,rfl,by rw[Nat.sub_self];rfl,rfl⟩
       case round=>
        obtain ⟨y,hya,hyb,rfl,rfl,rfl⟩:=hrel;by_cases hyt:y<y0+ny
        ·have hyc:(y:Int)<y1:=(by have:=Hny.out;unfold pH at this;omega);have hP:=HWl.out (y-y0) (by omega);have hPs:m9 Row (y0:Int) (y+1-y0)=m9 Row (y0:Int) (y-y0)+Row (y:Int):=by
          rw[show y+1-y0=(y-y0)+1 by omega,G4,show (y0:Int)+((y-y0:Nat):Int)=(y:Int) by omega]
         have hPb:=HWl.out (y+1-y0) (by omega);have hyH:y<H:=(by have:=Hy1.out;omega);obtain ⟨yb,aGL⟩:∃yb:Nat,(yb:Int)=(y:Int)-dy:=⟨((y:Int)-dy).toNat,by have:=Hy0.out;omega⟩;have aH8:yb<H':=(by have:=Hy1.out;omega);obtain ⟨G,hG⟩:∃G:Int→Nat,G=fun x=>b1 (jY cs W H x (y:Int)&&jY bs W' H' (x-dx) ((y:Int)-dy)):=⟨_,rfl⟩;have hRG:Row (y:Int)=m9 G (x0:Int) nx:=(by rw[NY.out,hG];rfl);rw[hRG] at hPs;obtain ⟨P,hPP⟩:=aLt (m9 Row (y0:Int) (y-y0));rw[←hPP] at hP hPs ⊢;have hGl:∀k,m9 G (x0:Int) k≤k:=fun k=>(by have:=x9 (f:=G) (c:=1) (fun z=>by rw[hG];exact GX _) (x0:Int) k;omega);have hGx:∀xn xb:Nat,xn<W→xb<W'→(xb:Int)=(xn:Int)-dx→G (xn:Int)=b1 (cs.getD (y*W+xn) false&&bs.getD (yb*W'+xb) false):=fun xn xb h1 h2 h3=>by
          rw[hG];show b1 (jY cs W H xn y&&jY bs W' H' ((xn:Int)-dx) ((y:Int)-dy))=_;rw[←aGL,←h3,LK cs W H xn y h1 hyH,LK bs W' H' xb yb h2 aH8]
         have q1:0≤(y:Int)*(W:Int)∧(y:Int)*(W:Int)≤16000000:=by
          have h5:=aL9 y W;have h6:=aMa (show y≤4000 by omega) hW;omega
         have q2:0≤(yb:Int)*(W':Int)∧(yb:Int)*(W':Int)≤16000000:=by
          have h5:=aL9 yb W';have h6:=aMa (show yb≤4000 by omega) hW';omega
         have hnxW:nx≤4000:=(by have:=Hnx.out;unfold pH at this;have:=Hx1.out;omega);have hyb3:(y:Int)-dy=(yb:Int):=aGL.symm;obtain ⟨HPs,HGx,HGl⟩:=aLb hPs hGx hGl;clear hPs hG hRG hPP hGl hGx hPb aGL;go_wp2_with fail;go_loopw [17,15] (fun u v wx=>∃x:Nat,x0≤x∧x≤x0+nx∧u=.int .i64 (x:Int)∧v=.int .i64 ((P+m9 G (x0:Int) (x-x0):Nat):Int)∧wr=wx) (fun u _ _=>x0+nx-(RowKit.intOf u).toNat);case atStart=>exact ⟨x0,Nat.le_refl _,by omega,rfl,by rw[Nat.sub_self];rfl,rfl⟩
         case round=>
          obtain ⟨x,hxa,hxb,rfl,rfl,rfl⟩:=hrel;have hV:=HGl.out (x-x0);have hVs:m9 G (x0:Int) (x+1-x0)=m9 G (x0:Int) (x-x0)+G (x:Int):=by
           rw[show x+1-x0=(x-x0)+1 by omega,G4,show (x0:Int)+((x-x0:Nat):Int)=(x:Int) by omega]
          by_cases hxt:x<x0+nx
          ·have hxc:(x:Int)<x1:=(by have:=Hnx.out;unfold pH at this;omega);have hxW:x<W:=(by have:=Hx1.out;omega);obtain ⟨xb,aH9⟩:∃xb:Nat,(xb:Int)=(x:Int)-dx:=⟨((x:Int)-dx).toNat,by have:=Hx0.out;omega⟩;have aIa:xb<W':=(by have:=Hx1.out;omega);have hGv:=HGx.out x xb hxW aIa aH9;obtain ⟨ka,hka⟩:=aLt (y*W+x);obtain ⟨kb,hkb⟩:=aLt (yb*W'+xb);have eka:(y:Int)*(W:Int)+(x:Int)=(ka:Int):=(by rw[hka];simp);have ekb:(yb:Int)*(W':Int)+(x:Int)-dx=(kb:Int):=by
            have:(kb:Int)=(yb:Int)*(W':Int)+(xb:Int):=(by rw[hkb];simp);omega
           have aJz:ka<W*H:=(by rw[hka];exact eD hxW hyH);have aJA:kb<W'*H':=(by rw[hkb];exact eD aIa aH8);obtain ⟨ada,eA,ja⟩:=sY HA2.out aJz;obtain ⟨adb,eB,jb⟩:=sY HB2.out aJA;rw[←hka,←hkb] at hGv;obtain ⟨va,hva⟩:=aLt (cs.getD ka false);obtain ⟨vb,hvb⟩:=aLt (bs.getD kb false);rw[←hva] at ja hGv;rw[←hvb] at jb hGv;rw[hGv] at hVs;obtain ⟨V,hVV⟩:=aLt (m9 G (x0:Int) (x-x0));rw[←hVV] at hV hVs ⊢;have HVs:=aLa hVs;subst eA;subst eB;clear hVs hVV hva hvb hGv hka hkb aH9;cases va
           ·have HN:=aLa (show P+m9 G (x0:Int) (x+1-x0)=P+V by rw[HVs.out];rfl);go_wp2_with fail;exact ⟨⟨x+1,by omega,by omega,by go_num,by rw[HN.out],trivial⟩,by simp[RowKit.intOf]<;>omega⟩
           ·cases vb
            ·have HN:=aLa (show P+m9 G (x0:Int) (x+1-x0)=P+V by rw[HVs.out];rfl);go_wp2_with fail;exact ⟨⟨x+1,by omega,by omega,by go_num,by rw[HN.out],trivial⟩,by simp[RowKit.intOf]<;>omega⟩
            ·have HN:=aLa (show P+m9 G (x0:Int) (x+1-x0)=P+V+1 by rw[HVs.out];rfl);go_wp2_with fail;exact ⟨⟨x+1,by omega,by omega,by go_num,by rw[HN.out];go_num,trivial⟩,by simp[RowKit.intOf]<;>omega⟩
          ·obtain rfl:x=x0+nx:=(by omega);have hxc:¬((x0:Int)+(nx:Int)<x1):=(by have:=Hnx.out;unfold pH at this;omega);have HN:=aLa (show m9 Row (y0:Int) (y+1-y0)=P+m9 G (x0:Int) (x0+nx-x0) by rw[HPs.out,show x0+nx-x0=nx by omega]);go_wp2_with fail;exact ⟨⟨y+1,by omega,by omega,by go_num,by rw[HN.out],trivial⟩,by simp[RowKit.intOf]<;>omega⟩
        ·obtain rfl:y=y0+ny:=(by omega);have hyc:¬((y0:Int)+(ny:Int)<y1):=(by have:=Hny.out;unfold pH at this;omega);have hFv:=HFj.out;have hMs:=HMs.out;have aJB:=HWl.out ny (Nat.le_refl _);rw[show y0+ny-y0=ny by omega];rw[hFv] at hMs;obtain ⟨V,hVV⟩:=aLt (m9 Row (y0:Int) ny);rw[←hVV] at hMs aJB ⊢;obtain ⟨Mx,hMx⟩:=aLt (max M V);rw[←hMx] at hMs;have gm1:(if (M:Int)<(V:Int) then (V:Int) else (M:Int))=(Mx:Int):=(by split<;>omega);have gm2:(if M<V then (V:Int) else (M:Int))=(Mx:Int):=(by split<;>omega);have gm3:(if (V:Int)<(M:Int) then (M:Int) else (V:Int))=(Mx:Int):=(by split<;>omega);have gm4:(if V<M then (M:Int) else (V:Int))=(Mx:Int):=(by split<;>omega);have aJC:=aLa hMs;clear hFv hMs hVV hMx;go_wp2_with fail;exact ⟨⟨j+1,hjt,by rw[HDx.out];go_num,by rw[aJC.out],trivial⟩,by rw[HDx.out];simp[RowKit.intOf]<;>omega⟩
      ·obtain rfl:j=2*r+1:=(by omega);have hcj:¬(((2*r+1:Nat):Int)-(r:Int)≤(r:Int)):=(by omega);have he:i*(2*r+1)+(2*r+1)=(i+1)*(2*r+1):=(by rw[Nat.add_mul,Nat.one_mul]);rw[he];have HDy2:=HDy;go_wp2_with fail;exact ⟨⟨i+1,hlt,by rw[HDy.out];go_num,rfl,trivial⟩,by rw[HDy.out];simp[RowKit.intOf]<;>omega⟩
    ·obtain rfl:i=2*r+1:=(by omega);have hc:¬(((2*r+1:Nat):Int)-(r:Int)≤(r:Int)):=(by omega);have hb:=HFb.out ((2*r+1)*(2*r+1));obtain ⟨M,hM⟩:=aLt (o4 F ((2*r+1)*(2*r+1)));have lQ:=HRs.out;rw[←hM] at hb lQ ⊢;have HR2:=aLa lQ;clear hM lQ;go_wp2_with fail;go_ret;exact ⟨gB (by rw[HR2.out]<;>omega),w2b.trans hbr⟩
abbrev Piece:=Nat × Nat
def sZ : List Piece → List Piece
 |[]=>[]
 |[p]=>[(p.1,p.2+1)]
 |p :: q :: l=>p :: sZ (q :: l)
theorem lY (l:List Piece) (p:Piece):sZ (l++[p])=l++[(p.1,p.2+1)]:=by
 induction l with
 |nil=>rfl
 |cons x l ih=>
  cases l with
  |nil=>rfl
  |cons y l=>show x :: sZ (y :: l++[p])=_;rw[ih];rfl
def o6 (f : Nat → Nat) : Nat → Bool
 |0=>false
 |k+1=>decide (0<f k)
def aB (f : Nat → Nat) : Nat → List Piece
 |0=>[]
 |k+1=>if f k=0 then aB f k else if o6 f k=true then sZ (aB f k) else aB f k++[(k,1)]
theorem rV (f : Nat → Nat) : ∀ k, (o6 f k = true → ∃ l p, aB f k = l ++ [p] ∧ p.1 + p.2 = k) ∧ (o6 f k = false → aB f k = [] ∨ ∃ l p, aB f k = l ++ [p] ∧ p.1 + p.2 < k)
 |0=>⟨(fun h=>by cases h),fun _=>Or.inl rfl⟩
 |k+1=>by
  have ih:=rV f k;constructor
  ·intro h;have hf:0<f k:=aLY h;show ∃l p,(if f k=0 then aB f k else if o6 f k=true then sZ (aB f k) else aB f k++[(k,1)])=l++[p]∧p.1+p.2=k+1;rw[if_neg (by omega)];cases ha:o6 f k
   ·rw[if_neg (by simp)];exact ⟨_,_,rfl,rfl⟩
   ·obtain ⟨l,p,e,hp⟩:=ih.1 ha;rw[if_pos rfl,e,lY];exact ⟨l,_,rfl,by show p.1+(p.2+1)=k+1;omega⟩
  ·intro h;have hf:f k=0:=(by have:¬0<f k:=of_decide_eq_false h;omega);show (if f k=0 then aB f k else _)=[]∨∃l p,(if f k=0 then aB f k else _)=l++[p]∧p.1+p.2<k+1;rw[if_pos hf];cases ha:o6 f k
   ·rcases ih.2 ha with h2|⟨l,p,e,hp⟩
    ·exact .inl h2
    ·exact .inr ⟨l,p,e,by omega⟩
   ·obtain ⟨l,p,e,hp⟩:=ih.1 ha;exact .inr ⟨l,p,e,by omega⟩
theorem pI : ∀ l : List Piece, (sZ l).length = l.length
 |[]=>rfl
 |[_]=>rfl
 |_ :: q :: l=>by show (sZ (q :: l)).length+1=_;rw[pI (q :: l)];rfl
theorem qF (f : Nat → Nat) : ∀ k, (aB f k).length ≤ k
 |0=>Nat.le_refl _
 |k+1=>by
  have ih:=qF f k;show (if f k=0 then aB f k else if o6 f k=true then sZ (aB f k) else aB f k++[(k,1)]).length≤k+1;split
  ·omega
  ·split
   ·rw[pI];omega
   ·rw[aLy];simp;exact ih
theorem pJ (f : Nat → Nat) : ∀ k, ∀ p ∈ aB f k, 1 ≤ p.2 ∧ p.1 + p.2 ≤ k
 |0=>fun p hp=>by cases hp
 |k+1=>by
  have ih:=pJ f k;intro p hp
  change p∈(if f k=0 then aB f k else if o6 f k=true then sZ (aB f k) else aB f k++[(k,1)]) at hp
  split at hp
  ·have:=ih p hp;omega
  ·split at hp
   ·rename_i ha
    obtain ⟨l,q,e,hq⟩:=(rV f k).1 ha;rw[e,lY] at hp;have hq2:=ih q (by rw[e];simp);rcases aLM.1 hp with h|h
    ·have:=ih p (by rw[e];exact List.mem_append_left _ h);omega
    ·rw[aLQ.1 h];show 1≤q.2+1∧q.1+(q.2+1)≤k+1;omega
   ·rcases aLM.1 hp with h|h
    ·have:=ih p h;omega
    ·rw[aLQ.1 h];show 1≤1∧k+1≤k+1;omega
def bR (H:Nat) (l:List Piece):List Value:=l.flatMap fun p=>[.int .i64 p.1,.int .i64 0,.int .i64 p.2,.int .i64 H]
theorem iU (H:Nat) (a b:List Piece):bR H (a++b)=bR H a++bR H b:=by unfold bR;rw[aMh]
theorem vQ (H:Nat) (l:List Piece):(bR H l).length=l.length*4:=by
 unfold bR;induction l with
 |nil=>rfl
 |cons x l ih=>rw[aMi,aLy,ih,aLB];show 4+l.length*4=(l.length+1)*4;omega
theorem lF {H:Nat} {l:List Piece} {i:Nat} {p:Piece} (h:l[i]? = some p) (j:Nat) (hj:j<4):(bR H l)[i*4+j]? = ([.int .i64 p.1,.int .i64 0,.int .i64 p.2,.int .i64 H]:List Value)[j]?:=by
 induction l generalizing i with
 |nil=>simp at h
 |cons x l ih=>
  unfold bR;rw[aMi];rcases i with _|i
  ·simp only[aLT,Option.some.injEq] at h;subst h;rw[aLE (by show 0*4+j<4;omega)];simp
  ·rw[aLD (by show 4≤(i+1)*4+j;omega)];have e:(i+1)*4+j-4=i*4+j:=(by omega);show (bR H l)[(i+1)*4+j-4]? = _;rw[e];exact ih (by simpa using h)
theorem BB (H:Nat) (l:List Piece) (p:Piece):(bR H (l++[p])).set (l.length*4+2) (.int .i64 ((p.2:Int)+1))=bR H (sZ (l++[p])):=by
 rw[lY,iU,iU];rw[List.set_append_right _ _ (by rw[vQ];omega),vQ];rw[show l.length*4+2-l.length*4=2 by omega];rfl
def A0 (cs:List Bool) (W H:Nat) (l:Ltr):Int:=K7 (jY cs W H) (jY l.bs l.W.toNat l.H.toNat) W H l.W.toNat l.H.toNat 1
abbrev Best:=List UInt8 × Int × Int
def cZ (cs:List Bool) (W H:Nat) (s:Best) (l:Ltr):Best:=
 if l.W-(W:Int) < -2∨2<l.W-(W:Int) then s
 else if s.2.1<0∨A0 cs W H l<s.2.1 then (l.text,A0 cs W H l,s.2.1)
 else if s.2.2<0∨A0 cs W H l<s.2.2 then (s.1,s.2.1,A0 cs W H l)
 else s
def cQ (cs:List Bool) (W H:Nat) (t0:List UInt8) (ls:List Ltr):Best:=ls.foldl (cZ cs W H) (t0,-1,-1)
theorem yA {cs:List Bool} {W H:Nat} {t0:List UInt8} {ls:List Ltr} {i:Nat} {l:Ltr} (h:ls[i]? = some l):cQ cs W H t0 (ls.take (i+1))=cZ cs W H (cQ cs W H t0 (ls.take i)) l:=by
 unfold cQ;rw[aMc,h,List.foldl_append];rfl
theorem s6 {W H W' H' r:Nat} {cs bs:List Bool} (hW:W≤4000) (hH:H≤4000) (hW':W'≤4000) (hH':H'≤4000):0≤K7 (jY cs W H) (jY bs W' H') W H W' H' r∧K7 (jY cs W H) (jY bs W' H') W H W' H' r≤32000000:=by
 have h1:=sX cs W H;have h2:=sX bs W' H';have h3:=qE cs (W*H);have h4:=qE bs (W'*H');have h5:=aMa hW hH;have h6:=aMa hW' hH';have hFm:o4 (gS (jY cs W H) (jY bs W' H') W H W' H' r) ((2*r+1)*(2*r+1))≤(G5 (jY cs W H) W H+G5 (jY bs W' H') W' H') / 2:=EP fun idx aFR=>by
  have e1:idx / (2*r+1)<2*r+1:=Nat.div_lt_of_lt_mul (by omega);have e2:idx % (2*r+1)<2*r+1:=Nat.mod_lt _ (by omega);have h7:aCK (jY cs W H) (jY bs W' H') W H W' H' r (rF r idx) (rG r idx)+2*uJ (jY cs W H) (jY bs W' H') W H W' H' (rF r idx) (rG r idx)=G5 (jY cs W H) W H+G5 (jY bs W' H') W' H':=by
   unfold rF rG;obtain ⟨a,ha⟩:=aLt (idx % (2*r+1));obtain ⟨b,hb⟩:=aLt (idx / (2*r+1));rw[←ha,←hb];rw[←ha] at e2;rw[←hb] at e1;exact U6 (G6 cs W H) (G6 bs W' H') (by omega) (by omega) (by omega) (by omega)
  unfold gS;omega
 unfold K7;omega
theorem OD {cs:List Bool} {W H:Nat} (t0:List UInt8) (hW:W≤4000) (hH:H≤4000) {ls:List Ltr} (hl:∀l∈ls,l.W≤64∧l.H≤4000):(cQ cs W H t0 ls).2.1 = -1∧(cQ cs W H t0 ls).2.2 = -1∨(0≤(cQ cs W H t0 ls).2.1∧(cQ cs W H t0 ls).2.1≤32000000∧-1≤(cQ cs W H t0 ls).2.2∧(cQ cs W H t0 ls).2.2≤32000000):=by
 have key : ∀ (ls : List Ltr) (s : Best), (∀ l ∈ ls, l.W ≤ 64 ∧ l.H ≤ 4000) → (s.2.1 = -1 ∧ s.2.2 = -1 ∨ (0 ≤ s.2.1 ∧ s.2.1 ≤ 32000000 ∧ -1 ≤ s.2.2 ∧ s.2.2 ≤ 32000000)) →
  ((ls.foldl (cZ cs W H) s).2.1 = -1∧(ls.foldl (cZ cs W H) s).2.2 = -1∨(0≤(ls.foldl (cZ cs W H) s).2.1∧(ls.foldl (cZ cs W H) s).2.1≤32000000∧-1≤(ls.foldl (cZ cs W H) s).2.2∧(ls.foldl (cZ cs W H) s).2.2≤32000000)):=by
  intro ls;induction ls with
  |nil=>intro s _ h;exact h
  |cons l ls ih=>
   intro s hl h;refine ih (cZ cs W H s l) (fun x hx=>hl x (List.mem_cons_of_mem _ hx)) ?_;have hll:=hl l (List.mem_cons_self ..);have hr:0≤A0 cs W H l∧A0 cs W H l≤32000000:=s6 hW hH (by omega) (by omega);unfold cZ;split
   ·exact h
   ·split
    ·right;show 0≤A0 cs W H l∧A0 cs W H l≤32000000∧-1≤s.2.1∧s.2.1≤32000000;omega
    ·split
     ·right;show 0≤s.2.1∧s.2.1≤32000000∧-1≤A0 cs W H l∧A0 cs W H l≤32000000;omega
     ·exact h
 exact key ls _ hl (.inl ⟨rfl,rfl⟩)
def CN (b:Best) (most ht w:Int):Bool:=decide (b.2.1<0∨most*ht*w<b.2.1*1000)
def dD (b:Best) (X W H:Nat) (most ht:Int):List Value:=
 if CN b most ht W=true then [.string ⟨#[63]⟩,.int .i64 X,.int .i64 0,.int .i64 W,.int .i64 H,.int .i64 (-1),.int .i64 (-1)]
 else [.string ⟨b.1.toArray⟩,.int .i64 X,.int .i64 0,.int .i64 W,.int .i64 H,.int .i64 b.2.1,.int .i64 b.2.2]
end Go.Proofs.YtllefinciimffaaGreatDoor
