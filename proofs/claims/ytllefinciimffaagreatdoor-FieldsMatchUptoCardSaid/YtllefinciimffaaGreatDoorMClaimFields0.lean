import Derived.Test.YtllefinciimffaaGreatDoorRows
import Derived.WalkKit
import Derived.WalkSpells
import Derived.WalkLawsBesides
import Derived.Handy
import Derived.Deep.QuietTactic
import Derived.BigQuiet
import Derived.Deep.RegionHeld3
import Derived.Deep.AppendLies
import Derived.Deep.Draws
import Derived.Deep.OwnRows
import Derived.Deep.DeepCutAuto
import Derived.Deep.LoopGhost
import Derived.Deep.DeepFit
import Derived.Maps.AppendAt
import Derived.Lib.Hide
import Derived.StillTailTactics
import Derived.Laws.ResultCell
set_option maxHeartbeats 20000000
set_option maxRecDepth 100000
namespace Go.Proofs.YtllefinciimffaaGreatDoor
open Go.RowKit
theorem cP {k:IntKind} {a b:Int} (h:a=b):Ending.returned (.int k a)=.returned (.int k b):=by rw[h]
theorem aS {a b:Bool} (h:a=b):Ending.returned (.bool a)=.returned (.bool b):=by rw[h]
theorem fT {P:Program} {f:FuncId} {fn:Func} {c:Code} (hf:P.funcs[f]? = some fn) (aDr:(fn.name == "runtime.NumGoroutine")=false) (hb:fn.body=some c) :
 ∀args w,(callFunc f args).run P w=.ok (.enter f args) w:=by
 intro args w;have h1:fn.name ≠ "runtime.NumGoroutine" := (by simpa using aDr);simp[callFunc,hf,h1,hb]
def Bl (w w':World):Prop:=Below w.heap.size w w'
theorem Bl.refl (w:World):Bl w w:=Below.refl _ _
theorem Bl.trans {a b c:World} (h:Bl a b) (k:Bl b c):Bl a c:=Below.trans h (Below.mono k h.size)
theorem Bl.alloc {a w:World} (h:Bl a w) (o:Obj):Bl a (w.alloc o):=Below.alloc h h.size o
theorem Bl.drew {a w:World} (h:Bl a w):Bl a w.drew:=Below.drew h
theorem Bl.le {a w:World} (h:Bl a w):a.heap.size≤w.heap.size:=Below.size h
theorem Bl.setCell {a w:World} (h:Bl a w) {p:Addr} (hp:a.heap.size≤p.block) (u:Value):Bl a (w.setCell p u):=Below.setCell h hp u
theorem Bl.cell {w w':World} (h:Bl w w') {p:Addr} (hp:p.block<w.heap.size):w'.cell? p=w.cell? p:=Below.cell h hp
theorem Bl.at {w w':World} (h:Bl w w') {p:Addr} {v:Value} (hc:w.cell? p=some v):w'.cell? p=some v:=
 (Below.cell h (World.block_lt_of_cell? w p hc)).trans hc
theorem Bl.rule {w w':World} (h:Bl w w'):(∀p,(w.cell? p).isSome=true→w'.cell? p=w.cell? p)∧(∀p,(w.cell? p).isSome=true→w'.frozen? p=w.frozen? p):=by
 refine ⟨fun p hp => ?_,fun p hp => ?_⟩
 ·obtain ⟨v,hv⟩:=Option.isSome_iff_exists.1 hp;rw[hv];exact h.at hv
 ·obtain ⟨v,hv⟩:=Option.isSome_iff_exists.1 hp;exact Below.frozen h (World.block_lt_of_cell? w p hv)
theorem Bl.drewL {w w':World} (h:Bl w w'):Bl w.drew w':=⟨h.os,h.tape,h.output,h.size,h.block⟩
theorem Bl.ofDrew {w w':World} (h:Bl w.drew w'):Bl w w':=((Bl.refl w).drew).trans h
theorem gX (a:Addr) (n:Nat):(a.add n).block=a.block:=by unfold Addr.add;split<;>rfl
theorem dZ (a:Addr) (i j:Nat):(a.add i).add j=a.add (i+j):=by
 unfold Addr.add;by_cases hi:i=0<;>by_cases hj:j=0<;>simp[hi,hj,Nat.add_assoc]
def Reads (w:World) (size:Nat) (A:Option Addr) (n:Nat) (xs:List Value):Prop:=
 xs.length=n*size∧(0<n→∃ad,A=some ad∧∀j u,xs[j]? = some u→w.cell? (ad.add j)=some u)
section
variable {w w':World} {size n:Nat} {A:Option Addr} {xs:List Value}
theorem Reads.none_:Reads w size A 0 []:=⟨by simp,fun h=>absurd h (by omega)⟩
theorem Reads.at_ {k:Nat} (h:Reads w 1 A n xs) (hk:k<n):∃ad u,A=some ad∧xs[k]? = some u∧w.cell? (ad.add k)=some u:=by
 obtain ⟨ad,e,hc⟩:=h.2 (by omega);have hl:k<xs.length:=(by have:=h.1;omega);exact ⟨ad,xs[k],e,List.getElem?_eq_getElem hl,hc k _ (List.getElem?_eq_getElem hl)⟩
theorem Reads.bl (h:Reads w size A n xs) (hb:Bl w w'):Reads w' size A n xs:=
 ⟨h.1,fun hn=>by
  obtain ⟨ad,e,hc⟩:=h.2 hn;exact ⟨ad,e,fun j u hu=>hb.at (hc j u hu)⟩⟩
end
def Blk (w:World) (g:Nat) (t:TypeId) (cs:Array Value):Prop:=w.heap[g]? = some (.cells cs t (0,0))
section
variable {w w':World} {g:Nat} {t:TypeId} {cs:Array Value}
theorem Blk.lt (h:Blk w g t cs):g<w.heap.size:=by
 rcases Nat.lt_or_ge g w.heap.size with hlt|hge
 ·exact hlt
 ·unfold Blk at h;rw[Array.getElem?_eq_none hge] at h;cases h
theorem Blk.cell (h:Blk w g t cs) (i:Nat):w.cell? ⟨g,i,none⟩=cs[i]?:=cell_of_row w g i cs t (0,0) h
theorem Blk.frozen (h:Blk w g t cs) (i:Nat):w.frozen? ⟨g,i,none⟩=false:=by
 unfold Blk at h;simp[World.frozen?,h]
theorem Blk.new (w:World) (t:TypeId) (cs:Array Value):Blk (w.alloc (.cells cs t)) w.heap.size t cs:=heap_alloc_new w _
theorem Blk.drew (h:Blk w g t cs):Blk w.drew g t cs:=h
theorem Blk.alloc (h:Blk w g t cs) (o:Obj):Blk (w.alloc o) g t cs:=(Below.heap_alloc w o g h.lt).trans h
theorem Blk.set_ (h:Blk w g t cs) (i:Nat) (u:Value):Blk (w.setCell ⟨g,i,none⟩ u) g t (cs.setIfInBounds i u):=by
 unfold Blk at h ⊢;simp[World.setCell,Array.getElem?_modify,h]
theorem Blk.far (h:Blk w g t cs) {p:Addr} (hp:g≠p.block) (u:Value):Blk (w.setCell p u) g t cs:=(Below.heap_setCell w p u g hp).trans h
theorem Blk.grown {row:Option Nat} (h:Blk w g t cs) (hb:w.grownBy w' row) (hg:some g≠row):Blk w' g t cs:=(hb.block g h.lt hg).trans h
theorem Blk.bl (h:Blk w g t cs) (hb:Bl w w'):Blk w' g t cs:=(Below.block hb g h.lt).trans h
theorem Blk.all1 {x:Value} (h:Blk w g t #[x]):w.cell? ⟨g,0,none⟩=some x∧∀i,w.frozen? ⟨g,i,none⟩=false:=⟨h.cell 0,h.frozen⟩
theorem Blk.all2 {x y:Value} (h:Blk w g t #[x,y]):w.cell? ⟨g,0,none⟩=some x∧w.cell? ⟨g,1,none⟩=some y∧∀i,w.frozen? ⟨g,i,none⟩=false:=⟨h.cell 0,h.cell 1,h.frozen⟩
theorem Blk.all3 {x y z:Value} (h:Blk w g t #[x,y,z]):w.cell? ⟨g,0,none⟩=some x∧w.cell? ⟨g,1,none⟩=some y∧w.cell? ⟨g,2,none⟩=some z∧∀i,w.frozen? ⟨g,i,none⟩=false:=⟨h.cell 0,h.cell 1,h.cell 2,h.frozen⟩
theorem Blk.all4 {x y z u:Value} (h:Blk w g t #[x,y,z,u]):w.cell? ⟨g,0,none⟩=some x∧w.cell? ⟨g,1,none⟩=some y∧w.cell? ⟨g,2,none⟩=some z∧w.cell? ⟨g,3,none⟩=some u∧∀i,w.frozen? ⟨g,i,none⟩=false:=⟨h.cell 0,h.cell 1,h.cell 2,h.cell 3,h.frozen⟩
theorem Blk.all6 {x y z u v t':Value} (h:Blk w g t #[x,y,z,u,v,t']):w.cell? ⟨g,0,none⟩=some x∧w.cell? ⟨g,1,none⟩=some y∧w.cell? ⟨g,2,none⟩=some z∧w.cell? ⟨g,3,none⟩=some u∧w.cell? ⟨g,4,none⟩=some v∧w.cell? ⟨g,5,none⟩=some t'∧∀i,w.frozen? ⟨g,i,none⟩=false:=⟨h.cell 0,h.cell 1,h.cell 2,h.cell 3,h.cell 4,h.cell 5,h.frozen⟩
theorem Blk.reads (h:Blk w g t cs) (n c:Nat) (hn:cs.size=n*c):Reads w c (some ⟨g,0,none⟩) n cs.toList:=
 ⟨by simpa using hn,fun _=>⟨_,rfl,fun j u hu=>by
  have e:(⟨g,0,none⟩:Addr).add j=⟨g,j,none⟩:=(by unfold Addr.add;split<;>simp_all);rw[e,h.cell];simpa using hu⟩⟩
end
theorem sqC:(∀(l:List Value) (i:Nat) (d:Value),l.toArray.getD i d=l.getD i d)∧(∀(x:Value) (l:List Value) (d:Value),(x :: l).getD 0 d=x)∧(∀(x:Value) (l:List Value) (n:Nat) (d:Value),(x :: l).getD (n+1) d=l.getD n d):=
 ⟨fun _ _ _=>by simp,fun _ _ _=>List.getD_cons_zero ..,fun _ _ _ _=>List.getD_cons_succ ..⟩
theorem sqA:(∀(a:Act) (d:Tmp) (v:Value),a.put (some d) v={ a with tmps:=a.tmps.setIfInBounds d v })∧(∀(a:Act) (v:Value),a.put none v=a)∧(∀(l:List Value) (i:Nat) (v:Value),l.toArray.setIfInBounds i v=(l.set i v).toArray)∧(∀(x:Value) (l:List Value) (v:Value),(x :: l).set 0 v=v :: l)∧(∀(x:Value) (l:List Value) (i:Nat) (v:Value),(x :: l).set (i+1) v=x :: l.set i v):=
  ⟨fun _ _ _=>rfl,fun _ _=>rfl,fun _ _ _=>List.setIfInBounds_toArray ..,fun _ _ _=>rfl,fun _ _ _ _=>rfl⟩
section
variable {P:Program} {ops:Array Oper} {Q:Exit→Act→World→Prop} {md:Region.Mode} {cl:Nat→Bool}
def EZ (P : Program) (md : Region.Mode) (ops : Array Oper) (Q : Exit → Act → World → Prop) (cl : Nat → Bool) : Nat → Array Bool → Act → World → Prop
 |0,listed,a,w=>Region.ready md ops listed=[]∧Q .normal a w
 |fuel+1,listed,a,w=>
  (Region.ready md ops listed=[]→Q .normal a w) ∧
  ∀i∈Region.ready md ops listed,wpOp P ops Q i (fun a' w'=>(cl i=false→Bl w w')∧EZ P md ops Q cl fuel (listed.setIfInBounds i true) a' w') a w
theorem AH : ∀ (fuel : Nat) (listed : Array Bool) (a : Act) (w : World), EZ P md ops Q cl fuel listed a w → wpAny P md ops Q fuel listed a w
 |0,_,_,_,h=>h
 |fuel+1,_,_,_,h=>⟨h.1,fun i hi=>wpOp_mono (fun a' w' h'=>AH fuel _ a' w' h'.2) (h.2 i hi)⟩
theorem JG {o:Oper} {v:Value} {a:Act} {w w':World} (h:YieldsIf P ops (Bl w) o v a) (hb:Bl w w'):YieldsIf P ops (Bl w') o v a:=
 h.imp (fun ⟨h1,h2⟩=>⟨h1,fun w'' hb'=>h2 w'' (hb.trans hb')⟩) id
def rA (md:Region.Mode) (ops:Array Oper) (k:Nat):Nat:=
 match ops[k]? with
 |none=>0
 |some o=>o.after.toList.foldl (fun m e=>if Region.binds md e then m ||| 2 ^ e.on else m) 0
def RW (md : Region.Mode) (ops : Array Oper) : Nat → Nat → Nat
 |0,m=>m
 |k+1,m=>RW md ops k (if m.testBit k then m ||| rA md ops k else m)
theorem oE (md : Region.Mode) : ∀ (l : List Edge) (m i : Nat), (l.foldl (fun m e => if Region.binds md e then m ||| 2 ^ e.on else m) m).testBit i = true →
 m.testBit i=true∨∃e∈l,Region.binds md e=true∧e.on=i
 |[],m,i,h=>.inl h
 |e :: l,m,i,h=>by
  rcases oE md l _ i h with h' | ⟨e',he',hb⟩
  ·dsimp only at h'
   by_cases hb:Region.binds md e=true
   ·rw[if_pos hb,Nat.testBit_or,Bool.or_eq_true] at h';rcases h' with h' | h'
    ·exact .inl h'
    ·rw[Nat.testBit_two_pow] at h';exact .inr ⟨e,by simp,hb,by simpa using h'⟩
   ·rw[if_neg hb] at h';exact .inl h'
  ·exact .inr ⟨e',by simp[he'],hb⟩
theorem wE {D : Nat → Prop} (hD : ∀ k o, ops[k]? = some o → D k → ∀ e ∈ o.after, Region.binds md e = true → D e.on) : ∀ (k m : Nat), (∀ i, m.testBit i = true → D i) → ∀ i, (RW md ops k m).testBit i = true → D i
 |0,m,h,i,hi=>h i hi
 |k+1,m,h,i,hi=>by
  refine wE hD k _ ?_ i hi;intro i' hi';split at hi'
  ·rename_i hk
   rw[Nat.testBit_or,Bool.or_eq_true] at hi';rcases hi' with hi' | hi'
   ·exact h i' hi'
   ·unfold rA at hi';cases ho:ops[k]? with
    |none=>simp[ho] at hi'
    |some o=>
     simp only[ho] at hi';rcases oE md _ _ _ hi' with h0|⟨e,he,hb,rfl⟩
     ·simp at h0
     ·exact hD k o ho (h k hk) e (by simpa using he) hb
  ·exact h i' hi'
theorem CK {D:Nat→Prop} {j:Nat} {oj:Oper} (hj:ops[j]? = some oj) (h:∀e∈oj.after,Region.binds md e=true→D e.on):∀i,(rA md ops j).testBit i=true→D i:=by
 intro i hi;unfold rA at hi;simp only[hj] at hi;rcases oE md _ _ _ hi with h0|⟨e,he,hb,rfl⟩
 ·simp at h0
 ·exact h e (by simpa using he) hb
def CL (md:Region.Mode) (ops:Array Oper) (i j:Nat):Bool:=(RW md ops ops.size (rA md ops j)).testBit i
def DownClosed (md:Region.Mode) (ops:Array Oper) (listed:Array Bool):Prop:=
 ∀k o,ops[k]? = some o→listed.getD k true=true→∀e∈o.after,Region.binds md e=true→listed.getD e.on false=true
theorem CM {listed:Array Bool} (hdc:DownClosed md ops listed) (hsz:listed.size=ops.size) {i j:Nat} (hj:j∈Region.ready md ops listed) (hp:CL md ops i j=true):listed.getD i false=true:=by
 obtain ⟨_,oj,hoj,iG⟩:=mem_ready.1 hj;refine wE (D:=fun k=>listed.getD k false=true) (ops:=ops) (md:=md) ?_ _ _ (CK hoj (fun e he hb=>iG e he hb)) i hp;intro k o ho hk e he hb;refine hdc k o ho ?_ e he hb;have hlt:=(Array.getElem?_eq_some_iff.1 ho).1;simp[show k<listed.size by omega] at hk ⊢;exact hk
theorem DownClosed.set {listed:Array Bool} (h:DownClosed md ops listed) {j:Nat} (hj:j∈Region.ready md ops listed):DownClosed md ops (listed.setIfInBounds j true):=by
 obtain ⟨_,oj,hoj,iG⟩:=mem_ready.1 hj;have up:∀k,listed.getD k false=true→(listed.setIfInBounds j true).getD k false=true:=by
  intro k hk;by_cases e:j=k
  ·subst e;rcases Nat.lt_or_ge j listed.size with hl|hl
   ·simp[hl]
   ·simp[Array.getElem?_eq_none hl] at hk
  ·rw[getD_set_ne false e];exact hk
 intro k o ho hk e he hb;by_cases ek:j=k
 ·subst ek;rw[ho] at hoj;obtain rfl:=Option.some.inj hoj;exact up _ (iG e he hb)
 ·rw[getD_set_ne true ek] at hk;exact up _ (h k o ho hk e he hb)
theorem E3 {i : Nat} {oi : Oper} {v : Value} (hi : ops[i]? = some oi) (aBK : ∀ (j : Nat) (o : Oper) cs b, ops[j]? = some o → o.op ≠ .select cs b)
 (hQ:∀c a w,Q (.panic c) (a.put oi.dst v) w→Q (.panic c) a w) :
 ∀ (fuel : Nat) (listed : Array Bool) (a : Act) (w : World), listed.size = ops.size → DownClosed md ops listed →
  (∀j oj,ops[j]? = some oj→j≠i→listed.getD j true=false→cl j=true→CL md ops i j=true) →
  (∀j oj,ops[j]? = some oj→j≠i→listed.getD j true=false→(∀e∈oj.after,Region.binds md e=true→e.on≠i)→oi.apart ops oj=true) →
  i∈Region.ready md ops listed→YieldsIf P ops (Bl w) oi v a →
  EZ P md ops Q cl fuel (listed.setIfInBounds i true) (a.put oi.dst v) w→EZ P md ops Q cl (fuel+1) listed a w:=by
 intro fuel;induction fuel with
 |zero=>
  intro listed a w _ _ _ _ hr hy H;refine ⟨fun h=>(by rw[h] at hr;cases hr),fun j hj => ?_⟩;by_cases hji:j=i
  ·subst hji;exact hy.wpOp hi (Bl.refl w) ⟨fun _=>Bl.refl w,H⟩
  ·have:=ready_mono hj hji;rw[H.1] at this;cases this
 |succ fuel ih=>
  intro listed a w hsz hdc aFc VE hr hy H;refine ⟨fun h=>(by rw[h] at hr;cases hr),fun j hj => ?_⟩;by_cases hji:j=i
  ·subst hji;exact hy.wpOp hi (Bl.refl w) ⟨fun _=>Bl.refl w,H⟩
  ·have h1:=H.2 j (ready_mono hj hji);obtain ⟨aBd,oj,hoj,iG⟩:=mem_ready.1 hj;have aCL:listed.getD i false=false:=by
    have h0:=(mem_ready.1 hr).1;rcases Nat.lt_or_ge i listed.size with h' | h'
    ·simp[h'] at h0 ⊢;exact h0
    ·simp[Array.getElem?_eq_none h']
   have aDs:∀e∈oj.after,Region.binds md e=true→e.on≠i:=fun e he hb heq=>by
    have h1:=iG e he hb;rw[heq,aCL] at h1;cases h1
   have hcj:cl j=false:=by
    cases hc:cl j with
    |false=>rfl
    |true=>have:=CM hdc hsz hj (aFc j oj hoj hji aBd hc);rw[aCL] at this;cases this
   have h2:=wpOp_putIf hoj (VE j oj hoj hji aBd aDs) (fun cs b=>aBK i oi cs b hi) (fun cs b=>aBK j oj cs b hoj) hQ hy h1;have aCM:∀k,(listed.setIfInBounds j true).getD k true=false→listed.getD k true=false:=fun k hun=>by
    by_cases hjk:j=k
    ·subst hjk;exact aBd
    ·rw[getD_set_ne true hjk] at hun;exact hun
   refine wpOp_mono (fun a' w' h3 => ⟨h3.2.1, ih (listed.setIfInBounds j true) a' w' (by simpa using hsz) (hdc.set hj) (fun k ok hk hki hun hc => aFc k ok hk hki (aCM k hun) hc)
    (fun k ok hk hki hun hno=>VE k ok hk hki (aCM k hun) hno) (ready_mono hr (Ne.symm hji)) (JG h3.1 (h3.2.1 hcj)) ?_⟩) h2
   rw[Array.setIfInBounds_comm _ _ hji];exact h3.2.2
def Flow (P : Program) (ops : Array Oper) (Q : Exit → Act → World → Prop) (cl : Nat → Bool) : List (Bool × Nat) → Act → World → Prop
 |[],a,w=>Q .normal a w
 |(true,i) :: σ,a,w=>∃o v,ops[i]? = some o∧YieldsIf P ops (Bl w) o v a∧Flow P ops Q cl σ (a.put o.dst v) w
 |(false,i) :: σ,a,w=>wpOp P ops Q i (fun a' w'=>(cl i=false→Bl w w')∧Flow P ops Q cl σ a' w') a w
def wF (md : Region.Mode) (ops : Array Oper) (cl : Nat → Bool) : List (Bool × Nat) → Array Bool → Bool
 |[],listed=>(Region.ready md ops listed).isEmpty
 |(true, i) :: σ, listed => (Region.ready md ops listed).contains i && Region.free md ops listed i &&
     ((List.range ops.size).all fun j=>j==i||listed.getD j true||!cl j||CL md ops i j)&&wF md ops cl σ (listed.setIfInBounds i true)
 |(false,i) :: σ,listed=>Region.ready md ops listed==[i]&&wF md ops cl σ (listed.setIfInBounds i true)
theorem N6 (hs:Region.noSelect ops=true) (hQ:∀c a d v w,Q (.panic c) (Act.put a d v) w→Q (.panic c) a w) :
 ∀ (σ : List (Bool × Nat)) (fuel : Nat) (listed : Array Bool) (a : Act) (w : World), listed.size = ops.size → DownClosed md ops listed → σ.length ≤ fuel → wF md ops cl σ listed = true →
  Flow P ops Q cl σ a w→EZ P md ops Q cl fuel listed a w:=by
 intro σ;induction σ with
 |nil=>
  intro fuel listed a w _ _ _ hok h;have hr:Region.ready md ops listed=[]:=(by simpa [wF] using hok);cases fuel with
  |zero=>exact ⟨hr,h⟩
  |succ fuel=>exact ⟨fun _=>h,fun i hi=>by rw[hr] at hi;cases hi⟩
 |cons s σ ih=>
  obtain ⟨b,i⟩:=s;intro fuel listed a w hsz hdc hf hok h;cases fuel with
  |zero=>simp at hf
  |succ fuel=>
   have hf':σ.length≤fuel:=(by simpa using hf);cases b with
   |true=>simp only[wF,Bool.and_eq_true] at hok;obtain ⟨⟨⟨h1,h2⟩,h3⟩,h4⟩:=hok;obtain ⟨o,v,ho,hy,hfl⟩:=h;have hir:i∈Region.ready md ops listed:=(by simpa using h1);refine E3 ho (Region.noSelect_spec hs) (fun c a w=>hQ c a o.dst v w) fuel listed a w hsz hdc ?_ (Region.free_spec ho h2) hir hy (ih fuel _ _ _ (by simpa using hsz) (hdc.set hir) hf' h4 hfl);intro j oj hj hji hun hc;simp only[List.all_eq_true,List.mem_range] at h3;have h5:=h3 j (Array.getElem?_eq_some_iff.1 hj).1;simpa only[hc,hun,Bool.or_eq_true,beq_iff_eq,hji,Bool.not_true,Bool.false_eq_true,false_or] using h5
   |false=>simp only[wF,Bool.and_eq_true,beq_iff_eq] at hok;obtain ⟨h1,h4⟩:=hok;refine ⟨fun h0=>(by rw[h0] at h1;cases h1),fun j hj => ?_⟩;have hj0:=hj;rw[h1] at hj;obtain rfl:=List.mem_singleton.1 hj;exact wpOp_mono (fun a' w' h'=>⟨h'.1,ih fuel _ _ _ (by simpa using hsz) (hdc.set hj0) hf' h4 h'.2⟩) h
theorem jO:DownClosed md ops (Array.replicate ops.size false):=by
 intro k o ho hk;have hlt:=(Array.getElem?_eq_some_iff.1 ho).1;simp[hlt] at hk
theorem kP {Q:Exit→Act→World→Prop}:∀c a d v w,NoPanic Q (.panic c) (Act.put a d v) w→NoPanic Q (.panic c) a w:=fun _ _ _ _ _ h=>h
theorem aA {id : Nat} {a : Act} {w : World} (σ : List (Bool × Nat)) (cl : Nat → Bool) (hm : P.follows .mixedOrders = true) (hs : Region.noSelect ops = true)
 (hl:decide (σ.length≤ops.size)=true) (hok:wF .any ops cl σ (Array.replicate ops.size false)=true)
 (h:Flow P ops (NoPanic Q) cl σ a w.drew):(Code.region id ops true).wp P Q a w:=
 wp_region_noPanic (wp_region_any hm (AH _ _ _ _ (N6 hs kP σ _ _ _ _ (by simp) jO (of_decide_eq_true hl) hok h)))
theorem arr_getD (l:List Value) (i:Nat) (d:Value):l.toArray.getD i d=l.getD i d:=by simp
section
variable {l:List Oper}
theorem Flow.calm {i : Nat} {o : Oper} {σ : List (Bool × Nat)} {a : Act} {w : World} (v : Value) (ho : l[i]? = some o) (hg : o.guard = none)
 (hr:∀w',Bl w w'→(execOp a.eval o).run P w'=.ok (.value v) w') (h:Flow P l.toArray Q cl σ (a.put o.dst v) w):Flow P l.toArray Q cl ((true,i) :: σ) a w:=
 ⟨o,v,by simpa using ho,.inl ⟨by simp[Region.wanted,hg],hr⟩,h⟩
theorem Flow.calm2 {i : Nat} {o : Oper} {σ : List (Bool × Nat)} {a : Act} {w : World} (v : Value) (a' : Act) (ho : l[i]? = some o) (hg : o.guard = none)
 (hr:∀w',Bl w w'→∀K:Result Next→Prop,K (.ok (.value v) w')→K ((execOp a.eval o).run P w')) (ha:∀K:Act→Prop,K a'→K (a.put o.dst v))
 (h:Flow P l.toArray Q cl σ a' w):Flow P l.toArray Q cl ((true,i) :: σ) a w:=
 Flow.calm v ho hg (fun w' hb=>hr w' hb (fun r=>r=.ok (.value v) w') rfl) (ha (fun x=>Flow P l.toArray Q cl σ x w) h)
theorem Flow.mv {i : Nat} {d : Option Tmp} {x : Operand} {ty : TypeId} {ps : String} {af : Array Edge} {σ : List (Bool × Nat)} {a : Act} {w : World} (a' : Act) (ho : l[i]? = some ⟨d, .move x, ty, ps, af, none⟩)
 (ha:∀K:Act→Prop,K a'→K (a.put d (a.eval x))) (h:Flow P l.toArray Q cl σ a' w):Flow P l.toArray Q cl ((true,i) :: σ) a w:=
 Flow.calm (a.eval x) ho rfl (fun w' _=>by simp[execOp]) (ha (fun x=>Flow P l.toArray Q cl σ x w) h)
theorem Flow.asg {i : Nat} {d : Option Tmp} {x : Operand} {ty : TypeId} {ps : String} {af : Array Edge} {σ : List (Bool × Nat)} {a : Act} {w : World} (a' : Act) (ho : l[i]? = some ⟨d, .assign x, ty, ps, af, none⟩)
 (ha:∀K:Act→Prop,K a'→K (a.put d (a.eval x))) (h:Flow P l.toArray Q cl σ a' w):Flow P l.toArray Q cl ((true,i) :: σ) a w:=
 Flow.calm (a.eval x) ho rfl (fun w' _=>by simp[execOp]) (ha (fun x=>Flow P l.toArray Q cl σ x w) h)
theorem Flow.calmG {i : Nat} {o : Oper} {σ : List (Bool × Nat)} {a : Act} {w : World} (v : Value) (ho : l[i]? = some o) (hg : Region.wanted o (yielded l.toArray a.tmps) = true)
 (hr:∀w',Bl w w'→(execOp a.eval o).run P w'=.ok (.value v) w') (h:Flow P l.toArray Q cl σ (a.put o.dst v) w):Flow P l.toArray Q cl ((true,i) :: σ) a w:=
 ⟨o,v,by simpa using ho,.inl ⟨hg,hr⟩,h⟩
theorem Flow.pass {i : Nat} {o : Oper} {σ : List (Bool × Nat)} {a : Act} {w : World} (ho : l[i]? = some o) (hg : Region.wanted o (yielded l.toArray a.tmps) = false)
 (h:Flow P l.toArray Q cl σ (a.put o.dst undef) w):Flow P l.toArray Q cl ((true,i) :: σ) a w:=
 ⟨o,undef,by simpa using ho,.inr ⟨hg,rfl⟩,h⟩
theorem Flow.move {i : Nat} {o : Oper} {σ : List (Bool × Nat)} {a : Act} {w : World} (ho : l[i]? = some o)
 (h:wpList P l.toArray (Exit.then (fun a' w'=>(cl i=false→Bl w w')∧Flow P l.toArray Q cl σ a' w') Q) [o] a w):Flow P l.toArray Q cl ((false,i) :: σ) a w:=by
 have ho':l.toArray[i]? = some o:=(by simpa using ho);simp only[Flow,wpOp,ho'];simp only[wpList] at h;exact h
end
def wG (ops : Array Oper) (cl : Nat → Bool) : List (Bool × Nat) → Option (List Oper)
 |[]=>some []
 |(b,i) :: σ=>if !b&&cl i then (ops[i]?).bind fun o=>(wG ops cl σ).map (o :: ·) else none
theorem CN:∀(σ:List (Bool × Nat)) (l:List Oper) (a:Act) (w:World),wG ops cl σ=some l→wpList P ops Q l a w→Flow P ops Q cl σ a w:=by
 intro σ;induction σ with
 |nil=>intro l a w hl h;simp[wG] at hl;subst hl;exact h
 |cons s σ ih=>
  obtain ⟨b,i⟩:=s;intro l a w hl h;simp only[wG] at hl;split at hl
  ·rename_i hb
   simp only[Bool.and_eq_true,Bool.not_eq_true'] at hb;obtain ⟨rfl,hc⟩:=hb;cases ho:ops[i]? with
   |none=>simp[ho] at hl
   |some o=>
    simp only[ho,Option.bind_some,Option.map_eq_some_iff] at hl;obtain ⟨l',hl',rfl⟩:=hl;have h':wpOp P ops Q i (wpList P ops Q l') a w:=by
     unfold wpOp;simp only[ho];exact h
    exact wpOp_mono (fun a' w' h''=>⟨fun hc'=>absurd (hc.symm.trans hc') (by decide),ih l' a' w' hl' h''⟩) h'
  ·cases hl
theorem Flow.tail {σ : List (Bool × Nat)} (l : List Oper) {a : Act} {w : World} (hl : wG ops cl σ = some l)
 (h:wpList P ops (Exit.then (fun a' w'=>Q .normal a' w') (NoPanic Q)) l a w):Flow P ops (NoPanic Q) cl σ a w:=by
 have e:(Exit.then (fun a' w'=>Q .normal a' w') (NoPanic Q))=NoPanic Q:=by
  funext e a w
  cases e<;>rfl
 rw[e] at h;exact CN σ l a w hl h
theorem Flow.done {a:Act} {w:World} (h:Q .normal a w):Flow P ops (NoPanic Q) cl [] a w:=h
end
def inB (n lo hi:Int):Bool:=decide (lo≤n)&&decide (n≤hi)
theorem aQ {n lo hi:Int}:inB n lo hi=true↔lo≤n∧n≤hi:=by simp[inB]
theorem dF {n lo hi:Int}:inB n lo hi=false↔n<lo∨hi<n:=by simp[inB];omega
def aE (b:Bool) (e:Int):Int:=if b then e else 0
def aM (W H:Int):Int:=if 1≤W∧W≤4000∧1≤H∧H≤4000 then (if W*H>1048576 then 4 else 0) else 3
def aF (W H:Int) (n:Nat):Int:=if aM W H=0 then (if (n:Int)=W*H then 0 else 2) else aM W H
def aB : List Int → Int
 |[]=>0
 |e :: es=>if e=0 then aB es else e
theorem LY {W H:Int} (h1:1≤W) (h2:W≤4000) (h3:1≤H) (h4:H≤4000):1≤W*H∧W*H≤16000000:=by
 have a:=Int.mul_le_mul h1 h3 (by omega) (by omega);have b:=Int.mul_le_mul h2 h4 (by omega) (by omega);omega
theorem eJ (n lo hi:Int) (w:World) :
 Calls Tryz.prog 13 #[.int .i64 n,.int .i64 lo,.int .i64 hi] w fun e w'=>e=.returned (.bool (inB n lo hi))∧w=w':=by
 unfold inB;by_cases h1:lo≤n<;>by_cases h2:n≤hi
 all_goals
  go_in
  go_wp2
  go_ret;exact ⟨by simp[*],rfl⟩
theorem aI (b:Bool) (n:Int) (w:World) :
 Calls Tryz.prog 9 #[.bool b,.int .i64 n] w fun e w'=>e=.returned (.int .i64 (aE b n))∧w=w':=by
 unfold aE;cases b
 all_goals
  go_in
  go_wp2
  go_ret;exact ⟨by simp,rfl⟩
theorem rB (es:List Int) (k:Nat) (hk:k<es.length) (h:∀j,j<k→es[j]? = some 0):aB es=aB (es.drop k):=by
 induction k generalizing es with
 |zero=>simp
 |succ k ih=>
  cases es with
  |nil=>simp at hk
  |cons e es=>have h0:=h 0 (by omega);simp at h0;subst h0;simp only[aB,if_true,List.drop_succ_cons];exact ih es (by simpa using hk) (fun j hj=>by simpa using h (j+1) (by omega))
theorem rC (A:Option Addr) (c:Nat) (es:List Int) (w:World) (hr:Reads w 1 A es.length (es.map (.int .i64))) (hl:es.length≤1000) :
 Calls Tryz.prog 20 #[.slice A es.length c] w fun e w'=>e=.returned (.int .i64 (aB es))∧w=w':=by
 go_in
 go_wp2
 go_loop [7] (fun v=>∃k:Nat,k≤es.length∧v=.int .i64 k∧Hid (∀j,j<k→es[j]? = some 0)) (fun v=>es.length-(intOf v).toNat)
 case atStart=>exact ⟨0,Nat.zero_le _,rfl,fun j hj=>absurd hj (by omega)⟩
 case round=>
  obtain ⟨k,hk,rfl,hz⟩:=hrel;by_cases hlt:k<es.length
  ·obtain ⟨ad,u,rfl,hu,hc⟩:=hr.at_ hlt;have hu':u=.int .i64 es[k]:=(by simpa [hlt] using hu.symm);subst hu';have hd:aB es=if es[k]=0 then aB (es.drop (k+1)) else es[k]:=by
    rw[rB es k hlt hz.out,List.drop_eq_getElem_cons hlt];rfl
   have Hd:=Lib.hid hd;clear hd hu;have Hn:=Lib.hid hr;clear hr;by_cases h0:es[k]=0
   ·have hzz:Hid (∀j,j<k+1→es[j]? = some 0):=fun j hj=>by
     rcases Nat.lt_or_ge j k with h|h
     ·exact hz.out j h
     ·obtain rfl:j=k:=(by omega);simp[hlt,h0]
    go_wp2
    go_round
    case rel=>exact ⟨k+1,hlt,by go_num,hzz⟩
    case measure=>simp[intOf];omega
   ·have hb:(es[k] != 0)=true:=(by simpa using h0);have h0':=Lib.hid h0;clear h0
    go_wp2
    go_ret;exact ⟨cP (by rw[Hd.out,if_neg h0'.out]),rfl⟩
  ·have hd:aB es=0:=by
    rcases Nat.eq_zero_or_pos es.length with h|h
    ·rw[List.eq_nil_of_length_eq_zero h];rfl
    ·have:=rB es (es.length-1) (by omega) (fun j hj=>hz.out j (by omega));rw[this,List.drop_eq_getElem_cons (by omega)];have hz':=hz.out (es.length-1) (by omega);rw[List.getElem?_eq_getElem (by omega)] at hz';simp at hz';simp[aB,hz'];have:es.length-1+1=es.length:=(by omega);rw[this];simp[aB]
   have Hd:=Lib.hid hd;clear hd;have Hr:=Lib.hid hr;clear hr
   go_wp2
   go_ret;exact ⟨cP (by rw[Hd.out]),rfl⟩
theorem dN (e1 e2:Int) (g:Nat) (w:World) (h:Blk w g 27 #[.int .i64 e1,.int .i64 e2]) :
 Calls Tryz.prog 20 #[.slice (some ⟨g,0,none⟩) 2 2] w fun e w'=>e=.returned (.int .i64 (aB [e1,e2]))∧w=w':=
 rC (some ⟨g,0,none⟩) 2 [e1,e2] w (h.reads 2 1 rfl) (by simp)
theorem iY (e1 e2 e3:Int) (g:Nat) (w:World) (h:Blk w g 27 #[.int .i64 e1,.int .i64 e2,.int .i64 e3]) :
 Calls Tryz.prog 20 #[.slice (some ⟨g,0,none⟩) 3 3] w fun e w'=>e=.returned (.int .i64 (aB [e1,e2,e3]))∧w=w':=
 rC (some ⟨g,0,none⟩) 3 [e1,e2,e3] w (h.reads 3 1 rfl) (by simp)
theorem AI (e1 e2 e3 e4:Int) (g:Nat) (w:World) (h:Blk w g 27 #[.int .i64 e1,.int .i64 e2,.int .i64 e3,.int .i64 e4]) :
 Calls Tryz.prog 20 #[.slice (some ⟨g,0,none⟩) 4 4] w fun e w'=>e=.returned (.int .i64 (aB [e1,e2,e3,e4]))∧w=w':=
 rC (some ⟨g,0,none⟩) 4 [e1,e2,e3,e4] w (h.reads 4 1 rfl) (by simp)
theorem gE (W H:Int) (w:World) :
 Calls Tryz.prog 102 #[.int .i64 W,.int .i64 H] w fun e w'=>e=.returned (.int .i64 (aM W H))∧w=w':=by
 by_cases h1:1≤W
 ·by_cases h2:W≤4000
  ·by_cases h3:1≤H
   ·by_cases h4:H≤4000
    ·have hm:=LY h1 h2 h3 h4;by_cases h5:W*H>1048576
     ·have hs:aM W H=4:=(by unfold aM;rw[if_pos ⟨h1,h2,h3,h4⟩,if_pos h5]);have Hs:=Lib.hid hs;clear hs
      go_in
      go_wp2
      go_ret;exact ⟨cP Hs.out.symm,rfl⟩
     ·have hs:aM W H=0:=(by unfold aM;rw[if_pos ⟨h1,h2,h3,h4⟩,if_neg h5]);have Hs:=Lib.hid hs;clear hs
      go_in
      go_wp2
      go_ret;exact ⟨cP Hs.out.symm,rfl⟩
    ·have hs:aM W H=3:=(by unfold aM;rw[if_neg (by omega)]);have Hs:=Lib.hid hs;clear hs
     go_in
     go_wp2
     go_ret;exact ⟨cP Hs.out.symm,rfl⟩
   ·have hs:aM W H=3:=(by unfold aM;rw[if_neg (by omega)]);have Hs:=Lib.hid hs;clear hs
    go_in
    go_wp2
    go_ret;exact ⟨cP Hs.out.symm,rfl⟩
  ·have hs:aM W H=3:=(by unfold aM;rw[if_neg (by omega)]);have Hs:=Lib.hid hs;clear hs
   go_in
   go_wp2
   go_ret;exact ⟨cP Hs.out.symm,rfl⟩
 ·have hs:aM W H=3:=(by unfold aM;rw[if_neg (by omega)]);have Hs:=Lib.hid hs;clear hs
  go_in
  go_wp2
  go_ret;exact ⟨cP Hs.out.symm,rfl⟩
theorem aR {W H:Int} (h:aM W H=0):1≤W∧W≤4000∧1≤H∧H≤4000∧W*H≤1048576:=by
 unfold aM at h;split at h
 ·split at h
  ·omega
  ·rename_i a b;exact ⟨a.1,a.2.1,a.2.2.1,a.2.2.2,by omega⟩
 ·omega
theorem CO (W H:Int):aB [aE (!inB W 1 4000||!inB H 1 4000) 3,aE (inB W 1 4000&&inB H 1 4000&&decide (W*H>1048576)) 4]=aM W H:=by
 unfold aM;by_cases h:1≤W∧W≤4000∧1≤H∧H≤4000
 ·have a:inB W 1 4000=true:=aQ.2 ⟨h.1,h.2.1⟩;have b:inB H 1 4000=true:=aQ.2 h.2.2;rw[if_pos h,a,b];by_cases h5:W*H>1048576<;>simp[aB,aE,h5]
 ·rw[if_neg h];have a:(!inB W 1 4000||!inB H 1 4000)=true:=by
   rw[Bool.or_eq_true,Bool.not_eq_true',Bool.not_eq_true',dF,dF];omega
  simp[aB,aE,a]
theorem nD (W H:Int) (w:World) :
 Calls Tryz.prog 51 #[.int .i64 W,.int .i64 H] w fun e w'=>e=.returned (.int .i64 (aM W H))∧Bl w w':=by
 have hf:=CO W H;cases h1:inB W 1 4000<;>cases h2:inB H 1 4000
 case true.true=>
  have hm:=LY (aQ.1 h1).1 (aQ.1 h1).2 (aQ.1 h2).1 (aQ.1 h2).2;rw[h1,h2] at hf;simp only[Bool.not_true,Bool.or_self,Bool.and_self,Bool.true_and] at hf;have Hf:=Lib.hid hf;clear hf
  go_in
  go_wp2_with (first|(go_at_call 13;refine (eJ _ _ _ _).mono ?_;rintro e w' ⟨rfl,rfl⟩)|(go_at_call 9;refine (aI _ _ _).mono ?_;rintro e w' ⟨rfl,rfl⟩)|(go_at_call 20;refine (dN _ _ _ _ (Blk.new _ _ _)).mono ?_;rintro e w' ⟨rfl,rfl⟩));go_ret;exact ⟨cP Hf.out,(Bl.refl _).alloc _⟩
 all_goals
  rw[h1,h2] at hf;simp only[Bool.not_true,Bool.not_false,Bool.or_self,Bool.and_self,Bool.false_and,Bool.and_false,Bool.or_true,Bool.true_or] at hf;have Hf:=Lib.hid hf;clear hf
  go_in
  go_wp2_with (first|(go_at_call 13;refine (eJ _ _ _ _).mono ?_;rintro e w' ⟨rfl,rfl⟩)|(go_at_call 9;refine (aI _ _ _).mono ?_;rintro e w' ⟨rfl,rfl⟩)|(go_at_call 20;refine (dN _ _ _ _ (Blk.new _ _ _)).mono ?_;rintro e w' ⟨rfl,rfl⟩));go_ret;exact ⟨cP Hf.out,(Bl.refl _).alloc _⟩
theorem CP (W H:Int) (n:Nat) (b:Bool) (hb:aM W H=0→b = !decide ((n:Int)=W*H)):aB [aM W H,aE b 2]=aF W H n:=by
 unfold aF;by_cases h:aM W H=0
 ·rw[hb h,if_pos h,h];by_cases h5:(n:Int)=W*H<;>simp[aB,aE,h5]
 ·simp[aB,h]
theorem Z3 (W H:Int) (n:Nat) (h:aM W H=0):((n:Int) != wrap64 (W*H)) = !decide ((n:Int)=W*H):=by
 have hz:=aR h;have hm:=LY hz.1 hz.2.1 hz.2.2.1 hz.2.2.2.1;have e:wrap64 (W*H)=W*H:=(by unfold wrap64;omega);rw[e];by_cases hx:(n:Int)=W*H<;>simp[hx]
theorem fU {W H:Int} {n:Nat} (h:aF W H n=0):aM W H=0∧(n:Int)=W*H:=by
 unfold aF at h;split at h
 ·rename_i a
  refine ⟨a,?_⟩;split at h
  ·assumption
  ·omega
 ·contradiction
theorem nE (W H:Int) (A:Option Addr) (n c:Nat) (w:World) :
 Calls Tryz.prog 52 #[.agg #[.int .i64 W,.int .i64 H,.slice A n c]] w fun e w'=>e=.returned (.int .i64 (aF W H n))∧Bl w w':=by
 go_in
 go_wp2_with fail;refine aA [(true,0),(true,1),(true,2),(true,3),(true,5),(true,6),(true,7),(true,8),(true,9),(true,10),(true,11),(true,12),(true,13),(false,4),(false,14),(false,15),(false,16),(true,17)] (fun _=>false) (by kernel_rfl) (by kernel_rfl) (by kernel_rfl) (by kernel_rfl) ?_
 iterate 13
  apply Flow.calm2 _ _ rfl rfl
  ·intro a b c d;obtain ⟨e,f⟩:=b.rule;go_simp;(try go_ints);exact d
  ·intro a b;simp only[sqA];exact b
 apply Flow.move rfl;go_wp2_with fail;refine (nD _ _ _).mono ?_;rintro e w1 ⟨rfl,HB1⟩;go_wp2_with fail;refine ⟨fun _=>(by first|exact HB1|exact Bl.refl _),?_⟩;apply Flow.move rfl;go_wp2_with fail;refine (aI _ _ _).mono ?_;rintro e w2 ⟨rfl,rfl⟩;go_wp2_with fail;refine ⟨fun _=>(by first|exact HB2|exact Bl.refl _),?_⟩;apply Flow.move rfl;go_wp2_with fail;first|refine ⟨fun _ => ?_,?_⟩|refine ⟨?_,?_⟩
 ·repeat' (first|exact Bl.refl _|refine Bl.drewL ?_|refine Bl.drew ?_|refine Bl.alloc ?_ _)
 apply Flow.move rfl;go_wp2_with fail;refine (dN _ _ _ _ (Blk.new _ _ _)).mono ?_;rintro e w3 ⟨rfl,rfl⟩;go_wp2_with fail;refine ⟨fun _=>(by first|exact HB4|exact Bl.refl _),?_⟩;apply Flow.asg _ rfl
 ·intro a b;simp only[sqA,Act.eval,sqC];exact b
 refine Flow.done ?_;go_wp2_with fail;go_ret;refine ⟨cP (CP W H n _ (Z3 W H n)),?_⟩;exact ((((Bl.refl _).alloc _).drew).trans HB1).alloc _
theorem cQ (W H:Int) (A:Option Addr) (n c:Nat) (w:World) :
 Calls Tryz.prog 101 #[.agg #[.int .i64 W,.int .i64 H,.slice A n c]] w fun e w'=>e=.returned (.int .i64 (aF W H n))∧Bl w w':=by
 by_cases h:aM W H=0
 ·have hz:=aR h;have hm:=LY hz.1 hz.2.1 hz.2.2.1 hz.2.2.2.1;have hp:aF W H n=if (n:Int)=W*H then 0 else 2:=(by unfold aF;rw[if_pos h]);by_cases h5:(n:Int)=W*H
  ·rw[if_pos h5] at hp;have hq:((n:Int) != W*H)=false:=(by simp[h5]);have H5:=Lib.hid h5;clear h5;have Hp:=Lib.hid hp;clear hp
   go_in
   go_wp2_with (go_at_call 102;refine (gE _ _ _).mono ?_;rintro e w' ⟨rfl,rfl⟩);go_ret;exact ⟨cP Hp.out.symm,(Bl.refl _).alloc _⟩
  ·rw[if_neg h5] at hp;have hq:((n:Int) != W*H)=true:=(by simp[h5]);have H5:=Lib.hid h5;clear h5;have Hp:=Lib.hid hp;clear hp
   go_in
   go_wp2_with (go_at_call 102;refine (gE _ _ _).mono ?_;rintro e w' ⟨rfl,rfl⟩);go_ret;exact ⟨cP Hp.out.symm,(Bl.refl _).alloc _⟩
 ·have hp:aF W H n=aM W H:=(by unfold aF;rw[if_neg h]);have hq:(aM W H != 0)=true:=(by simp[h]);have Hp:=Lib.hid hp;clear hp h
  go_in
  go_wp2_with (go_at_call 102;refine (gE _ _ _).mono ?_;rintro e w' ⟨rfl,rfl⟩);go_ret;exact ⟨cP Hp.out.symm,(Bl.refl _).alloc _⟩
theorem dQ {W H:Int} {n:Nat} (h:aF W H n=0):∃W' H':Nat,W=(W':Int)∧H=(H':Int)∧n=W'*H'∧W'≤4000∧H'≤4000∧W'*H'≤1048576:=by
 obtain ⟨hs,hn⟩:=fU h;have hz':=aR hs;obtain ⟨W,rfl⟩:=Int.eq_ofNat_of_zero_le (show 0≤W by omega);obtain ⟨H,rfl⟩:=Int.eq_ofNat_of_zero_le (show 0≤H by omega);have:=Int.natCast_mul W H;exact ⟨W,H,rfl,rfl,by omega,by omega,by omega,by omega⟩
def rD (a b:Int):Int:=(2*a+b) / (2*b)
theorem RX (a b:Int) (hb:1≤b):a / b*b≤a∧a<(a / b+1)*b∧(a / b+1)*b=a / b*b+b:=by
 have h1:=Int.mul_ediv_self_le (x:=a) (k:=b) (by omega);have h2:=Int.lt_mul_ediv_self_add (x:=a) (k:=b) (by omega);have e:(a / b+1)*b=a / b*b+b:=(by rw[Int.add_mul,Int.one_mul]);rw[Int.mul_comm] at h1 h2;omega
theorem LZ (a b:Int) (hb:1≤b) (ha:a<0):(a.tdiv b=a / b∧a.tmod b=0∧a / b*b=a)∨(a.tdiv b=a / b+1∧a.tmod b<0∧a / b*b<a):=by
 have h1:=Int.mul_tdiv_add_tmod a b;have h2:=Int.mul_ediv_add_emod a b;have h3:=Int.emod_nonneg a (show b≠0 by omega);have h4:=Int.emod_lt_of_pos a (show 0<b by omega);have hc:b*(a / b)=a / b*b:=Int.mul_comm _ _;rw[Int.tdiv_eq_ediv,Int.tmod_eq_emod] at *;by_cases hd:b ∣ a
 ·left;have:a % b=0:=Int.emod_eq_zero_of_dvd hd;simp[hd,this];omega
 ·right;have hne:a % b≠0:=fun e=>hd (Int.dvd_of_emod_eq_zero e);have hna:¬(0≤a):=(by omega);have hs:b.sign=1:=Int.sign_eq_one_of_pos (by omega);have hab:(b.natAbs:Int)=b:=(by omega);simp[hd,hna,hs,hab];omega
theorem YV (a b:Int) (hb:1≤b) (h1:-1099511627776≤a) (h2:a≤1099511627776):-1099511627776≤a / b∧a / b≤1099511627776:=by
 constructor
 ·exact Int.le_trans (by omega) (Int.le_ediv_of_mul_le (by omega) (show -1099511627776*b≤a by omega))
 ·exact Int.ediv_le_of_le_mul (by omega) (by omega)
theorem WB (a b:Int) (w:World) (h1:-1099511627776≤a) (h2:a≤1099511627776) (h3:1≤b) (h4:b≤1099511627776) :
 Calls Tryz.prog 295 #[.int .i64 a,.int .i64 b] w fun e w'=>e=.returned (.int .i64 (a / b))∧w=w':=by
 have hd:=RX a b h3;obtain ⟨hb1,hb2⟩:=YV a b h3 h1 h2;obtain ⟨q,hq⟩:∃q,q=a / b:=⟨_,rfl⟩;rw[←hq] at hd hb1 hb2;obtain ⟨hd1,hd2,hd3⟩:=hd;by_cases ha:0≤a
 ·have hlo:-2199023255552≤q*b:=(by omega);have Hq:=Lib.hid hq;have Hd:=Lib.hid hd3;clear hd3;have hq':=hq.symm;clear hq
  go_in
  go_wp2
  refine wp_loop_rounds 1 ?_;rw[rounds_succ]
  go_wp2
  go_ret;first|exact ⟨rfl,rfl⟩|exact ⟨cP (by have:=Hq.out;omega),rfl⟩
 ·rcases LZ a b h3 (by omega) with ⟨ht,_,he⟩|⟨ht,_,he⟩
  ·rw[←hq] at ht he;have Hq:=Lib.hid hq;have Hd:=Lib.hid hd3;clear hd3;have hq':=hq.symm;clear hq;have hle:q*b≤a:=(by omega);have hlo:-2199023255552≤q*b:=(by omega);have He:=Lib.hid he;clear he
   go_in
   go_wp2
   refine wp_loop_rounds 1 ?_;rw[rounds_succ]
   go_wp2
   go_ret;first|exact ⟨rfl,rfl⟩|exact ⟨cP (by have:=Hq.out;omega),rfl⟩
  ·rw[←hq] at ht he;have Hq:=Lib.hid hq;have hq':=hq.symm;clear hq;have hgt:a<(q+1)*b:=(by omega);have hle:q*b≤a:=(by omega);have hbd:(q+1)*b≤2199023255552:=(by omega);have hlo:-2199023255552≤q*b:=(by omega);have Hd:=Lib.hid hd3;clear hd3 he
   go_in
   go_wp2
   refine wp_loop_rounds 2 ?_;rw[rounds_succ]
   go_wp2
   have e1:q+1-1=q:=(by omega);rw[rounds_succ]
   go_wp2
   go_ret;exact ⟨cP (by have:=Hq.out;omega),rfl⟩
theorem RY (a b:Int) (w:World) (h1:-1099511627776≤a) (h2:a≤1099511627776) (h3:1≤b) (h4:b≤1099511627776) :
 Calls Tryz.prog 342 #[.int .i64 a,.int .i64 b] w fun e w'=>e=.returned (.int .i64 (a / b))∧w=w':=by
 obtain ⟨hb1,hb2⟩:=YV a b h3 h1 h2;by_cases ha:0≤a
 ·have hm:=Int.emod_nonneg a (show b≠0 by omega)
  go_in
  go_wp2
  go_ret;exact ⟨rfl,rfl⟩
 ·rcases LZ a b h3 (by omega) with ⟨ht,hm,_⟩|⟨ht,hm,_⟩
  ·go_in
   go_wp2
   go_ret;exact ⟨cP (by omega),rfl⟩
  ·go_in
   go_wp2
   go_ret;exact ⟨cP (by omega),rfl⟩
theorem E7 (a b:Int) (w:World) (h1:-274877906944≤a) (h2:a≤274877906944) (h3:1≤b) (h4:b≤274877906944) :
 Calls Tryz.prog 252 #[.int .i64 a,.int .i64 b] w fun e w'=>e=.returned (.int .i64 (rD a b))∧w=w':=by
 go_in
 go_wp2_with (go_at_call 295;refine (WB _ _ _ (by omega) (by omega) (by omega) (by omega)).mono ?_;rintro e w' ⟨rfl,rfl⟩);go_ret;exact ⟨rfl,rfl⟩
theorem wH (a b:Int) (w:World) (h1:-274877906944≤a) (h2:a≤274877906944) (h3:1≤b) (h4:b≤274877906944) :
 Calls Tryz.prog 325 #[.int .i64 a,.int .i64 b] w fun e w'=>e=.returned (.int .i64 (rD a b))∧w=w':=by
 go_in
 go_wp2_with (go_at_call 342;refine (RY _ _ _ (by omega) (by omega) (by omega) (by omega)).mono ?_;rintro e w' ⟨rfl,rfl⟩);go_ret;exact ⟨rfl,rfl⟩
theorem iI:(Tryz.prog.info? 3).map (fun i=>(i.zero,i.size,i.bytes))=some (some (.int .i64 0),1,8):=by kernel_rfl
theorem rE:(Tryz.prog.info? 4).map (fun i=>(i.zero,i.size,i.bytes))=some (some (.bool false),1,1):=by kernel_rfl
theorem JH:(Tryz.prog.info? 5).map (fun i=>(i.zero,i.size,i.bytes))=some (some (.int .u8 0),1,1):=by kernel_rfl
theorem WC {a b y:Nat} (h:y<b):y*a+a≤b*a:=by
 have:=Nat.mul_le_mul_right a (show y+1≤b from h);rw[Nat.add_mul,Nat.one_mul] at this;exact this
theorem jP {w:World} {base:Nat} {e:TypeId} {size n:Nat} {v:Value} {xs:List Value} (h:w.ownsRow base e size v n xs):∃A c,v=.slice A n c∧Reads w size A n xs∧∀ad,A=some ad→base≤ad.block:=by
 rcases h.2 with ⟨rfl,rfl⟩|⟨g,cap,cur,rfl,hb,hg,hn,hc,hs,ht⟩
 ·exact ⟨none,0,rfl,⟨h.1,fun hk=>absurd hk (by omega)⟩,fun _ h=>by cases h⟩
 ·exact ⟨_,_,rfl,⟨h.1,fun _=>⟨_,rfl,h.cells (g:=g) rfl⟩⟩,fun ad h=>by injection h with h;subst h;exact hb⟩
theorem bL {w:World} {base:Nat} {e:TypeId} {size n:Nat} {v:Value} {xs:List Value} (h:w.ownsRow base e size v n xs):∃A c,v=.slice A n c∧Reads w size A n xs:=by
 rcases h.2 with ⟨rfl,rfl⟩|⟨g,cap,cur,rfl,hb,hg,hn,hc,hs,ht⟩
 ·exact ⟨none,0,rfl,h.1,fun hk=>absurd hk (by omega)⟩
 ·exact ⟨_,_,rfl,h.1,fun _=>⟨_,rfl,h.cells (g:=g) rfl⟩⟩
theorem cX {w w':World} {base:Nat} {e:TypeId} {size n:Nat} {v:Value} {xs:List Value} (h:w.ownsRow base e size v n xs) (hb:Bl w w'):w'.ownsRow base e size v n xs:=by
 refine ⟨h.1,?_⟩;rcases h.2 with h2|⟨g,cap,cur,hv,hg,hh,r⟩
 ·exact .inl h2
 ·exact .inr ⟨g,cap,cur,hv,hg,(Below.block hb g (Array.getElem?_eq_some_iff.1 hh).1).trans hh,r⟩
theorem Reads.lit {w:World} {g:Nat} {t:TypeId} {cs:Array Value} {n:Nat} (h:Blk w g t cs) (hn:cs.size=n):Reads w 1 (some ⟨g,0,none⟩) n cs.toList:=h.reads n 1 (by simpa using hn)
section
variable {P:Program}
theorem aG {w1 wr : World} {ops : Array Oper} {rest : List Oper} {o : Oper} {a : Act} {Q : Exit → Act → World → Prop} (hgd : o.guard = none) (s x : Operand) (t : TypeId)
 (ho:o.op=.call { callee:=.builtin .append,args:=#[s,x],argTypes:=#[t,t] })
 (e:TypeId) (z:Value) (size bytes:Nat) (ht:P.underlying t=some (.slice e)) (hi:(P.info? e).map (fun i=>(i.zero,i.size,i.bytes))=some (some z,size,bytes))
 (hzs:z.cells.size=size) (hsz:0<size) (B:Nat)
 (v:Value) (n:Nat) (xs:List Value) (hs:a.eval s=v) (hb:Bl w1 wr) (hB:w1.heap.size≤B) (hBr:B≤wr.heap.size) (aV:wr.ownsRow B e size v n xs)
 (A:Option Addr) (m c:Nat) (news:List Value) (hx:a.eval x=.slice A m c) (hr:Reads wr size A m news) (h1:∀u∈news,u.oneCell'=true)
 (h63:n+m≤maxLen) (I9:(n+m)*bytes≤140737488355328)
 (h:∀v' w',w'.ownsRow B e size v' (n+m) (xs++news)→Bl w1 w'→wr.grownBy w' v.ownBlock→wpList P ops Q rest (a.put o.dst v') w'):wpList P ops Q (o :: rest) a wr:=by
 obtain ⟨i,hi',hz,aAy,hby⟩:=info_parts hi;refine wpList_plain hgd fun K hK => ?_;have main:∃v' w',(Builtin.append_ #[t,t] o.type #[v,.slice A m c]).run P wr=.ok v' w'∧w'.ownsRow B e size v' (n+m) (xs++news)∧wr.grownBy w' v.ownBlock:=by
  rcases A with _|ad
  ·have hm:m=0:=by
    rcases Nat.eq_zero_or_pos m with h0|h0
    ·exact h0
    ·obtain ⟨ad,h,_⟩:=hr.2 h0;cases h
   subst hm;have hn:news=[]:=List.eq_nil_of_length_eq_zero (by simpa using hr.1);subst hn;refine ⟨v,wr,?_,by simpa using aV,World.grownBy.refl wr _⟩;rcases aV.2 with ⟨rfl,rfl⟩|⟨g,cap,cur,rfl,_,_,hnc,_⟩
   ·simp[Builtin.append_,run_underlying ht,sizeOf,typeInfo,hi',Builtin.lenOf,Builtin.firstCells]
   ·simp[Builtin.append_,run_underlying ht,sizeOf,typeInfo,hi',Builtin.lenOf,Builtin.firstCells,hnc,storeCells]
  ·have NZ:∀j u,news[j]? = some u→wr.cell? (ad.add j)=some u:=by
    intro j u hu;rcases Nat.eq_zero_or_pos m with h0|h0
    ·subst h0;have hn:news=[]:=List.eq_nil_of_length_eq_zero (by simpa using hr.1);subst hn;simp at hu
    ·obtain ⟨ad',h,hc⟩:=hr.2 h0;injection h with h;subst h;exact hc j u hu
   obtain ⟨v',w',aBL,h2,h3,_⟩:=run_append_own (P:=P) wr B t o.type e i z size bytes ht hi' hz aAy hby hzs hsz v n xs aV ad m c news hr.1 NZ h1 h63 I9 hBr;exact ⟨v',w',aBL,h2,h3⟩
 obtain ⟨v',w',aBL,h2,h3⟩:=main;have hbl:Bl w1 w':=Below.grown hb h3 (Nat.le_trans hB hBr) (fun k hk=>Nat.le_trans hB (aV.lt k hk).1);unfold Oper.wp execOp;simp only[ho,resolve,invoke,builtin,Sem.run_bind,Sem.run_pure,Result.andThen_ok,List.map_toArray,List.map_cons,List.map_nil,hs,hx,aBL];exact hK _ _ (h v' w' h2 hbl h3)
theorem bI {w1 wr : World} {ops : Array Oper} {rest : List Oper} {o : Oper} {a : Act} {Q : Exit → Act → World → Prop} (hgd : o.guard = none) (s x : Operand) (t : TypeId)
 (ho:o.op=.call { callee:=.builtin .append,args:=#[s,x],argTypes:=#[t,t] })
 (e:TypeId) (z:Value) (bytes:Nat) (ht:P.underlying t=some (.slice e)) (hi:(P.info? e).map (fun i=>(i.zero,i.size,i.bytes))=some (some z,1,bytes))
 (hzs:z.cells.size=1) (B:Nat)
 (v:Value) (n:Nat) (xs:List Value) (hs:a.eval s=v) (u:Value) (hx:a.eval x=.slice (some ⟨wr.heap.size,0,none⟩) 1 1) (h1:u.oneCell'=true)
 (hb:Bl w1 wr) (hB:w1.heap.size≤B) (hBr:B≤wr.heap.size) (aV:wr.ownsRow B e 1 v n xs)
 (I9:(n+1)*bytes≤140737488355328) (h63:n+1≤maxLen)
 (h:∀v' w',w'.ownsRow B e 1 v' (n+1) (xs++[u])→Bl w1 w'→(wr.alloc (.cells #[u] e)).grownBy w' v.ownBlock→wpList P ops Q rest (a.put o.dst v') w'):wpList P ops Q (o :: rest) a (wr.alloc (.cells #[u] e)):=
 aG hgd s x t ho e z 1 bytes ht hi hzs (by omega) B v n xs hs (hb.alloc _) hB (by simp; omega) (aV.alloc _) _ 1 1 [u] hx (Reads.lit (Blk.new _ _ _) rfl)
  (fun y hy=>by rw[List.mem_singleton.1 hy];exact h1) h63 I9 h
end
def fS {α:Type} (W H:Nat) (f:Nat→Nat→α):List α:=(List.range (W*H)).map fun i=>f (i % W) (i / W)
theorem nF {α:Type} (W H:Nat) (f:Nat→Nat→α):(fS W H f).length=W*H:=by simp[fS]
theorem CQ {α:Type} (W H:Nat) (f:Nat→Nat→α) (i:Nat) (h:i<W*H):(fS W H f)[i]? = some (f (i % W) (i / W)):=by simp[fS,h]
theorem N7 {α:Type} (W H:Nat) (f g:Nat→Nat→α) (h:∀x y,x<W→y<H→f x y=g x y):fS W H f=fS W H g:=by
 unfold fS;apply List.map_congr_left;intro i hi;have hi':i<W*H:=(by simpa using hi);have hW:0<W:=(by rcases Nat.eq_zero_or_pos W with h0|h0;(subst h0;simp at hi');exact h0);exact h _ _ (Nat.mod_lt _ hW) (Nat.div_lt_of_lt_mul hi')
def L3 {α:Type} (W:Nat) (f:Nat→Nat→α) (m:Nat):List α:=(List.range m).map fun i=>f (i % W) (i / W)
theorem JI {α:Type} (W:Nat) (f:Nat→Nat→α) (con:α→Value) (y x:Nat) (hx:x<W):(L3 W f (y*W+x+1)).map con=(L3 W f (y*W+x)).map con++[con (f x y)]:=by
 have ex:(y*W+x) % W=x:=(by rw[Nat.mul_comm,Nat.mul_add_mod,Nat.mod_eq_of_lt hx]);have ey:(y*W+x) / W=y:=(by rw[Nat.mul_comm,Nat.mul_add_div (by omega),Nat.div_eq_of_lt hx,Nat.add_zero]);simp[L3,List.range_succ,ex,ey]
def IsPage (w:World) (v:Value) (W H:Nat) (cells:List Value):Prop:=∃A c,v=.agg #[.int .i64 W,.int .i64 H,.slice A (W*H) c]∧Reads w 1 A (W*H) cells
theorem IsPage.bl {w w':World} {v:Value} {W H:Nat} {cells:List Value} (h:IsPage w v W H cells) (hb:Bl w w'):IsPage w' v W H cells:=
 let ⟨A,c,e,hr⟩:=h
 ⟨A,c,e,hr.bl hb⟩
def NPage (B:Nat) (w:World) (v:Value) (W H:Nat) (cells:List Value):Prop:=∃A c,v=.agg #[.int .i64 W,.int .i64 H,.slice A (W*H) c]∧Reads w 1 A (W*H) cells∧∀ad,A=some ad→B≤ad.block
theorem NPage.is {B:Nat} {w:World} {v:Value} {W H:Nat} {cells:List Value} (h:NPage B w v W H cells):IsPage w v W H cells:=
 let ⟨A,c,e,hr,_⟩:=h
 ⟨A,c,e,hr⟩
theorem NPage.bl {B:Nat} {w w':World} {v:Value} {W H:Nat} {cells:List Value} (h:NPage B w v W H cells) (hb:Bl w w'):NPage B w' v W H cells:=
 let ⟨A,c,e,hr,hn⟩:=h
 ⟨A,c,e,hr.bl hb,hn⟩
theorem NPage.mono {B B':Nat} {w:World} {v:Value} {W H:Nat} {cells:List Value} (h:NPage B w v W H cells) (hb:B'≤B):NPage B' w v W H cells:=
 let ⟨A,c,e,hr,hn⟩:=h
 ⟨A,c,e,hr,fun ad h=>Nat.le_trans hb (hn ad h)⟩
theorem Reads.store {B:Nat} {w:World} {size n:Nat} {A:Option Addr} {xs:List Value} (h:Reads w size A n xs) (hn:∀ad,A=some ad→B≤ad.block) {p:Addr} (hp:p.block<B) (u:Value):Reads (w.setCell p u) size A n xs:=
 ⟨h.1,fun hk=>by
  obtain ⟨ad,e,hc⟩:=h.2 hk;exact ⟨ad,e,fun j x hx=>by rw[World.cell?_setCell_other w p _ u (fun e'=>by have h1:=hn ad e;have h2:=congrArg Addr.block e';rw[gX] at h2;omega)];exact hc j x hx⟩⟩
def Paints {α:Type} (P:Program) (k:FuncId) (cap:Array Value) (con:α→Value) (w:World) (W H:Nat) (f:Nat→Nat→α):Prop:=
 (∀args w,(callFunc k args).run P w=.ok (.enter k args) w) ∧
 ∀wx (x y:Nat),Bl w wx→x<W→y<H→Calls P k (#[.int .i64 x,.int .i64 y]++cap) wx fun e w'=>e=.returned (con (f x y))∧Bl wx w'
theorem Paints.bl {α:Type} {P:Program} {k:FuncId} {cap:Array Value} {con:α→Value} {w w':World} {W H:Nat} {f:Nat→Nat→α} (h:Paints P k cap con w W H f) (hb:Bl w w'):Paints P k cap con w' W H f:=
 ⟨h.1,fun wx x y hx=>h.2 wx x y (hb.trans hx)⟩
theorem d8 {W H x y:Nat} (hx:x<W) (hy:y<H):y*W+x<W*H:=by
 have m:=WC (a:=W) hy;rw[Nat.mul_comm W H];omega
def madeInv (w:World) (W H:Nat) (f:Nat→Nat→Bool) (wr:World) (n:Nat):Prop:=
 Bl w wr ∧ (∃ cs : Array Value, Blk wr (w.heap.size + 1) 4 cs ∧ cs.size = W * H ∧ ∀ i, i < n → cs[i]? = some (Value.bool (f (i % W) (i / W)))) ∧
  Blk wr (w.heap.size+1+1) 43 #[.int .i64 W,.int .i64 H,.slice (some ⟨w.heap.size+1,0,none⟩) (W*H) (W*H)] ∧
  Blk wr w.heap.size 43 #[.int .i64 0,.int .i64 0,.slice none 0 0]
theorem madeInv.start (w : World) (W H : Nat) (f : Nat → Nat → Bool) : madeInv w W H f (((w.alloc (.cells #[.int .i64 0, .int .i64 0, .slice none 0 0] 43)).alloc (.cells (madeCells #[.bool false] (W * H)) 4)).alloc
 (.cells #[.int .i64 W,.int .i64 H,.slice (some ⟨w.heap.size+1,0,none⟩) (W*H) (W*H)] 43)) 0:=by
 have b0:=Blk.new w 43 #[.int .i64 0,.int .i64 0,.slice none 0 0];have b1:=Blk.new (w.alloc (.cells #[.int .i64 0,.int .i64 0,.slice none 0 0] 43)) 4 (madeCells #[.bool false] (W*H));have b2:=Blk.new ((w.alloc (.cells #[.int .i64 0,.int .i64 0,.slice none 0 0] 43)).alloc (.cells (madeCells #[.bool false] (W*H)) 4)) 43 #[.int .i64 W,.int .i64 H,.slice (some ⟨w.heap.size+1,0,none⟩) (W*H) (W*H)];simp only[World.size_alloc] at b1 b2;exact ⟨(((Bl.refl w).alloc _).alloc _).alloc _,⟨_,b1.alloc _,size_madeCells _ _,fun i hi=>absurd hi (by omega)⟩,b2,(b0.alloc _).alloc _⟩
theorem WD (W H:Nat) (f:Nat→Nat→Bool) (k:FuncId) (cap:Array Value) (w:World) (hW:W≤1048576) (hH:H≤1048576) (hWH:W*H≤1048576) (hk:Paints Tryz.prog k cap Value.bool w W H f) :
 Calls Tryz.prog 103 #[.int .i64 W,.int .i64 H,.func (.func k) #[] cap] w fun e w'=>∃v,e=.returned v∧NPage w.heap.size w' v W H ((fS W H f).map Value.bool)∧Bl w w':=by
 have hmk:=run_make_row' (P:=Tryz.prog) 41 4 (.bool false) 1 Tryz.underlying41 rE rfl .i64 .i64 (W*H) (by omega) (by omega);have ZF:=hk.1;have eWH:(W:Int)*(H:Int)=((W*H:Nat):Int):=(by simp);have h1:(0:Int)≤(W:Int)*(H:Int):=(by omega);have h2:(W:Int)*(H:Int)≤1048576:=(by omega);rw[←eWH] at hmk;have EWH:=Lib.hid eWH;clear eWH;have inv0:=Lib.hid (madeInv.start w W H f)
 go_in
 go_wp2_with fail;go_loopw [18] (fun v wr=>∃y:Nat,y≤H∧v=.int .i64 y∧madeInv w W H f wr (y*W)) (fun v _=>H-(intOf v).toNat);case atStart=>exact ⟨0,Nat.zero_le _,rfl,by simpa using inv0.out⟩
 case round=>
  obtain ⟨y,hy,rfl,q9⟩:=hrel;by_cases hlt:y<H
  ·go_wp2_with fail;go_loopw [22] (fun v w2=>∃x:Nat,x≤W∧v=.int .i64 x∧madeInv w W H f w2 (y*W+x)) (fun v _=>W-(intOf v).toNat);case atStart=>exact ⟨0,Nat.zero_le _,rfl,by simpa using q9⟩
   case round=>
    obtain ⟨x,hx,rfl,AC⟩:=hrel;by_cases iH:x<W
    ·obtain ⟨hbl,⟨cs,JA,hsz,hcs⟩,hb2,hb0⟩:=AC;have ex:(y*W+x) % W=x:=(by rw[Nat.mul_comm,Nat.mul_add_mod,Nat.mod_eq_of_lt iH]);have ey:(y*W+x) / W=y:=(by rw[Nat.mul_comm,Nat.mul_add_div (by omega),Nat.div_eq_of_lt iH,Nat.add_zero]);have aAz:=d8 iH hlt;obtain ⟨i,hi⟩:∃i,i=y*W+x:=⟨_,rfl⟩;have e1:(y:Int)*(W:Int)+(x:Int)=(i:Int):=(by rw[hi];simp);rw[←hi] at aAz ex ey hcs;have k2:=hb2.all3;obtain ⟨vi,ci⟩:∃v,wr.cell? ⟨w.heap.size+1,i,none⟩=some v:=⟨cs[i]'(by omega),by rw[JA.cell];simp⟩;have fi:=JA.frozen i;have hi2:(i:Int)<(W:Int)*(H:Int):=(by have:=EWH.out;omega);have h3:(0:Int)≤(y:Int)*(W:Int)∧(y:Int)*(W:Int)≤1048576:=(by have:=Int.natCast_mul y W;have:=EWH.out;omega);have Hi:=Lib.hid hi;have Hcs:=Lib.hid hcs;have Hex:=Lib.hid ex;have Hey:=Lib.hid ey;clear hi hcs ex ey;go_wp2_with fail;refine aA [(true,0),(true,1),(true,2),(true,3),(true,4),(true,5),(true,6),(true,7),(true,8),(true,9),(false,10),(true,11),(false,12)] (fun i=>i==12) (by kernel_rfl) (by kernel_rfl) (by kernel_rfl) (by kernel_rfl) ?_
     iterate 2
      apply Flow.calm2 _ _ rfl rfl
      ·intro a b c d;obtain ⟨e,f⟩:=b.rule;go_simp;(try go_ints);exact d
      ·intro a b;simp only[sqA];exact b
     iterate 2
      apply Flow.mv _ rfl
      ·intro a b;simp only[sqA,Act.eval,sqC];exact b
     apply Flow.calm2 _ _ rfl rfl
     ·intro a b c d;obtain ⟨e,f⟩:=b.rule;go_simp;(try go_ints);exact d
     ·intro a b;simp only[sqA];exact b
     apply Flow.mv _ rfl
     ·intro a b;simp only[sqA,Act.eval,sqC];exact b
     apply Flow.calm2 _ _ rfl rfl
     ·intro a b c d;obtain ⟨e,f⟩:=b.rule;go_simp;(try go_ints);exact d
     ·intro a b;simp only[sqA];exact b
     iterate 3
      apply Flow.mv _ rfl
      ·intro a b;simp only[sqA,Act.eval,sqC];exact b
     apply Flow.move rfl;go_wp2_with fail;refine (hk.2 _ _ _ (hbl.trans (Bl.refl _).drew) iH hlt).mono ?_;rintro e w3 ⟨rfl,HB1⟩;obtain ⟨hc3,hf3⟩:=HB1.rule;go_wp2_with fail;refine ⟨fun _=>(by first|exact HB1|exact Bl.refl _),?_⟩;apply Flow.calm2 _ _ rfl rfl
     ·intro a b c d;obtain ⟨e,f⟩:=b.rule;go_simp;(try go_ints);exact d
     ·intro a b;simp only[sqA];exact b
     refine Flow.tail _ rfl ?_;go_wp2_with fail;have hb4:Bl wr w3:=((Bl.refl _).drew).trans HB1;have hst:madeInv w W H f (w3.setCell ⟨w.heap.size+1,i,none⟩ (Value.bool (f x y))) (i+1):=by
      refine ⟨(hbl.trans hb4).setCell (by simp) _,⟨_,(JA.bl hb4).set_ i _,by simpa using hsz,fun j hj => ?_⟩,(hb2.bl hb4).far (by simp) _,(hb0.bl hb4).far (by simp) _⟩;by_cases e:i=j
      ·subst e;rw[Hex.out,Hey.out];simp[hsz,aAz]
      ·rw[Array.getElem?_setIfInBounds_ne e];exact Hcs.out j (by omega)
     have Hst:=Lib.hid hst;clear hst;exact ⟨⟨x+1,iH,by go_num,by have:=Hst.out;rw[Hi.out] at this;simpa [Nat.add_assoc,Hi.out] using this⟩,by simp[intOf];omega⟩
    ·go_wp2_with fail;exact ⟨⟨y+1,hlt,by go_num,by rw[Nat.add_mul,Nat.one_mul];rwa [show x=W by omega] at AC⟩,by simp[intOf];omega⟩
  ·have k2:=q9.2.2.1.all3;have k0:=q9.2.2.2.all3;go_wp2_with fail;refine bodyPost_ret (v:=.agg #[.int .i64 W,.int .i64 H,.slice (some ⟨w.heap.size+1,0,none⟩) (W*H) (W*H)]) (by simp[results,Tryz.results103,go_sem,k0]) rfl ?_;obtain ⟨hbl,⟨cs,JA,hsz,hcs⟩,_,_⟩:=q9;refine ⟨_,rfl,⟨_,_,rfl,?_,fun ad h=>by injection h with h;subst h;simp⟩,?_⟩
   ·have hb':=((JA.far (p:=⟨w.heap.size,0,none⟩) (by simp) (.int .i64 W)).far (p:=⟨w.heap.size,1,none⟩) (by simp) (.int .i64 H)).far (p:=⟨w.heap.size,2,none⟩) (by simp) (.slice (some ⟨w.heap.size+1,0,none⟩) (W*H) (W*H));have hl:cs.toList=(fS W H f).map Value.bool:=by
     apply List.ext_getElem?;intro i;rcases Nat.lt_or_ge i (W*H) with h|h
     ·rw[List.getElem?_map,CQ W H f i h];have:=hcs i (by have:=Nat.mul_comm W H;rw[show y=H by omega];omega);simpa using this
     ·rw[List.getElem?_eq_none (by simpa [hsz] using h),List.getElem?_eq_none (by simpa [nF] using h)]
    rw[←hl];exact hb'.reads (W*H) 1 (by omega)
   ·exact ((hbl.setCell (by simp) _).setCell (by simp) _).setCell (by simp) _
def MadeInv (w:World) (W H:Nat) (f:Nat→Nat→Bool) (wr:World) (n:Nat):Prop:=
 Bl w wr ∧ ∃ v, Blk wr w.heap.size 43 #[.int .i64 0, .int .i64 0, .slice none 0 0] ∧ Blk wr (w.heap.size + 1) 43 #[.int .i64 W, .int .i64 H, v] ∧
  w.heap.size+2≤wr.heap.size∧wr.ownsRow (w.heap.size+2) 4 1 v n ((L3 W f n).map Value.bool)
theorem L4 (W H:Nat) (f:Nat→Nat→Bool) (k:FuncId) (cap:Array Value) (w:World) (hW:W≤1048576) (hH:H≤1048576) (hWH:W*H≤17179869184) (hk:Paints Tryz.prog k cap Value.bool w W H f) :
 Calls Tryz.prog 144 #[.int .i64 W,.int .i64 H,.func (.func k) #[] cap] w fun e w'=>∃v,e=.returned v∧NPage w.heap.size w' v W H ((fS W H f).map Value.bool)∧Bl w w':=by
 have ZF:=hk.1;have inv0:MadeInv w W H f ((w.alloc (.cells #[.int .i64 0,.int .i64 0,.slice none 0 0] 43)).alloc (.cells #[.int .i64 W,.int .i64 H,.slice none 0 0] 43)) 0:=by
  have b0:=Blk.new w 43 #[.int .i64 0,.int .i64 0,.slice none 0 0];have b1:=Blk.new (w.alloc (.cells #[.int .i64 0,.int .i64 0,.slice none 0 0] 43)) 43 #[.int .i64 W,.int .i64 H,.slice none 0 0];simp only[World.size_alloc] at b1;exact ⟨((Bl.refl w).alloc _).alloc _,_,b0.alloc _,b1,by simp,World.ownsRow_nil _ _ _ _⟩
 have Inv0:=Lib.hid inv0;clear inv0
 go_in
 go_wp2_with fail;go_loopw [14] (fun u wr=>∃y:Nat,y≤H∧u=.int .i64 y∧MadeInv w W H f wr (y*W)) (fun u _=>H-(intOf u).toNat);case atStart=>exact ⟨0,Nat.zero_le _,rfl,by simpa using Inv0.out⟩
 case round=>
  obtain ⟨y,hy,rfl,q9⟩:=hrel;by_cases hlt:y<H
  ·go_wp2_with fail;go_loopw [18] (fun u wr=>∃x:Nat,x≤W∧u=.int .i64 x∧MadeInv w W H f wr (y*W+x)) (fun u _=>W-(intOf u).toNat);case atStart=>exact ⟨0,Nat.zero_le _,rfl,by simpa using q9⟩
   case round=>
    obtain ⟨x,hx,rfl,AC⟩:=hrel;by_cases iH:x<W
    ·obtain ⟨hbl,v,hb0,hb1,hsz,aV⟩:=AC;have k1:=hb1.all3;have aAz:=d8 iH hlt;have hgs:=JI W f Value.bool y x iH;have Hgs:=Lib.hid hgs;clear hgs;go_wp2_with fail;refine aA [(true,0),(true,1),(true,2),(true,3),(true,4),(false,5),(false,6),(false,7),(true,8),(false,9)] (fun i=>i==7||i==9) (by kernel_rfl) (by kernel_rfl) (by kernel_rfl) (by kernel_rfl) ?_
     iterate 2
      apply Flow.calm2 _ _ rfl rfl
      ·intro a b c d;obtain ⟨e,f⟩:=b.rule;go_simp;(try go_ints);exact d
      ·intro a b;simp only[sqA];exact b
     iterate 3
      apply Flow.mv _ rfl
      ·intro a b;simp only[sqA,Act.eval,sqC];exact b
     apply Flow.move rfl;go_wp2_with fail;refine (hk.2 _ _ _ (hbl.trans (Bl.refl _).drew) iH hlt).mono ?_;rintro e w3 ⟨rfl,HB1⟩;have hb3:Bl wr w3:=((Bl.refl _).drew).trans HB1;go_wp2_with fail;refine ⟨fun _=>(by first|exact HB1|exact Bl.refl _),?_⟩;apply Flow.move rfl;go_wp2_with fail;first|refine ⟨fun _ => ?_,?_⟩|refine ⟨?_,?_⟩
     ·repeat' (first|exact Bl.refl _|refine Bl.drewL ?_|refine Bl.drew ?_|refine Bl.alloc ?_ _)
     apply Flow.move rfl;refine bI rfl (.tmp 22) (.tmp 27) 41 rfl 4 (.bool false) 1 Tryz.underlying41 rE rfl (w.heap.size+2) v (y*W+x) _ rfl _ rfl rfl (hbl.trans hb3) (by omega) (Nat.le_trans hsz hb3.le) (cX aV hb3) (by omega) (by unfold maxLen;omega) ?_;intro v' w4 mI aGl hg4;obtain ⟨A',c',rfl,_⟩:=bL mI;have hne:∀g,g<w.heap.size+2→some g≠v.ownBlock:=fun g hg e=>(by have:=(aV.lt g e.symm).1;omega);have aGm:=((hb0.bl hb3).alloc _).grown hg4 (hne _ (by omega));have aFd:=((hb1.bl hb3).alloc _).grown hg4 (hne _ (by omega));have k4:=aFd.all3;have hs4:w.heap.size+2≤w4.heap.size:=(by have h5:=hg4.size;have h6:=hb3.le;simp at h5;omega);go_wp2_with fail;refine ⟨fun hcl=>absurd hcl (by decide),?_⟩;apply Flow.calm2 _ _ rfl rfl
     ·intro a b c d;obtain ⟨e,f⟩:=b.rule;go_simp;(try go_ints);exact d
     ·intro a b;simp only[sqA];exact b
     refine Flow.tail _ rfl ?_;go_wp2_with fail;have hst:MadeInv w W H f (w4.setCell ⟨w.heap.size+1,2,none⟩ (.slice A' (y*W+x+1) c')) (y*W+x+1):=by
      refine ⟨aGl.setCell (by simp) _,_,aGm.far (by simp) _,by simpa using aFd.set_ 2 (.slice A' (y*W+x+1) c'),by simpa using hs4,?_⟩;rw[Hgs.out];exact ownsRow_setCell_below mI (by simp) _
     have Hst:=Lib.hid hst;clear hst;exact ⟨⟨x+1,iH,by go_num,Hst.out⟩,by simp[intOf];omega⟩
    ·go_wp2_with fail;exact ⟨⟨y+1,hlt,by go_num,by rw[Nat.add_mul,Nat.one_mul];rwa [show x=W by omega] at AC⟩,by simp[intOf];omega⟩
  ·obtain ⟨hbl,v,hb0,hb1,hsz,aV⟩:=q9;obtain rfl:y=H:=(by omega);have k1:=hb1.all3;have k0:=hb0.all3;obtain ⟨A,c,rfl,hrd⟩:=bL aV;go_wp2_with fail;refine bodyPost_ret (v:=.agg #[.int .i64 W,.int .i64 y,.slice A (y*W) c]) (by simp[results,Tryz.results144,go_sem,k0]) rfl ?_;have hb':Bl w (((wr.setCell ⟨w.heap.size,0,none⟩ (.int .i64 W)).setCell ⟨w.heap.size,1,none⟩ (.int .i64 y)).setCell ⟨w.heap.size,2,none⟩ (.slice A (y*W) c)):=((hbl.setCell (by simp) _).setCell (by simp) _).setCell (by simp) _;have ho:=ownsRow_setCell_below (ownsRow_setCell_below (ownsRow_setCell_below aV (a:=⟨w.heap.size,0,none⟩) (by simp) (.int .i64 W)) (a:=⟨w.heap.size,1,none⟩) (by simp) (.int .i64 y)) (a:=⟨w.heap.size,2,none⟩) (by simp) (.slice A (y*W) c);obtain ⟨A',c',e',aGn,hnw⟩:=jP ho;injection e' with e1 e2 e3;subst e1;refine ⟨_,rfl,⟨A,c,by rw[Nat.mul_comm W y],?_,fun ad h=>by have:=hnw ad h;omega⟩,hb'⟩;unfold fS;rw[Nat.mul_comm W y];exact aGn
def MakesPage (P:Program) (k:FuncId) (cap:Array Value) (w:World) (W H:Nat) (cells:List Value):Prop:=
 (∀args w,(callFunc k args).run P w=.ok (.enter k args) w)∧∀wx,Bl w wx→Calls P k cap wx fun e w'=>∃v,e=.returned v∧IsPage w' v W H cells∧Bl wx w'
abbrev aHX (i:Nat):Bool × Nat:=(true,i)
abbrev aHY (i:Nat):Bool × Nat:=(false,i)
theorem aHZ {P:Program} {ops:Array Oper} {Q:Exit→Act→World→Prop} {id:Nat} {a:Act} {w:World} (σ:List (Bool × Nat)) (hm:(P.follows .mixedOrders&&(Region.noSelect ops&&(decide (σ.length≤ops.size)&&wF .any ops (fun _=>false) σ (Array.replicate ops.size false))))=true) (h:Flow P ops (NoPanic Q) (fun _=>false) σ a w.drew):(Code.region id ops true).wp P Q a w:=by
 simp only[Bool.and_eq_true] at hm;exact aA σ _ hm.1 hm.2.1 hm.2.2.1 hm.2.2.2 h
theorem aHH {p:Prop} (h:p):Go.RowKit.Hid p:=Lib.hid h
theorem aHI {a b c:Prop} (ha:a) (hb:b) (hc:c):Go.RowKit.Hid a∧Go.RowKit.Hid b∧Go.RowKit.Hid c:=
 ⟨ha,hb,hc⟩
theorem aHJ {a b c d:Prop} (ha:a) (hb:b) (hc:c) (hd:d):Go.RowKit.Hid a∧Go.RowKit.Hid b∧Go.RowKit.Hid c∧Go.RowKit.Hid d:=
 ⟨ha,hb,hc,hd⟩
theorem aHK {a b c d e:Prop} (ha:a) (hb:b) (hc:c) (hd:d) (he:e):Go.RowKit.Hid a∧Go.RowKit.Hid b∧Go.RowKit.Hid c∧Go.RowKit.Hid d∧Go.RowKit.Hid e:=
 ⟨ha,hb,hc,hd,he⟩
theorem aHL {a b c d e f:Prop} (ha:a) (hb:b) (hc:c) (hd:d) (he:e) (hf:f):Go.RowKit.Hid a∧Go.RowKit.Hid b∧Go.RowKit.Hid c∧Go.RowKit.Hid d∧Go.RowKit.Hid e∧Go.RowKit.Hid f:=
 ⟨ha,hb,hc,hd,he,hf⟩
theorem aHM {a b c d e f g:Prop} (ha:a) (hb:b) (hc:c) (hd:d) (he:e) (hf:f) (hg:g):Go.RowKit.Hid a∧Go.RowKit.Hid b∧Go.RowKit.Hid c∧Go.RowKit.Hid d∧Go.RowKit.Hid e∧Go.RowKit.Hid f∧Go.RowKit.Hid g:=
 ⟨ha,hb,hc,hd,he,hf,hg⟩
theorem aHN {a b c d e f g h:Prop} (ha:a) (hb:b) (hc:c) (hd:d) (he:e) (hf:f) (hg:g) (hh:h):Go.RowKit.Hid a∧Go.RowKit.Hid b∧Go.RowKit.Hid c∧Go.RowKit.Hid d∧Go.RowKit.Hid e∧Go.RowKit.Hid f∧Go.RowKit.Hid g∧Go.RowKit.Hid h:=
 ⟨ha,hb,hc,hd,he,hf,hg,hh⟩
instance:Coe Int Value:=⟨fun x=>.int .i64 x⟩
instance:Coe Nat Value:=⟨fun x=>.int .i64 (x:Int)⟩
instance:Coe (List UInt8) Value:=⟨fun x=>.string ⟨x.toArray⟩⟩
theorem aHO {x:World} (w:World) (T1:TypeId) (c1:Array Value) (h:x=(w.alloc (.cells c1 T1))):Bl w x∧Blk x (w.heap.size) T1 c1:=by
 subst h;exact ⟨(Bl.refl w).alloc _,(by have h0:=Blk.new w T1 c1;exact h0)⟩
theorem aHP {x:World} (w:World) (T1:TypeId) (c1:Array Value) (T2:TypeId) (c2:Array Value) (h:x=((w.alloc (.cells c1 T1)).alloc (.cells c2 T2))):Bl w x∧Blk x (w.heap.size) T1 c1∧Blk x (w.heap.size+1) T2 c2:=by
 subst h;exact ⟨((Bl.refl w).alloc _).alloc _,(by have h0:=Blk.new w T1 c1;exact (h0.alloc _)),(by have h0:=Blk.new (w.alloc (.cells c1 T1)) T2 c2;simp only[World.size_alloc] at h0;exact h0)⟩
theorem aHQ {x:World} (w:World) (T1:TypeId) (c1:Array Value) (T2:TypeId) (c2:Array Value) (T3:TypeId) (c3:Array Value) (h:x=(((w.alloc (.cells c1 T1)).alloc (.cells c2 T2)).alloc (.cells c3 T3))):Bl w x∧Blk x (w.heap.size) T1 c1∧Blk x (w.heap.size+1) T2 c2∧Blk x (w.heap.size+1+1) T3 c3:=by
 subst h;exact ⟨(((Bl.refl w).alloc _).alloc _).alloc _,(by have h0:=Blk.new w T1 c1;exact ((h0.alloc _).alloc _)),(by have h0:=Blk.new (w.alloc (.cells c1 T1)) T2 c2;simp only[World.size_alloc] at h0;exact (h0.alloc _)),(by have h0:=Blk.new ((w.alloc (.cells c1 T1)).alloc (.cells c2 T2)) T3 c3;simp only[World.size_alloc] at h0;exact h0)⟩
theorem aHR {x:World} (w:World) (T1:TypeId) (c1:Array Value) (T2:TypeId) (c2:Array Value) (T3:TypeId) (c3:Array Value) (T4:TypeId) (c4:Array Value) (h:x=((((w.alloc (.cells c1 T1)).alloc (.cells c2 T2)).alloc (.cells c3 T3)).alloc (.cells c4 T4))):Bl w x∧Blk x (w.heap.size) T1 c1∧Blk x (w.heap.size+1) T2 c2∧Blk x (w.heap.size+1+1) T3 c3∧Blk x (w.heap.size+1+1+1) T4 c4:=by
 subst h;exact ⟨((((Bl.refl w).alloc _).alloc _).alloc _).alloc _,(by have h0:=Blk.new w T1 c1;exact (((h0.alloc _).alloc _).alloc _)),(by have h0:=Blk.new (w.alloc (.cells c1 T1)) T2 c2;simp only[World.size_alloc] at h0;exact ((h0.alloc _).alloc _)),(by have h0:=Blk.new ((w.alloc (.cells c1 T1)).alloc (.cells c2 T2)) T3 c3;simp only[World.size_alloc] at h0;exact (h0.alloc _)),(by have h0:=Blk.new (((w.alloc (.cells c1 T1)).alloc (.cells c2 T2)).alloc (.cells c3 T3)) T4 c4;simp only[World.size_alloc] at h0;exact h0)⟩
theorem aHS {x:World} (w:World) (T1:TypeId) (c1:Array Value) (T2:TypeId) (c2:Array Value) (T3:TypeId) (c3:Array Value) (T4:TypeId) (c4:Array Value) (T5:TypeId) (c5:Array Value) (h:x=(((((w.alloc (.cells c1 T1)).alloc (.cells c2 T2)).alloc (.cells c3 T3)).alloc (.cells c4 T4)).alloc (.cells c5 T5))):Bl w x∧Blk x (w.heap.size) T1 c1∧Blk x (w.heap.size+1) T2 c2∧Blk x (w.heap.size+1+1) T3 c3∧Blk x (w.heap.size+1+1+1) T4 c4∧Blk x (w.heap.size+1+1+1+1) T5 c5:=by
 subst h;exact ⟨(((((Bl.refl w).alloc _).alloc _).alloc _).alloc _).alloc _,(by have h0:=Blk.new w T1 c1;exact ((((h0.alloc _).alloc _).alloc _).alloc _)),(by have h0:=Blk.new (w.alloc (.cells c1 T1)) T2 c2;simp only[World.size_alloc] at h0;exact (((h0.alloc _).alloc _).alloc _)),(by have h0:=Blk.new ((w.alloc (.cells c1 T1)).alloc (.cells c2 T2)) T3 c3;simp only[World.size_alloc] at h0;exact ((h0.alloc _).alloc _)),(by have h0:=Blk.new (((w.alloc (.cells c1 T1)).alloc (.cells c2 T2)).alloc (.cells c3 T3)) T4 c4;simp only[World.size_alloc] at h0;exact (h0.alloc _)),(by have h0:=Blk.new ((((w.alloc (.cells c1 T1)).alloc (.cells c2 T2)).alloc (.cells c3 T3)).alloc (.cells c4 T4)) T5 c5;simp only[World.size_alloc] at h0;exact h0)⟩
theorem aHT {x:World} (w:World) (T1:TypeId) (c1:Array Value) (T2:TypeId) (c2:Array Value) (T3:TypeId) (c3:Array Value) (T4:TypeId) (c4:Array Value) (T5:TypeId) (c5:Array Value) (T6:TypeId) (c6:Array Value) (h:x=((((((w.alloc (.cells c1 T1)).alloc (.cells c2 T2)).alloc (.cells c3 T3)).alloc (.cells c4 T4)).alloc (.cells c5 T5)).alloc (.cells c6 T6))):Bl w x∧Blk x (w.heap.size) T1 c1∧Blk x (w.heap.size+1) T2 c2∧Blk x (w.heap.size+1+1) T3 c3∧Blk x (w.heap.size+1+1+1) T4 c4∧Blk x (w.heap.size+1+1+1+1) T5 c5∧Blk x (w.heap.size+1+1+1+1+1) T6 c6:=by
 subst h;exact ⟨((((((Bl.refl w).alloc _).alloc _).alloc _).alloc _).alloc _).alloc _,(by have h0:=Blk.new w T1 c1;exact (((((h0.alloc _).alloc _).alloc _).alloc _).alloc _)),(by have h0:=Blk.new (w.alloc (.cells c1 T1)) T2 c2;simp only[World.size_alloc] at h0;exact ((((h0.alloc _).alloc _).alloc _).alloc _)),(by have h0:=Blk.new ((w.alloc (.cells c1 T1)).alloc (.cells c2 T2)) T3 c3;simp only[World.size_alloc] at h0;exact (((h0.alloc _).alloc _).alloc _)),(by have h0:=Blk.new (((w.alloc (.cells c1 T1)).alloc (.cells c2 T2)).alloc (.cells c3 T3)) T4 c4;simp only[World.size_alloc] at h0;exact ((h0.alloc _).alloc _)),(by have h0:=Blk.new ((((w.alloc (.cells c1 T1)).alloc (.cells c2 T2)).alloc (.cells c3 T3)).alloc (.cells c4 T4)) T5 c5;simp only[World.size_alloc] at h0;exact (h0.alloc _)),(by have h0:=Blk.new (((((w.alloc (.cells c1 T1)).alloc (.cells c2 T2)).alloc (.cells c3 T3)).alloc (.cells c4 T4)).alloc (.cells c5 T5)) T6 c6;simp only[World.size_alloc] at h0;exact h0)⟩
theorem aHU {w x:World} {o:Obj} (h:x=w.alloc o):Bl w x:=by
 subst h;exact (Bl.refl _).alloc _
theorem aHV {w x:World} {T:TypeId} {c:Array Value} (h:x=w.alloc (.cells c T)):Blk x w.heap.size T c:=by
 subst h;exact Blk.new _ _ _
theorem aHW {w x:World} {o:Nat} {T:TypeId} {c:Array Value} (h:x=w.alloc (.cells c T)) (k:o=w.heap.size):Blk x o T c:=by
 subst h k;exact Blk.new _ _ _
theorem aH0 {α:Sort _} (a:α):∃z,z=a:=⟨a,rfl⟩
theorem aH1 {α:Sort _} (a:α):∃z,a=z:=⟨a,rfl⟩
theorem aH2:type_of% @List.getElem?_eq_getElem:=@List.getElem?_eq_getElem
theorem aH3:type_of% @List.getElem?_eq_some_iff:=@List.getElem?_eq_some_iff
theorem aH4:type_of% @List.getD_eq_getElem?_getD:=@List.getD_eq_getElem?_getD
theorem aH5:type_of% @List.length_append:=@List.length_append
theorem aH6:type_of% @List.length_map:=@List.length_map
theorem aH7:type_of% @List.length_take:=@List.length_take
theorem aH8:type_of% @List.length_cons:=@List.length_cons
theorem aH9:type_of% @List.take_length:=@List.take_length
theorem aIa:type_of% @List.getElem?_append_right:=@List.getElem?_append_right
theorem aIb:type_of% @List.getElem?_append_left:=@List.getElem?_append_left
theorem aIc:type_of% @List.length_replicate:=@List.length_replicate
theorem aId:type_of% @List.getElem?_map:=@List.getElem?_map
theorem aIe:type_of% @List.getElem?_take_of_lt:=@List.getElem?_take_of_lt
theorem aIf:type_of% @List.getElem?_drop:=@List.getElem?_drop
theorem aIg:type_of% @List.length_drop:=@List.length_drop
theorem aIh:type_of% @List.take_append_drop:=@List.take_append_drop
theorem aIi:type_of% @List.append_assoc:=@List.append_assoc
theorem aIj:type_of% @List.mem_append:=@List.mem_append
theorem aIk:type_of% @List.mem_cons:=@List.mem_cons
theorem aIl:type_of% @List.all_eq_true:=@List.all_eq_true
theorem aIm:type_of% @List.any_eq_true:=@List.any_eq_true
theorem aIn:type_of% @List.mem_singleton:=@List.mem_singleton
theorem aIo:type_of% @List.length_singleton:=@List.length_singleton
theorem aIp:type_of% @List.map_append:=@List.map_append
theorem aIq:type_of% @List.getElem?_cons_zero:=@List.getElem?_cons_zero
theorem aIr:type_of% @beq_eq_false_iff_ne:=@beq_eq_false_iff_ne
theorem aIs:type_of% @Bool.and_eq_true:=@Bool.and_eq_true
theorem aIt:type_of% @decide_eq_false:=@decide_eq_false
theorem aIu:type_of% @decide_eq_true:=@decide_eq_true
theorem aIv:type_of% @of_decide_eq_true:=@of_decide_eq_true
theorem aIw:type_of% @Option.some.inj:=@Option.some.inj
theorem aIx:type_of% @bodyPost_ret:=@bodyPost_ret
theorem aIy:type_of% @Array.getElem?_eq_some_iff:=@Array.getElem?_eq_some_iff
theorem aIz:type_of% @List.take_left':=@List.take_left'
theorem aIA:type_of% @List.length_reverse:=@List.length_reverse
theorem aIB:type_of% @List.getElem_of_mem:=@List.getElem_of_mem
theorem aIC:type_of% @List.getElem?_eq_none:=@List.getElem?_eq_none
theorem aID:type_of% @List.take_of_length_le:=@List.take_of_length_le
theorem aIE:type_of% @List.drop_eq_getElem_cons:=@List.drop_eq_getElem_cons
theorem aIF:type_of% @Int.toNat_natCast:=@Int.toNat_natCast
theorem aIG:type_of% @Int.natCast_mul:=@Int.natCast_mul
theorem aIH:type_of% @Nat.mul_le_mul:=@Nat.mul_le_mul
theorem aII:type_of% @Nat.le_trans:=@Nat.le_trans
theorem aIJ:type_of% @List.take_add_one:=@List.take_add_one
theorem aIK:type_of% @List.mem_map:=@List.mem_map
theorem aIL:type_of% @List.flatMap_append:=@List.flatMap_append
theorem aIM:type_of% @List.flatMap_cons:=@List.flatMap_cons
theorem aIN:type_of% @List.append_nil:=@List.append_nil
theorem aIO:type_of% @List.cons_append:=@List.cons_append
end Go.Proofs.YtllefinciimffaaGreatDoor
