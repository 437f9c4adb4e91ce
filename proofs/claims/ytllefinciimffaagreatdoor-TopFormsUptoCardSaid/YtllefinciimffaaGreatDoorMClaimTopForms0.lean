import Derived.Test.YtllefinciimffaaGreatDoorRows
import Derived.WalkKit
import Derived.WalkSpells
import Derived.WalkLawsBesides
import Derived.Handy
import Derived.Deep.QuietTactic
import Derived.BigQuiet
import Derived.Deep.RegionHeld3
import Derived.Deep.AppendLies
import Derived.Deep.Draws
import Derived.Deep.OwnRows
import Derived.Deep.DeepCutAuto
import Derived.Deep.LoopGhost
import Derived.Deep.DeepFit
import Derived.Maps.AppendAt
import Derived.Lib.Hide
import Derived.StillTailTactics
import Derived.Laws.ResultCell
set_option maxHeartbeats 20000000
set_option maxRecDepth 100000
namespace Go.Proofs.YtllefinciimffaaGreatDoor
open Go.RowKit
theorem gB {k:IntKind} {a b:Int} (h:a=b):Ending.returned (.int k a)=.returned (.int k b):=by rw[h]
theorem cD {a b:Bool} (h:a=b):Ending.returned (.bool a)=.returned (.bool b):=by rw[h]
theorem pD {P:Program} {f:FuncId} {fn:Func} {c:Code} (hf:P.funcs[f]? = some fn) (aGG:(fn.name == "runtime.NumGoroutine")=false) (hb:fn.body=some c) :
 ∀args w,(callFunc f args).run P w=.ok (.enter f args) w:=by
 intro args w;have h1:fn.name ≠ "runtime.NumGoroutine" := (by simpa using aGG);simp[callFunc,hf,h1,hb]
def Bl (w w':World):Prop:=Below w.heap.size w w'
theorem Bl.refl (w:World):Bl w w:=Below.refl _ _
theorem Bl.trans {a b c:World} (h:Bl a b) (k:Bl b c):Bl a c:=Below.trans h (Below.mono k h.size)
theorem Bl.alloc {a w:World} (h:Bl a w) (o:Obj):Bl a (w.alloc o):=Below.alloc h h.size o
theorem Bl.drew {a w:World} (h:Bl a w):Bl a w.drew:=Below.drew h
theorem Bl.le {a w:World} (h:Bl a w):a.heap.size≤w.heap.size:=Below.size h
theorem Bl.setCell {a w:World} (h:Bl a w) {p:Addr} (hp:a.heap.size≤p.block) (u:Value):Bl a (w.setCell p u):=Below.setCell h hp u
theorem Bl.cell {w w':World} (h:Bl w w') {p:Addr} (hp:p.block<w.heap.size):w'.cell? p=w.cell? p:=Below.cell h hp
theorem Bl.at {w w':World} (h:Bl w w') {p:Addr} {v:Value} (hc:w.cell? p=some v):w'.cell? p=some v:=
 (Below.cell h (World.block_lt_of_cell? w p hc)).trans hc
theorem Bl.rule {w w':World} (h:Bl w w'):(∀p,(w.cell? p).isSome=true→w'.cell? p=w.cell? p)∧(∀p,(w.cell? p).isSome=true→w'.frozen? p=w.frozen? p):=by
 refine ⟨fun p hp => ?_,fun p hp => ?_⟩
 ·obtain ⟨v,hv⟩:=Option.isSome_iff_exists.1 hp;rw[hv];exact h.at hv
 ·obtain ⟨v,hv⟩:=Option.isSome_iff_exists.1 hp;exact Below.frozen h (World.block_lt_of_cell? w p hv)
theorem Bl.drewL {w w':World} (h:Bl w w'):Bl w.drew w':=⟨h.os,h.tape,h.output,h.size,h.block⟩
theorem Bl.ofDrew {w w':World} (h:Bl w.drew w'):Bl w w':=((Bl.refl w).drew).trans h
theorem pE (a:Addr) (n:Nat):(a.add n).block=a.block:=by unfold Addr.add;split<;>rfl
theorem cY (a:Addr) (i j:Nat):(a.add i).add j=a.add (i+j):=by
 unfold Addr.add;by_cases hi:i=0<;>by_cases hj:j=0<;>simp[hi,hj,Nat.add_assoc]
def Reads (w:World) (size:Nat) (A:Option Addr) (n:Nat) (xs:List Value):Prop:=
 xs.length=n*size∧(0<n→∃ad,A=some ad∧∀j u,xs[j]? = some u→w.cell? (ad.add j)=some u)
section
variable {w w':World} {size n:Nat} {A:Option Addr} {xs:List Value}
theorem Reads.none_:Reads w size A 0 []:=⟨by simp,fun h=>absurd h (by omega)⟩
theorem Reads.at_ {k:Nat} (h:Reads w 1 A n xs) (hk:k<n):∃ad u,A=some ad∧xs[k]? = some u∧w.cell? (ad.add k)=some u:=by
 obtain ⟨ad,e,hc⟩:=h.2 (by omega);have hl:k<xs.length:=(by have:=h.1;omega);exact ⟨ad,xs[k],e,List.getElem?_eq_getElem hl,hc k _ (List.getElem?_eq_getElem hl)⟩
theorem Reads.bl (h:Reads w size A n xs) (hb:Bl w w'):Reads w' size A n xs:=
 ⟨h.1,fun hn=>by
  obtain ⟨ad,e,hc⟩:=h.2 hn;exact ⟨ad,e,fun j u hu=>hb.at (hc j u hu)⟩⟩
end
def Blk (w:World) (g:Nat) (t:TypeId) (cs:Array Value):Prop:=w.heap[g]? = some (.cells cs t (0,0))
section
variable {w w':World} {g:Nat} {t:TypeId} {cs:Array Value}
theorem Blk.lt (h:Blk w g t cs):g<w.heap.size:=by
 rcases Nat.lt_or_ge g w.heap.size with hlt|hge
 ·exact hlt
 ·unfold Blk at h;rw[Array.getElem?_eq_none hge] at h;cases h
theorem Blk.cell (h:Blk w g t cs) (i:Nat):w.cell? ⟨g,i,none⟩=cs[i]?:=cell_of_row w g i cs t (0,0) h
theorem Blk.frozen (h:Blk w g t cs) (i:Nat):w.frozen? ⟨g,i,none⟩=false:=by
 unfold Blk at h;simp[World.frozen?,h]
theorem Blk.new (w:World) (t:TypeId) (cs:Array Value):Blk (w.alloc (.cells cs t)) w.heap.size t cs:=heap_alloc_new w _
theorem Blk.drew (h:Blk w g t cs):Blk w.drew g t cs:=h
theorem Blk.alloc (h:Blk w g t cs) (o:Obj):Blk (w.alloc o) g t cs:=(Below.heap_alloc w o g h.lt).trans h
theorem Blk.set_ (h:Blk w g t cs) (i:Nat) (u:Value):Blk (w.setCell ⟨g,i,none⟩ u) g t (cs.setIfInBounds i u):=by
 unfold Blk at h ⊢;simp[World.setCell,Array.getElem?_modify,h]
theorem Blk.far (h:Blk w g t cs) {p:Addr} (hp:g≠p.block) (u:Value):Blk (w.setCell p u) g t cs:=(Below.heap_setCell w p u g hp).trans h
theorem Blk.grown {row:Option Nat} (h:Blk w g t cs) (hb:w.grownBy w' row) (hg:some g≠row):Blk w' g t cs:=(hb.block g h.lt hg).trans h
theorem Blk.bl (h:Blk w g t cs) (hb:Bl w w'):Blk w' g t cs:=(Below.block hb g h.lt).trans h
theorem Blk.all1 {x:Value} (h:Blk w g t #[x]):w.cell? ⟨g,0,none⟩=some x∧∀i,w.frozen? ⟨g,i,none⟩=false:=⟨h.cell 0,h.frozen⟩
theorem Blk.all2 {x y:Value} (h:Blk w g t #[x,y]):w.cell? ⟨g,0,none⟩=some x∧w.cell? ⟨g,1,none⟩=some y∧∀i,w.frozen? ⟨g,i,none⟩=false:=⟨h.cell 0,h.cell 1,h.frozen⟩
theorem Blk.all3 {x y z:Value} (h:Blk w g t #[x,y,z]):w.cell? ⟨g,0,none⟩=some x∧w.cell? ⟨g,1,none⟩=some y∧w.cell? ⟨g,2,none⟩=some z∧∀i,w.frozen? ⟨g,i,none⟩=false:=⟨h.cell 0,h.cell 1,h.cell 2,h.frozen⟩
theorem Blk.all4 {x y z u:Value} (h:Blk w g t #[x,y,z,u]):w.cell? ⟨g,0,none⟩=some x∧w.cell? ⟨g,1,none⟩=some y∧w.cell? ⟨g,2,none⟩=some z∧w.cell? ⟨g,3,none⟩=some u∧∀i,w.frozen? ⟨g,i,none⟩=false:=⟨h.cell 0,h.cell 1,h.cell 2,h.cell 3,h.frozen⟩
theorem Blk.all6 {x y z u v t':Value} (h:Blk w g t #[x,y,z,u,v,t']):w.cell? ⟨g,0,none⟩=some x∧w.cell? ⟨g,1,none⟩=some y∧w.cell? ⟨g,2,none⟩=some z∧w.cell? ⟨g,3,none⟩=some u∧w.cell? ⟨g,4,none⟩=some v∧w.cell? ⟨g,5,none⟩=some t'∧∀i,w.frozen? ⟨g,i,none⟩=false:=⟨h.cell 0,h.cell 1,h.cell 2,h.cell 3,h.cell 4,h.cell 5,h.frozen⟩
theorem Blk.reads (h:Blk w g t cs) (n c:Nat) (hn:cs.size=n*c):Reads w c (some ⟨g,0,none⟩) n cs.toList:=
 ⟨by simpa using hn,fun _=>⟨_,rfl,fun j u hu=>by
  have e:(⟨g,0,none⟩:Addr).add j=⟨g,j,none⟩:=(by unfold Addr.add;split<;>simp_all);rw[e,h.cell];simpa using hu⟩⟩
end
theorem sqC:(∀(l:List Value) (i:Nat) (d:Value),l.toArray.getD i d=l.getD i d)∧(∀(x:Value) (l:List Value) (d:Value),(x :: l).getD 0 d=x)∧(∀(x:Value) (l:List Value) (n:Nat) (d:Value),(x :: l).getD (n+1) d=l.getD n d):=
 ⟨fun _ _ _=>by simp,fun _ _ _=>List.getD_cons_zero ..,fun _ _ _ _=>List.getD_cons_succ ..⟩
theorem sqA:(∀(a:Act) (d:Tmp) (v:Value),a.put (some d) v={ a with tmps:=a.tmps.setIfInBounds d v })∧(∀(a:Act) (v:Value),a.put none v=a)∧(∀(l:List Value) (i:Nat) (v:Value),l.toArray.setIfInBounds i v=(l.set i v).toArray)∧(∀(x:Value) (l:List Value) (v:Value),(x :: l).set 0 v=v :: l)∧(∀(x:Value) (l:List Value) (i:Nat) (v:Value),(x :: l).set (i+1) v=x :: l.set i v):=
  ⟨fun _ _ _=>rfl,fun _ _=>rfl,fun _ _ _=>List.setIfInBounds_toArray ..,fun _ _ _=>rfl,fun _ _ _ _=>rfl⟩
section
variable {P:Program} {ops:Array Oper} {Q:Exit→Act→World→Prop} {md:Region.Mode} {cl:Nat→Bool}
def GV (P : Program) (md : Region.Mode) (ops : Array Oper) (Q : Exit → Act → World → Prop) (cl : Nat → Bool) : Nat → Array Bool → Act → World → Prop
 |0,listed,a,w=>Region.ready md ops listed=[]∧Q .normal a w
 |fuel+1,listed,a,w=>
  (Region.ready md ops listed=[]→Q .normal a w) ∧
  ∀i∈Region.ready md ops listed,wpOp P ops Q i (fun a' w'=>(cl i=false→Bl w w')∧GV P md ops Q cl fuel (listed.setIfInBounds i true) a' w') a w
theorem CB : ∀ (fuel : Nat) (listed : Array Bool) (a : Act) (w : World), GV P md ops Q cl fuel listed a w → wpAny P md ops Q fuel listed a w
 |0,_,_,_,h=>h
 |fuel+1,_,_,_,h=>⟨h.1,fun i hi=>wpOp_mono (fun a' w' h'=>CB fuel _ a' w' h'.2) (h.2 i hi)⟩
theorem LF {o:Oper} {v:Value} {a:Act} {w w':World} (h:YieldsIf P ops (Bl w) o v a) (hb:Bl w w'):YieldsIf P ops (Bl w') o v a:=
 h.imp (fun ⟨h1,h2⟩=>⟨h1,fun w'' hb'=>h2 w'' (hb.trans hb')⟩) id
def sQ (md:Region.Mode) (ops:Array Oper) (k:Nat):Nat:=
 match ops[k]? with
 |none=>0
 |some o=>o.after.toList.foldl (fun m e=>if Region.binds md e then m ||| 2 ^ e.on else m) 0
def UY (md : Region.Mode) (ops : Array Oper) : Nat → Nat → Nat
 |0,m=>m
 |k+1,m=>UY md ops k (if m.testBit k then m ||| sQ md ops k else m)
theorem pF (md : Region.Mode) : ∀ (l : List Edge) (m i : Nat), (l.foldl (fun m e => if Region.binds md e then m ||| 2 ^ e.on else m) m).testBit i = true →
 m.testBit i=true∨∃e∈l,Region.binds md e=true∧e.on=i
 |[],m,i,h=>.inl h
 |e :: l,m,i,h=>by
  rcases pF md l _ i h with h' | ⟨e',he',hb⟩
  ·dsimp only at h'
   by_cases hb:Region.binds md e=true
   ·rw[if_pos hb,Nat.testBit_or,Bool.or_eq_true] at h';rcases h' with h' | h'
    ·exact .inl h'
    ·rw[Nat.testBit_two_pow] at h';exact .inr ⟨e,by simp,hb,by simpa using h'⟩
   ·rw[if_neg hb] at h';exact .inl h'
  ·exact .inr ⟨e',by simp[he'],hb⟩
theorem xS {D : Nat → Prop} (hD : ∀ k o, ops[k]? = some o → D k → ∀ e ∈ o.after, Region.binds md e = true → D e.on) : ∀ (k m : Nat), (∀ i, m.testBit i = true → D i) → ∀ i, (UY md ops k m).testBit i = true → D i
 |0,m,h,i,hi=>h i hi
 |k+1,m,h,i,hi=>by
  refine xS hD k _ ?_ i hi;intro i' hi';split at hi'
  ·rename_i hk
   rw[Nat.testBit_or,Bool.or_eq_true] at hi';rcases hi' with hi' | hi'
   ·exact h i' hi'
   ·unfold sQ at hi';cases ho:ops[k]? with
    |none=>simp[ho] at hi'
    |some o=>
     simp only[ho] at hi';rcases pF md _ _ _ hi' with h0|⟨e,he,hb,rfl⟩
     ·simp at h0
     ·exact hD k o ho (h k hk) e (by simpa using he) hb
  ·exact h i' hi'
theorem ED {D:Nat→Prop} {j:Nat} {oj:Oper} (hj:ops[j]? = some oj) (h:∀e∈oj.after,Region.binds md e=true→D e.on):∀i,(sQ md ops j).testBit i=true→D i:=by
 intro i hi;unfold sQ at hi;simp only[hj] at hi;rcases pF md _ _ _ hi with h0|⟨e,he,hb,rfl⟩
 ·simp at h0
 ·exact h e (by simpa using he) hb
def EE (md:Region.Mode) (ops:Array Oper) (i j:Nat):Bool:=(UY md ops ops.size (sQ md ops j)).testBit i
def DownClosed (md:Region.Mode) (ops:Array Oper) (listed:Array Bool):Prop:=
 ∀k o,ops[k]? = some o→listed.getD k true=true→∀e∈o.after,Region.binds md e=true→listed.getD e.on false=true
theorem EF {listed:Array Bool} (hdc:DownClosed md ops listed) (hsz:listed.size=ops.size) {i j:Nat} (hj:j∈Region.ready md ops listed) (hp:EE md ops i j=true):listed.getD i false=true:=by
 obtain ⟨_,oj,hoj,gA⟩:=mem_ready.1 hj;refine xS (D:=fun k=>listed.getD k false=true) (ops:=ops) (md:=md) ?_ _ _ (ED hoj (fun e he hb=>gA e he hb)) i hp;intro k o ho hk e he hb;refine hdc k o ho ?_ e he hb;have hlt:=(Array.getElem?_eq_some_iff.1 ho).1;simp[show k<listed.size by omega] at hk ⊢;exact hk
theorem DownClosed.set {listed:Array Bool} (h:DownClosed md ops listed) {j:Nat} (hj:j∈Region.ready md ops listed):DownClosed md ops (listed.setIfInBounds j true):=by
 obtain ⟨_,oj,hoj,gA⟩:=mem_ready.1 hj;have up:∀k,listed.getD k false=true→(listed.setIfInBounds j true).getD k false=true:=by
  intro k hk;by_cases e:j=k
  ·subst e;rcases Nat.lt_or_ge j listed.size with hl|hl
   ·simp[hl]
   ·simp[Array.getElem?_eq_none hl] at hk
  ·rw[getD_set_ne false e];exact hk
 intro k o ho hk e he hb;by_cases ek:j=k
 ·subst ek;rw[ho] at hoj;obtain rfl:=Option.some.inj hoj;exact up _ (gA e he hb)
 ·rw[getD_set_ne true ek] at hk;exact up _ (h k o ho hk e he hb)
theorem GW {i : Nat} {oi : Oper} {v : Value} (hi : ops[i]? = some oi) (aEO : ∀ (j : Nat) (o : Oper) cs b, ops[j]? = some o → o.op ≠ .select cs b)
 (hQ:∀c a w,Q (.panic c) (a.put oi.dst v) w→Q (.panic c) a w) :
 ∀ (fuel : Nat) (listed : Array Bool) (a : Act) (w : World), listed.size = ops.size → DownClosed md ops listed →
  (∀j oj,ops[j]? = some oj→j≠i→listed.getD j true=false→cl j=true→EE md ops i j=true) →
  (∀j oj,ops[j]? = some oj→j≠i→listed.getD j true=false→(∀e∈oj.after,Region.binds md e=true→e.on≠i)→oi.apart ops oj=true) →
  i∈Region.ready md ops listed→YieldsIf P ops (Bl w) oi v a →
  GV P md ops Q cl fuel (listed.setIfInBounds i true) (a.put oi.dst v) w→GV P md ops Q cl (fuel+1) listed a w:=by
 intro fuel;induction fuel with
 |zero=>
  intro listed a w _ _ _ _ hr hy H;refine ⟨fun h=>(by rw[h] at hr;cases hr),fun j hj => ?_⟩;by_cases hji:j=i
  ·subst hji;exact hy.wpOp hi (Bl.refl w) ⟨fun _=>Bl.refl w,H⟩
  ·have:=ready_mono hj hji;rw[H.1] at this;cases this
 |succ fuel ih=>
  intro listed a w hsz hdc aH6 ZD hr hy H;refine ⟨fun h=>(by rw[h] at hr;cases hr),fun j hj => ?_⟩;by_cases hji:j=i
  ·subst hji;exact hy.wpOp hi (Bl.refl w) ⟨fun _=>Bl.refl w,H⟩
  ·have h1:=H.2 j (ready_mono hj hji);obtain ⟨aD8,oj,hoj,gA⟩:=mem_ready.1 hj;have aFM:listed.getD i false=false:=by
    have h0:=(mem_ready.1 hr).1;rcases Nat.lt_or_ge i listed.size with h' | h'
    ·simp[h'] at h0 ⊢;exact h0
    ·simp[Array.getElem?_eq_none h']
   have aGH:∀e∈oj.after,Region.binds md e=true→e.on≠i:=fun e he hb heq=>by
    have h1:=gA e he hb;rw[heq,aFM] at h1;cases h1
   have hcj:cl j=false:=by
    cases hc:cl j with
    |false=>rfl
    |true=>have:=EF hdc hsz hj (aH6 j oj hoj hji aD8 hc);rw[aFM] at this;cases this
   have h2:=wpOp_putIf hoj (ZD j oj hoj hji aD8 aGH) (fun cs b=>aEO i oi cs b hi) (fun cs b=>aEO j oj cs b hoj) hQ hy h1;have aFN:∀k,(listed.setIfInBounds j true).getD k true=false→listed.getD k true=false:=fun k hun=>by
    by_cases hjk:j=k
    ·subst hjk;exact aD8
    ·rw[getD_set_ne true hjk] at hun;exact hun
   refine wpOp_mono (fun a' w' h3 => ⟨h3.2.1, ih (listed.setIfInBounds j true) a' w' (by simpa using hsz) (hdc.set hj) (fun k ok hk hki hun hc => aH6 k ok hk hki (aFN k hun) hc)
    (fun k ok hk hki hun hno=>ZD k ok hk hki (aFN k hun) hno) (ready_mono hr (Ne.symm hji)) (LF h3.1 (h3.2.1 hcj)) ?_⟩) h2
   rw[Array.setIfInBounds_comm _ _ hji];exact h3.2.2
def Flow (P : Program) (ops : Array Oper) (Q : Exit → Act → World → Prop) (cl : Nat → Bool) : List (Bool × Nat) → Act → World → Prop
 |[],a,w=>Q .normal a w
 |(true,i) :: σ,a,w=>∃o v,ops[i]? = some o∧YieldsIf P ops (Bl w) o v a∧Flow P ops Q cl σ (a.put o.dst v) w
 |(false,i) :: σ,a,w=>wpOp P ops Q i (fun a' w'=>(cl i=false→Bl w w')∧Flow P ops Q cl σ a' w') a w
def xT (md : Region.Mode) (ops : Array Oper) (cl : Nat → Bool) : List (Bool × Nat) → Array Bool → Bool
 |[],listed=>(Region.ready md ops listed).isEmpty
 |(true, i) :: σ, listed => (Region.ready md ops listed).contains i && Region.free md ops listed i &&
     ((List.range ops.size).all fun j=>j==i||listed.getD j true||!cl j||EE md ops i j)&&xT md ops cl σ (listed.setIfInBounds i true)
 |(false,i) :: σ,listed=>Region.ready md ops listed==[i]&&xT md ops cl σ (listed.setIfInBounds i true)
theorem QS (hs:Region.noSelect ops=true) (hQ:∀c a d v w,Q (.panic c) (Act.put a d v) w→Q (.panic c) a w) :
 ∀ (σ : List (Bool × Nat)) (fuel : Nat) (listed : Array Bool) (a : Act) (w : World), listed.size = ops.size → DownClosed md ops listed → σ.length ≤ fuel → xT md ops cl σ listed = true →
  Flow P ops Q cl σ a w→GV P md ops Q cl fuel listed a w:=by
 intro σ;induction σ with
 |nil=>
  intro fuel listed a w _ _ _ hok h;have hr:Region.ready md ops listed=[]:=(by simpa [xT] using hok);cases fuel with
  |zero=>exact ⟨hr,h⟩
  |succ fuel=>exact ⟨fun _=>h,fun i hi=>by rw[hr] at hi;cases hi⟩
 |cons s σ ih=>
  obtain ⟨b,i⟩:=s;intro fuel listed a w hsz hdc hf hok h;cases fuel with
  |zero=>simp at hf
  |succ fuel=>
   have hf':σ.length≤fuel:=(by simpa using hf);cases b with
   |true=>simp only[xT,Bool.and_eq_true] at hok;obtain ⟨⟨⟨h1,h2⟩,h3⟩,h4⟩:=hok;obtain ⟨o,v,ho,hy,hfl⟩:=h;have hir:i∈Region.ready md ops listed:=(by simpa using h1);refine GW ho (Region.noSelect_spec hs) (fun c a w=>hQ c a o.dst v w) fuel listed a w hsz hdc ?_ (Region.free_spec ho h2) hir hy (ih fuel _ _ _ (by simpa using hsz) (hdc.set hir) hf' h4 hfl);intro j oj hj hji hun hc;simp only[List.all_eq_true,List.mem_range] at h3;have h5:=h3 j (Array.getElem?_eq_some_iff.1 hj).1;simpa only[hc,hun,Bool.or_eq_true,beq_iff_eq,hji,Bool.not_true,Bool.false_eq_true,false_or] using h5
   |false=>simp only[xT,Bool.and_eq_true,beq_iff_eq] at hok;obtain ⟨h1,h4⟩:=hok;refine ⟨fun h0=>(by rw[h0] at h1;cases h1),fun j hj => ?_⟩;have hj0:=hj;rw[h1] at hj;obtain rfl:=List.mem_singleton.1 hj;exact wpOp_mono (fun a' w' h'=>⟨h'.1,ih fuel _ _ _ (by simpa using hsz) (hdc.set hj0) hf' h4 h'.2⟩) h
theorem oM:DownClosed md ops (Array.replicate ops.size false):=by
 intro k o ho hk;have hlt:=(Array.getElem?_eq_some_iff.1 ho).1;simp[hlt] at hk
theorem nT {Q:Exit→Act→World→Prop}:∀c a d v w,NoPanic Q (.panic c) (Act.put a d v) w→NoPanic Q (.panic c) a w:=fun _ _ _ _ _ h=>h
theorem aA {id : Nat} {a : Act} {w : World} (σ : List (Bool × Nat)) (cl : Nat → Bool) (hm : P.follows .mixedOrders = true) (hs : Region.noSelect ops = true)
 (hl:decide (σ.length≤ops.size)=true) (hok:xT .any ops cl σ (Array.replicate ops.size false)=true)
 (h:Flow P ops (NoPanic Q) cl σ a w.drew):(Code.region id ops true).wp P Q a w:=
 wp_region_noPanic (wp_region_any hm (CB _ _ _ _ (QS hs nT σ _ _ _ _ (by simp) oM (of_decide_eq_true hl) hok h)))
theorem arr_getD (l:List Value) (i:Nat) (d:Value):l.toArray.getD i d=l.getD i d:=by simp
section
variable {l:List Oper}
theorem Flow.calm {i : Nat} {o : Oper} {σ : List (Bool × Nat)} {a : Act} {w : World} (v : Value) (ho : l[i]? = some o) (hg : o.guard = none)
 (hr:∀w',Bl w w'→(execOp a.eval o).run P w'=.ok (.value v) w') (h:Flow P l.toArray Q cl σ (a.put o.dst v) w):Flow P l.toArray Q cl ((true,i) :: σ) a w:=
 ⟨o,v,by simpa using ho,.inl ⟨by simp[Region.wanted,hg],hr⟩,h⟩
theorem Flow.calm2 {i : Nat} {o : Oper} {σ : List (Bool × Nat)} {a : Act} {w : World} (v : Value) (a' : Act) (ho : l[i]? = some o) (hg : o.guard = none)
 (hr:∀w',Bl w w'→∀K:Result Next→Prop,K (.ok (.value v) w')→K ((execOp a.eval o).run P w')) (ha:∀K:Act→Prop,K a'→K (a.put o.dst v))
 (h:Flow P l.toArray Q cl σ a' w):Flow P l.toArray Q cl ((true,i) :: σ) a w:=
 Flow.calm v ho hg (fun w' hb=>hr w' hb (fun r=>r=.ok (.value v) w') rfl) (ha (fun x=>Flow P l.toArray Q cl σ x w) h)
theorem Flow.mv {i : Nat} {d : Option Tmp} {x : Operand} {ty : TypeId} {ps : String} {af : Array Edge} {σ : List (Bool × Nat)} {a : Act} {w : World} (a' : Act) (ho : l[i]? = some ⟨d, .move x, ty, ps, af, none⟩)
 (ha:∀K:Act→Prop,K a'→K (a.put d (a.eval x))) (h:Flow P l.toArray Q cl σ a' w):Flow P l.toArray Q cl ((true,i) :: σ) a w:=
 Flow.calm (a.eval x) ho rfl (fun w' _=>by simp[execOp]) (ha (fun x=>Flow P l.toArray Q cl σ x w) h)
theorem Flow.asg {i : Nat} {d : Option Tmp} {x : Operand} {ty : TypeId} {ps : String} {af : Array Edge} {σ : List (Bool × Nat)} {a : Act} {w : World} (a' : Act) (ho : l[i]? = some ⟨d, .assign x, ty, ps, af, none⟩)
 (ha:∀K:Act→Prop,K a'→K (a.put d (a.eval x))) (h:Flow P l.toArray Q cl σ a' w):Flow P l.toArray Q cl ((true,i) :: σ) a w:=
 Flow.calm (a.eval x) ho rfl (fun w' _=>by simp[execOp]) (ha (fun x=>Flow P l.toArray Q cl σ x w) h)
theorem Flow.calmG {i : Nat} {o : Oper} {σ : List (Bool × Nat)} {a : Act} {w : World} (v : Value) (ho : l[i]? = some o) (hg : Region.wanted o (yielded l.toArray a.tmps) = true)
 (hr:∀w',Bl w w'→(execOp a.eval o).run P w'=.ok (.value v) w') (h:Flow P l.toArray Q cl σ (a.put o.dst v) w):Flow P l.toArray Q cl ((true,i) :: σ) a w:=
 ⟨o,v,by simpa using ho,.inl ⟨hg,hr⟩,h⟩
theorem Flow.pass {i : Nat} {o : Oper} {σ : List (Bool × Nat)} {a : Act} {w : World} (ho : l[i]? = some o) (hg : Region.wanted o (yielded l.toArray a.tmps) = false)
 (h:Flow P l.toArray Q cl σ (a.put o.dst undef) w):Flow P l.toArray Q cl ((true,i) :: σ) a w:=
 ⟨o,undef,by simpa using ho,.inr ⟨hg,rfl⟩,h⟩
theorem Flow.move {i : Nat} {o : Oper} {σ : List (Bool × Nat)} {a : Act} {w : World} (ho : l[i]? = some o)
 (h:wpList P l.toArray (Exit.then (fun a' w'=>(cl i=false→Bl w w')∧Flow P l.toArray Q cl σ a' w') Q) [o] a w):Flow P l.toArray Q cl ((false,i) :: σ) a w:=by
 have ho':l.toArray[i]? = some o:=(by simpa using ho);simp only[Flow,wpOp,ho'];simp only[wpList] at h;exact h
end
def xU (ops : Array Oper) (cl : Nat → Bool) : List (Bool × Nat) → Option (List Oper)
 |[]=>some []
 |(b,i) :: σ=>if !b&&cl i then (ops[i]?).bind fun o=>(xU ops cl σ).map (o :: ·) else none
theorem EG:∀(σ:List (Bool × Nat)) (l:List Oper) (a:Act) (w:World),xU ops cl σ=some l→wpList P ops Q l a w→Flow P ops Q cl σ a w:=by
 intro σ;induction σ with
 |nil=>intro l a w hl h;simp[xU] at hl;subst hl;exact h
 |cons s σ ih=>
  obtain ⟨b,i⟩:=s;intro l a w hl h;simp only[xU] at hl;split at hl
  ·rename_i hb
   simp only[Bool.and_eq_true,Bool.not_eq_true'] at hb;obtain ⟨rfl,hc⟩:=hb;cases ho:ops[i]? with
   |none=>simp[ho] at hl
   |some o=>
    simp only[ho,Option.bind_some,Option.map_eq_some_iff] at hl;obtain ⟨l',hl',rfl⟩:=hl;have h':wpOp P ops Q i (wpList P ops Q l') a w:=by
     unfold wpOp;simp only[ho];exact h
    exact wpOp_mono (fun a' w' h''=>⟨fun hc'=>absurd (hc.symm.trans hc') (by decide),ih l' a' w' hl' h''⟩) h'
  ·cases hl
theorem Flow.tail {σ : List (Bool × Nat)} (l : List Oper) {a : Act} {w : World} (hl : xU ops cl σ = some l)
 (h:wpList P ops (Exit.then (fun a' w'=>Q .normal a' w') (NoPanic Q)) l a w):Flow P ops (NoPanic Q) cl σ a w:=by
 have e:(Exit.then (fun a' w'=>Q .normal a' w') (NoPanic Q))=NoPanic Q:=by
  funext e a w
  cases e<;>rfl
 rw[e] at h;exact EG σ l a w hl h
theorem Flow.done {a:Act} {w:World} (h:Q .normal a w):Flow P ops (NoPanic Q) cl [] a w:=h
end
def inB (n lo hi:Int):Bool:=decide (lo≤n)&&decide (n≤hi)
theorem aR {n lo hi:Int}:inB n lo hi=true↔lo≤n∧n≤hi:=by simp[inB]
theorem dC {n lo hi:Int}:inB n lo hi=false↔n<lo∨hi<n:=by simp[inB];omega
def aF (b:Bool) (e:Int):Int:=if b then e else 0
def aE (W H:Int):Int:=if 1≤W∧W≤4000∧1≤H∧H≤4000 then (if W*H>1048576 then 4 else 0) else 3
def aD (W H:Int) (n:Nat):Int:=if aE W H=0 then (if (n:Int)=W*H then 0 else 2) else aE W H
def aG : List Int → Int
 |[]=>0
 |e :: es=>if e=0 then aG es else e
theorem aBZ {W H:Int} (h1:1≤W) (h2:W≤4000) (h3:1≤H) (h4:H≤4000):1≤W*H∧W*H≤16000000:=by
 have a:=Int.mul_le_mul h1 h3 (by omega) (by omega);have b:=Int.mul_le_mul h2 h4 (by omega) (by omega);omega
theorem d9 (W H:Int) (w:World) :
 Calls Tryz.prog 102 #[.int .i64 W,.int .i64 H] w fun e w'=>e=.returned (.int .i64 (aE W H))∧w=w':=by
 by_cases h1:1≤W
 ·by_cases h2:W≤4000
  ·by_cases h3:1≤H
   ·by_cases h4:H≤4000
    ·have hm:=aBZ h1 h2 h3 h4;by_cases h5:W*H>1048576
     ·have hs:aE W H=4:=(by unfold aE;rw[if_pos ⟨h1,h2,h3,h4⟩,if_pos h5]);have Hs:=Lib.hid hs;clear hs
      go_in
      go_wp2
      go_ret;exact ⟨gB Hs.out.symm,rfl⟩
     ·have hs:aE W H=0:=(by unfold aE;rw[if_pos ⟨h1,h2,h3,h4⟩,if_neg h5]);have Hs:=Lib.hid hs;clear hs
      go_in
      go_wp2
      go_ret;exact ⟨gB Hs.out.symm,rfl⟩
    ·have hs:aE W H=3:=(by unfold aE;rw[if_neg (by omega)]);have Hs:=Lib.hid hs;clear hs
     go_in
     go_wp2
     go_ret;exact ⟨gB Hs.out.symm,rfl⟩
   ·have hs:aE W H=3:=(by unfold aE;rw[if_neg (by omega)]);have Hs:=Lib.hid hs;clear hs
    go_in
    go_wp2
    go_ret;exact ⟨gB Hs.out.symm,rfl⟩
  ·have hs:aE W H=3:=(by unfold aE;rw[if_neg (by omega)]);have Hs:=Lib.hid hs;clear hs
   go_in
   go_wp2
   go_ret;exact ⟨gB Hs.out.symm,rfl⟩
 ·have hs:aE W H=3:=(by unfold aE;rw[if_neg (by omega)]);have Hs:=Lib.hid hs;clear hs
  go_in
  go_wp2
  go_ret;exact ⟨gB Hs.out.symm,rfl⟩
theorem aL {W H:Int} (h:aE W H=0):1≤W∧W≤4000∧1≤H∧H≤4000∧W*H≤1048576:=by
 unfold aE at h;split at h
 ·split at h
  ·omega
  ·rename_i a b;exact ⟨a.1,a.2.1,a.2.2.1,a.2.2.2,by omega⟩
 ·omega
theorem fC {W H:Int} {n:Nat} (h:aD W H n=0):aE W H=0∧(n:Int)=W*H:=by
 unfold aD at h;split at h
 ·rename_i a
  refine ⟨a,?_⟩;split at h
  ·assumption
  ·omega
 ·contradiction
theorem bM (W H:Int) (A:Option Addr) (n c:Nat) (w:World) :
 Calls Tryz.prog 101 #[.agg #[.int .i64 W,.int .i64 H,.slice A n c]] w fun e w'=>e=.returned (.int .i64 (aD W H n))∧Bl w w':=by
 by_cases h:aE W H=0
 ·have hz:=aL h;have hm:=aBZ hz.1 hz.2.1 hz.2.2.1 hz.2.2.2.1;have hp:aD W H n=if (n:Int)=W*H then 0 else 2:=(by unfold aD;rw[if_pos h]);by_cases h5:(n:Int)=W*H
  ·rw[if_pos h5] at hp;have hq:((n:Int) != W*H)=false:=(by simp[h5]);have H5:=Lib.hid h5;clear h5;have Hp:=Lib.hid hp;clear hp
   go_in
   go_wp2_with (go_at_call 102;refine (d9 _ _ _).mono ?_;rintro e w' ⟨rfl,rfl⟩);go_ret;exact ⟨gB Hp.out.symm,(Bl.refl _).alloc _⟩
  ·rw[if_neg h5] at hp;have hq:((n:Int) != W*H)=true:=(by simp[h5]);have H5:=Lib.hid h5;clear h5;have Hp:=Lib.hid hp;clear hp
   go_in
   go_wp2_with (go_at_call 102;refine (d9 _ _ _).mono ?_;rintro e w' ⟨rfl,rfl⟩);go_ret;exact ⟨gB Hp.out.symm,(Bl.refl _).alloc _⟩
 ·have hp:aD W H n=aE W H:=(by unfold aD;rw[if_neg h]);have hq:(aE W H != 0)=true:=(by simp[h]);have Hp:=Lib.hid hp;clear hp h
  go_in
  go_wp2_with (go_at_call 102;refine (d9 _ _ _).mono ?_;rintro e w' ⟨rfl,rfl⟩);go_ret;exact ⟨gB Hp.out.symm,(Bl.refl _).alloc _⟩
theorem fG {W H:Int} {n:Nat} (h:aD W H n=0):∃W' H':Nat,W=(W':Int)∧H=(H':Int)∧n=W'*H'∧W'≤4000∧H'≤4000∧W'*H'≤1048576:=by
 obtain ⟨hs,hn⟩:=fC h;have hz':=aL hs;obtain ⟨W,rfl⟩:=Int.eq_ofNat_of_zero_le (show 0≤W by omega);obtain ⟨H,rfl⟩:=Int.eq_ofNat_of_zero_le (show 0≤H by omega);have:=Int.natCast_mul W H;exact ⟨W,H,rfl,rfl,by omega,by omega,by omega,by omega⟩
def oN (a b:Int):Int:=(2*a+b) / (2*b)
theorem Z5 (a b:Int) (hb:1≤b) (ha:a<0):(a.tdiv b=a / b∧a.tmod b=0∧a / b*b=a)∨(a.tdiv b=a / b+1∧a.tmod b<0∧a / b*b<a):=by
 have h1:=Int.mul_tdiv_add_tmod a b;have h2:=Int.mul_ediv_add_emod a b;have h3:=Int.emod_nonneg a (show b≠0 by omega);have h4:=Int.emod_lt_of_pos a (show 0<b by omega);have hc:b*(a / b)=a / b*b:=Int.mul_comm _ _;rw[Int.tdiv_eq_ediv,Int.tmod_eq_emod] at *;by_cases hd:b ∣ a
 ·left;have:a % b=0:=Int.emod_eq_zero_of_dvd hd;simp[hd,this];omega
 ·right;have hne:a % b≠0:=fun e=>hd (Int.dvd_of_emod_eq_zero e);have hna:¬(0≤a):=(by omega);have hs:b.sign=1:=Int.sign_eq_one_of_pos (by omega);have hab:(b.natAbs:Int)=b:=(by omega);simp[hd,hna,hs,hab];omega
theorem aEl (a b:Int) (hb:1≤b) (h1:-1099511627776≤a) (h2:a≤1099511627776):-1099511627776≤a / b∧a / b≤1099511627776:=by
 constructor
 ·exact Int.le_trans (by omega) (Int.le_ediv_of_mul_le (by omega) (show -1099511627776*b≤a by omega))
 ·exact Int.ediv_le_of_le_mul (by omega) (by omega)
theorem UZ (a b:Int) (w:World) (h1:-1099511627776≤a) (h2:a≤1099511627776) (h3:1≤b) (h4:b≤1099511627776) :
 Calls Tryz.prog 342 #[.int .i64 a,.int .i64 b] w fun e w'=>e=.returned (.int .i64 (a / b))∧w=w':=by
 obtain ⟨hb1,hb2⟩:=aEl a b h3 h1 h2;by_cases ha:0≤a
 ·have hm:=Int.emod_nonneg a (show b≠0 by omega)
  go_in
  go_wp2
  go_ret;exact ⟨rfl,rfl⟩
 ·rcases Z5 a b h3 (by omega) with ⟨ht,hm,_⟩|⟨ht,hm,_⟩
  ·go_in
   go_wp2
   go_ret;exact ⟨gB (by omega),rfl⟩
  ·go_in
   go_wp2
   go_ret;exact ⟨gB (by omega),rfl⟩
theorem xV (a b:Int) (w:World) (h1:-274877906944≤a) (h2:a≤274877906944) (h3:1≤b) (h4:b≤274877906944) :
 Calls Tryz.prog 325 #[.int .i64 a,.int .i64 b] w fun e w'=>e=.returned (.int .i64 (oN a b))∧w=w':=by
 go_in
 go_wp2_with (go_at_call 342;refine (UZ _ _ _ (by omega) (by omega) (by omega) (by omega)).mono ?_;rintro e w' ⟨rfl,rfl⟩);go_ret;exact ⟨rfl,rfl⟩
theorem sR:(Tryz.prog.info? 3).map (fun i=>(i.zero,i.size,i.bytes))=some (some (.int .i64 0),1,8):=by kernel_rfl
theorem sS:(Tryz.prog.info? 4).map (fun i=>(i.zero,i.size,i.bytes))=some (some (.bool false),1,1):=by kernel_rfl
theorem LG:(Tryz.prog.info? 5).map (fun i=>(i.zero,i.size,i.bytes))=some (some (.int .u8 0),1,1):=by kernel_rfl
theorem Z6 {a b y:Nat} (h:y<b):y*a+a≤b*a:=by
 have:=Nat.mul_le_mul_right a (show y+1≤b from h);rw[Nat.add_mul,Nat.one_mul] at this;exact this
theorem uE {w:World} {base:Nat} {e:TypeId} {size n:Nat} {v:Value} {xs:List Value} (h:w.ownsRow base e size v n xs):∃A c,v=.slice A n c∧Reads w size A n xs∧∀ad,A=some ad→base≤ad.block:=by
 rcases h.2 with ⟨rfl,rfl⟩|⟨g,cap,cur,rfl,hb,hg,hn,hc,hs,ht⟩
 ·exact ⟨none,0,rfl,⟨h.1,fun hk=>absurd hk (by omega)⟩,fun _ h=>by cases h⟩
 ·exact ⟨_,_,rfl,⟨h.1,fun _=>⟨_,rfl,h.cells (g:=g) rfl⟩⟩,fun ad h=>by injection h with h;subst h;exact hb⟩
theorem cU {w:World} {base:Nat} {e:TypeId} {size n:Nat} {v:Value} {xs:List Value} (h:w.ownsRow base e size v n xs):∃A c,v=.slice A n c∧Reads w size A n xs:=by
 rcases h.2 with ⟨rfl,rfl⟩|⟨g,cap,cur,rfl,hb,hg,hn,hc,hs,ht⟩
 ·exact ⟨none,0,rfl,h.1,fun hk=>absurd hk (by omega)⟩
 ·exact ⟨_,_,rfl,h.1,fun _=>⟨_,rfl,h.cells (g:=g) rfl⟩⟩
theorem fX {w w':World} {base:Nat} {e:TypeId} {size n:Nat} {v:Value} {xs:List Value} (h:w.ownsRow base e size v n xs) (hb:Bl w w'):w'.ownsRow base e size v n xs:=by
 refine ⟨h.1,?_⟩;rcases h.2 with h2|⟨g,cap,cur,hv,hg,hh,r⟩
 ·exact .inl h2
 ·exact .inr ⟨g,cap,cur,hv,hg,(Below.block hb g (Array.getElem?_eq_some_iff.1 hh).1).trans hh,r⟩
theorem Reads.lit {w:World} {g:Nat} {t:TypeId} {cs:Array Value} {n:Nat} (h:Blk w g t cs) (hn:cs.size=n):Reads w 1 (some ⟨g,0,none⟩) n cs.toList:=h.reads n 1 (by simpa using hn)
section
variable {P:Program}
theorem aQ {w1 wr : World} {ops : Array Oper} {rest : List Oper} {o : Oper} {a : Act} {Q : Exit → Act → World → Prop} (hgd : o.guard = none) (s x : Operand) (t : TypeId)
 (ho:o.op=.call { callee:=.builtin .append,args:=#[s,x],argTypes:=#[t,t] })
 (e:TypeId) (z:Value) (size bytes:Nat) (ht:P.underlying t=some (.slice e)) (hi:(P.info? e).map (fun i=>(i.zero,i.size,i.bytes))=some (some z,size,bytes))
 (hzs:z.cells.size=size) (hsz:0<size) (B:Nat)
 (v:Value) (n:Nat) (xs:List Value) (hs:a.eval s=v) (hb:Bl w1 wr) (hB:w1.heap.size≤B) (hBr:B≤wr.heap.size) (cA:wr.ownsRow B e size v n xs)
 (A:Option Addr) (m c:Nat) (news:List Value) (hx:a.eval x=.slice A m c) (hr:Reads wr size A m news) (h1:∀u∈news,u.oneCell'=true)
 (h63:n+m≤maxLen) (K1:(n+m)*bytes≤140737488355328)
 (h:∀v' w',w'.ownsRow B e size v' (n+m) (xs++news)→Bl w1 w'→wr.grownBy w' v.ownBlock→wpList P ops Q rest (a.put o.dst v') w'):wpList P ops Q (o :: rest) a wr:=by
 obtain ⟨i,hi',hz,aDC,hby⟩:=info_parts hi;refine wpList_plain hgd fun K hK => ?_;have main:∃v' w',(Builtin.append_ #[t,t] o.type #[v,.slice A m c]).run P wr=.ok v' w'∧w'.ownsRow B e size v' (n+m) (xs++news)∧wr.grownBy w' v.ownBlock:=by
  rcases A with _|ad
  ·have hm:m=0:=by
    rcases Nat.eq_zero_or_pos m with h0|h0
    ·exact h0
    ·obtain ⟨ad,h,_⟩:=hr.2 h0;cases h
   subst hm;have hn:news=[]:=List.eq_nil_of_length_eq_zero (by simpa using hr.1);subst hn;refine ⟨v,wr,?_,by simpa using cA,World.grownBy.refl wr _⟩;rcases cA.2 with ⟨rfl,rfl⟩|⟨g,cap,cur,rfl,_,_,hnc,_⟩
   ·simp[Builtin.append_,run_underlying ht,sizeOf,typeInfo,hi',Builtin.lenOf,Builtin.firstCells]
   ·simp[Builtin.append_,run_underlying ht,sizeOf,typeInfo,hi',Builtin.lenOf,Builtin.firstCells,hnc,storeCells]
  ·have QI:∀j u,news[j]? = some u→wr.cell? (ad.add j)=some u:=by
    intro j u hu;rcases Nat.eq_zero_or_pos m with h0|h0
    ·subst h0;have hn:news=[]:=List.eq_nil_of_length_eq_zero (by simpa using hr.1);subst hn;simp at hu
    ·obtain ⟨ad',h,hc⟩:=hr.2 h0;injection h with h;subst h;exact hc j u hu
   obtain ⟨v',w',aEP,h2,h3,_⟩:=run_append_own (P:=P) wr B t o.type e i z size bytes ht hi' hz aDC hby hzs hsz v n xs cA ad m c news hr.1 QI h1 h63 K1 hBr;exact ⟨v',w',aEP,h2,h3⟩
 obtain ⟨v',w',aEP,h2,h3⟩:=main;have hbl:Bl w1 w':=Below.grown hb h3 (Nat.le_trans hB hBr) (fun k hk=>Nat.le_trans hB (cA.lt k hk).1);unfold Oper.wp execOp;simp only[ho,resolve,invoke,builtin,Sem.run_bind,Sem.run_pure,Result.andThen_ok,List.map_toArray,List.map_cons,List.map_nil,hs,hx,aEP];exact hK _ _ (h v' w' h2 hbl h3)
theorem dJ {w1 wr : World} {ops : Array Oper} {rest : List Oper} {o : Oper} {a : Act} {Q : Exit → Act → World → Prop} (hgd : o.guard = none) (s x : Operand) (t : TypeId)
 (ho:o.op=.call { callee:=.builtin .append,args:=#[s,x],argTypes:=#[t,t] })
 (e:TypeId) (z:Value) (bytes:Nat) (ht:P.underlying t=some (.slice e)) (hi:(P.info? e).map (fun i=>(i.zero,i.size,i.bytes))=some (some z,1,bytes))
 (hzs:z.cells.size=1) (B:Nat)
 (v:Value) (n:Nat) (xs:List Value) (hs:a.eval s=v) (u:Value) (hx:a.eval x=.slice (some ⟨wr.heap.size,0,none⟩) 1 1) (h1:u.oneCell'=true)
 (hb:Bl w1 wr) (hB:w1.heap.size≤B) (hBr:B≤wr.heap.size) (cA:wr.ownsRow B e 1 v n xs)
 (K1:(n+1)*bytes≤140737488355328) (h63:n+1≤maxLen)
 (h:∀v' w',w'.ownsRow B e 1 v' (n+1) (xs++[u])→Bl w1 w'→(wr.alloc (.cells #[u] e)).grownBy w' v.ownBlock→wpList P ops Q rest (a.put o.dst v') w'):wpList P ops Q (o :: rest) a (wr.alloc (.cells #[u] e)):=
 aQ hgd s x t ho e z 1 bytes ht hi hzs (by omega) B v n xs hs (hb.alloc _) hB (by simp; omega) (cA.alloc _) _ 1 1 [u] hx (Reads.lit (Blk.new _ _ _) rfl)
  (fun y hy=>by rw[List.mem_singleton.1 hy];exact h1) h63 K1 h
end
def eS {α:Type} (W H:Nat) (f:Nat→Nat→α):List α:=(List.range (W*H)).map fun i=>f (i % W) (i / W)
theorem fI {α:Type} (W H:Nat) (f:Nat→Nat→α):(eS W H f).length=W*H:=by simp[eS]
theorem uF {α:Type} (W H:Nat) (f:Nat→Nat→α) (i:Nat) (h:i<W*H):(eS W H f)[i]? = some (f (i % W) (i / W)):=by simp[eS,h]
theorem qC {α:Type} (W H:Nat) (f g:Nat→Nat→α) (h:∀x y,x<W→y<H→f x y=g x y):eS W H f=eS W H g:=by
 unfold eS;apply List.map_congr_left;intro i hi;have hi':i<W*H:=(by simpa using hi);have hW:0<W:=(by rcases Nat.eq_zero_or_pos W with h0|h0;(subst h0;simp at hi');exact h0);exact h _ _ (Nat.mod_lt _ hW) (Nat.div_lt_of_lt_mul hi')
def IsPage (w:World) (v:Value) (W H:Nat) (cells:List Value):Prop:=∃A c,v=.agg #[.int .i64 W,.int .i64 H,.slice A (W*H) c]∧Reads w 1 A (W*H) cells
theorem IsPage.bl {w w':World} {v:Value} {W H:Nat} {cells:List Value} (h:IsPage w v W H cells) (hb:Bl w w'):IsPage w' v W H cells:=
 let ⟨A,c,e,hr⟩:=h
 ⟨A,c,e,hr.bl hb⟩
def NPage (B:Nat) (w:World) (v:Value) (W H:Nat) (cells:List Value):Prop:=∃A c,v=.agg #[.int .i64 W,.int .i64 H,.slice A (W*H) c]∧Reads w 1 A (W*H) cells∧∀ad,A=some ad→B≤ad.block
theorem NPage.is {B:Nat} {w:World} {v:Value} {W H:Nat} {cells:List Value} (h:NPage B w v W H cells):IsPage w v W H cells:=
 let ⟨A,c,e,hr,_⟩:=h
 ⟨A,c,e,hr⟩
theorem NPage.bl {B:Nat} {w w':World} {v:Value} {W H:Nat} {cells:List Value} (h:NPage B w v W H cells) (hb:Bl w w'):NPage B w' v W H cells:=
 let ⟨A,c,e,hr,hn⟩:=h
 ⟨A,c,e,hr.bl hb,hn⟩
theorem NPage.mono {B B':Nat} {w:World} {v:Value} {W H:Nat} {cells:List Value} (h:NPage B w v W H cells) (hb:B'≤B):NPage B' w v W H cells:=
 let ⟨A,c,e,hr,hn⟩:=h
 ⟨A,c,e,hr,fun ad h=>Nat.le_trans hb (hn ad h)⟩
theorem Reads.store {B:Nat} {w:World} {size n:Nat} {A:Option Addr} {xs:List Value} (h:Reads w size A n xs) (hn:∀ad,A=some ad→B≤ad.block) {p:Addr} (hp:p.block<B) (u:Value):Reads (w.setCell p u) size A n xs:=
 ⟨h.1,fun hk=>by
  obtain ⟨ad,e,hc⟩:=h.2 hk;exact ⟨ad,e,fun j x hx=>by rw[World.cell?_setCell_other w p _ u (fun e'=>by have h1:=hn ad e;have h2:=congrArg Addr.block e';rw[pE] at h2;omega)];exact hc j x hx⟩⟩
theorem NPage.store {B:Nat} {w:World} {v:Value} {W H:Nat} {cells:List Value} (h:NPage B w v W H cells) {p:Addr} (hp:p.block<B) (u:Value):NPage B (w.setCell p u) v W H cells:=
 let ⟨A,c,e,hr,hn⟩:=h
 ⟨A,c,e,hr.store hn hp u,hn⟩
def Paints {α:Type} (P:Program) (k:FuncId) (cap:Array Value) (con:α→Value) (w:World) (W H:Nat) (f:Nat→Nat→α):Prop:=
 (∀args w,(callFunc k args).run P w=.ok (.enter k args) w) ∧
 ∀wx (x y:Nat),Bl w wx→x<W→y<H→Calls P k (#[.int .i64 x,.int .i64 y]++cap) wx fun e w'=>e=.returned (con (f x y))∧Bl wx w'
theorem Paints.bl {α:Type} {P:Program} {k:FuncId} {cap:Array Value} {con:α→Value} {w w':World} {W H:Nat} {f:Nat→Nat→α} (h:Paints P k cap con w W H f) (hb:Bl w w'):Paints P k cap con w' W H f:=
 ⟨h.1,fun wx x y hx=>h.2 wx x y (hb.trans hx)⟩
theorem eD {W H x y:Nat} (hx:x<W) (hy:y<H):y*W+x<W*H:=by
 have m:=Z6 (a:=W) hy;rw[Nat.mul_comm W H];omega
def madeInv (w:World) (W H:Nat) (f:Nat→Nat→Bool) (wr:World) (n:Nat):Prop:=
 Bl w wr ∧ (∃ cs : Array Value, Blk wr (w.heap.size + 1) 4 cs ∧ cs.size = W * H ∧ ∀ i, i < n → cs[i]? = some (Value.bool (f (i % W) (i / W)))) ∧
  Blk wr (w.heap.size+1+1) 43 #[.int .i64 W,.int .i64 H,.slice (some ⟨w.heap.size+1,0,none⟩) (W*H) (W*H)] ∧
  Blk wr w.heap.size 43 #[.int .i64 0,.int .i64 0,.slice none 0 0]
theorem madeInv.start (w : World) (W H : Nat) (f : Nat → Nat → Bool) : madeInv w W H f (((w.alloc (.cells #[.int .i64 0, .int .i64 0, .slice none 0 0] 43)).alloc (.cells (madeCells #[.bool false] (W * H)) 4)).alloc
 (.cells #[.int .i64 W,.int .i64 H,.slice (some ⟨w.heap.size+1,0,none⟩) (W*H) (W*H)] 43)) 0:=by
 have b0:=Blk.new w 43 #[.int .i64 0,.int .i64 0,.slice none 0 0];have b1:=Blk.new (w.alloc (.cells #[.int .i64 0,.int .i64 0,.slice none 0 0] 43)) 4 (madeCells #[.bool false] (W*H));have b2:=Blk.new ((w.alloc (.cells #[.int .i64 0,.int .i64 0,.slice none 0 0] 43)).alloc (.cells (madeCells #[.bool false] (W*H)) 4)) 43 #[.int .i64 W,.int .i64 H,.slice (some ⟨w.heap.size+1,0,none⟩) (W*H) (W*H)];simp only[World.size_alloc] at b1 b2;exact ⟨(((Bl.refl w).alloc _).alloc _).alloc _,⟨_,b1.alloc _,size_madeCells _ _,fun i hi=>absurd hi (by omega)⟩,b2,(b0.alloc _).alloc _⟩
theorem Z7 (W H:Nat) (f:Nat→Nat→Bool) (k:FuncId) (cap:Array Value) (w:World) (hW:W≤1048576) (hH:H≤1048576) (hWH:W*H≤1048576) (hk:Paints Tryz.prog k cap Value.bool w W H f) :
 Calls Tryz.prog 103 #[.int .i64 W,.int .i64 H,.func (.func k) #[] cap] w fun e w'=>∃v,e=.returned v∧NPage w.heap.size w' v W H ((eS W H f).map Value.bool)∧Bl w w':=by
 have hmk:=run_make_row' (P:=Tryz.prog) 41 4 (.bool false) 1 Tryz.underlying41 sS rfl .i64 .i64 (W*H) (by omega) (by omega);have aEQ:=hk.1;have eWH:(W:Int)*(H:Int)=((W*H:Nat):Int):=(by simp);have h1:(0:Int)≤(W:Int)*(H:Int):=(by omega);have h2:(W:Int)*(H:Int)≤1048576:=(by omega);rw[←eWH] at hmk;have EWH:=Lib.hid eWH;clear eWH;have inv0:=Lib.hid (madeInv.start w W H f)
 go_in
 go_wp2_with fail;go_loopw [18] (fun v wr=>∃y:Nat,y≤H∧v=.int .i64 y∧madeInv w W H f wr (y*W)) (fun v _=>H-(intOf v).toNat);case atStart=>exact ⟨0,Nat.zero_le _,rfl,by simpa using inv0.out⟩
 case round=>
  obtain ⟨y,hy,rfl,uD⟩:=hrel;by_cases hlt:y<H
  ·go_wp2_with fail;go_loopw [22] (fun v w2=>∃x:Nat,x≤W∧v=.int .i64 x∧madeInv w W H f w2 (y*W+x)) (fun v _=>W-(intOf v).toNat);case atStart=>exact ⟨0,Nat.zero_le _,rfl,by simpa using uD⟩
   case round=>
    obtain ⟨x,hx,rfl,GM⟩:=hrel;by_cases wU:x<W
    ·obtain ⟨hbl,⟨cs,GN,hsz,hcs⟩,hb2,hb0⟩:=GM;have ex:(y*W+x) % W=x:=(by rw[Nat.mul_comm,Nat.mul_add_mod,Nat.mod_eq_of_lt wU]);have ey:(y*W+x) / W=y:=(by rw[Nat.mul_comm,Nat.mul_add_div (by omega),Nat.div_eq_of_lt wU,Nat.add_zero]);have aCn:=eD wU hlt;obtain ⟨i,hi⟩:∃i,i=y*W+x:=⟨_,rfl⟩;have e1:(y:Int)*(W:Int)+(x:Int)=(i:Int):=(by rw[hi];simp);rw[←hi] at aCn ex ey hcs;have k2:=hb2.all3;obtain ⟨vi,ci⟩:∃v,wr.cell? ⟨w.heap.size+1,i,none⟩=some v:=⟨cs[i]'(by omega),by rw[GN.cell];simp⟩;have fi:=GN.frozen i;have hi2:(i:Int)<(W:Int)*(H:Int):=(by have:=EWH.out;omega);have h3:(0:Int)≤(y:Int)*(W:Int)∧(y:Int)*(W:Int)≤1048576:=(by have:=Int.natCast_mul y W;have:=EWH.out;omega);have Hi:=Lib.hid hi;have Hcs:=Lib.hid hcs;have Hex:=Lib.hid ex;have Hey:=Lib.hid ey;clear hi hcs ex ey;go_wp2_with fail;refine aA [(true,0),(true,1),(true,2),(true,3),(true,4),(true,5),(true,6),(true,7),(true,8),(true,9),(false,10),(true,11),(false,12)] (fun i=>i==12) (by kernel_rfl) (by kernel_rfl) (by kernel_rfl) (by kernel_rfl) ?_
     iterate 2
      apply Flow.calm2 _ _ rfl rfl
      ·intro a b c d;obtain ⟨e,f⟩:=b.rule;go_simp;(try go_ints);exact d
      ·intro a b;simp only[sqA];exact b
     iterate 2
      apply Flow.mv _ rfl
      ·intro a b;simp only[sqA,Act.eval,sqC];exact b
     apply Flow.calm2 _ _ rfl rfl
     ·intro a b c d;obtain ⟨e,f⟩:=b.rule;go_simp;(try go_ints);exact d
     ·intro a b;simp only[sqA];exact b
     apply Flow.mv _ rfl
     ·intro a b;simp only[sqA,Act.eval,sqC];exact b
     apply Flow.calm2 _ _ rfl rfl
     ·intro a b c d;obtain ⟨e,f⟩:=b.rule;go_simp;(try go_ints);exact d
     ·intro a b;simp only[sqA];exact b
     iterate 3
      apply Flow.mv _ rfl
      ·intro a b;simp only[sqA,Act.eval,sqC];exact b
     apply Flow.move rfl;go_wp2_with fail;refine (hk.2 _ _ _ (hbl.trans (Bl.refl _).drew) wU hlt).mono ?_;rintro e w3 ⟨rfl,HB1⟩;obtain ⟨hc3,hf3⟩:=HB1.rule;go_wp2_with fail;refine ⟨fun _=>(by first|exact HB1|exact Bl.refl _),?_⟩;apply Flow.calm2 _ _ rfl rfl
     ·intro a b c d;obtain ⟨e,f⟩:=b.rule;go_simp;(try go_ints);exact d
     ·intro a b;simp only[sqA];exact b
     refine Flow.tail _ rfl ?_;go_wp2_with fail;have hb4:Bl wr w3:=((Bl.refl _).drew).trans HB1;have hst:madeInv w W H f (w3.setCell ⟨w.heap.size+1,i,none⟩ (Value.bool (f x y))) (i+1):=by
      refine ⟨(hbl.trans hb4).setCell (by simp) _,⟨_,(GN.bl hb4).set_ i _,by simpa using hsz,fun j hj => ?_⟩,(hb2.bl hb4).far (by simp) _,(hb0.bl hb4).far (by simp) _⟩;by_cases e:i=j
      ·subst e;rw[Hex.out,Hey.out];simp[hsz,aCn]
      ·rw[Array.getElem?_setIfInBounds_ne e];exact Hcs.out j (by omega)
     have Hst:=Lib.hid hst;clear hst;exact ⟨⟨x+1,wU,by go_num,by have:=Hst.out;rw[Hi.out] at this;simpa [Nat.add_assoc,Hi.out] using this⟩,by simp[intOf];omega⟩
    ·go_wp2_with fail;exact ⟨⟨y+1,hlt,by go_num,by rw[Nat.add_mul,Nat.one_mul];rwa [show x=W by omega] at GM⟩,by simp[intOf];omega⟩
  ·have k2:=uD.2.2.1.all3;have k0:=uD.2.2.2.all3;go_wp2_with fail;refine bodyPost_ret (v:=.agg #[.int .i64 W,.int .i64 H,.slice (some ⟨w.heap.size+1,0,none⟩) (W*H) (W*H)]) (by simp[results,Tryz.results103,go_sem,k0]) rfl ?_;obtain ⟨hbl,⟨cs,GN,hsz,hcs⟩,_,_⟩:=uD;refine ⟨_,rfl,⟨_,_,rfl,?_,fun ad h=>by injection h with h;subst h;simp⟩,?_⟩
   ·have hb':=((GN.far (p:=⟨w.heap.size,0,none⟩) (by simp) (.int .i64 W)).far (p:=⟨w.heap.size,1,none⟩) (by simp) (.int .i64 H)).far (p:=⟨w.heap.size,2,none⟩) (by simp) (.slice (some ⟨w.heap.size+1,0,none⟩) (W*H) (W*H));have hl:cs.toList=(eS W H f).map Value.bool:=by
     apply List.ext_getElem?;intro i;rcases Nat.lt_or_ge i (W*H) with h|h
     ·rw[List.getElem?_map,uF W H f i h];have:=hcs i (by have:=Nat.mul_comm W H;rw[show y=H by omega];omega);simpa using this
     ·rw[List.getElem?_eq_none (by simpa [hsz] using h),List.getElem?_eq_none (by simpa [fI] using h)]
    rw[←hl];exact hb'.reads (W*H) 1 (by omega)
   ·exact ((hbl.setCell (by simp) _).setCell (by simp) _).setCell (by simp) _
def MakesPage (P:Program) (k:FuncId) (cap:Array Value) (w:World) (W H:Nat) (cells:List Value):Prop:=
 (∀args w,(callFunc k args).run P w=.ok (.enter k args) w)∧∀wx,Bl w wx→Calls P k cap wx fun e w'=>∃v,e=.returned v∧IsPage w' v W H cells∧Bl wx w'
def Bytes (zs:List Int):Prop:=∀z∈zs,0≤z∧z≤255
def aCE (zs:List Int) (i:Nat):Int:=zs.getD i 0
theorem Bytes.at {zs:List Int} (h:Bytes zs) (i:Nat):0≤aCE zs i∧aCE zs i≤255:=by
 unfold aCE;rcases Nat.lt_or_ge i zs.length with hl|hl
 ·have:=h zs[i] (List.getElem_mem hl);simpa [List.getD,hl] using this
 ·simp[List.getD,List.getElem?_eq_none hl]
def atI (bs:List Bool) (W H x y:Int):Bool:=decide (0≤x∧x<W∧0≤y∧y<H)&&bs.getD (y.toNat*W.toNat+x.toNat) false
def pix (bs:List Bool) (W x y:Nat):Bool:=bs.getD (y*W+x) false
theorem CC (bs:List Bool) (W H x y:Nat) (hx:x<W) (hy:y<H):atI bs W H x y=pix bs W x y:=by
 unfold atI pix;have:decide (0≤(x:Int)∧(x:Int)<W∧0≤(y:Int)∧(y:Int)<H)=true:=(by simp;omega);rw[this];simp
theorem uG (bs:List Bool) (W H x y:Int) (h:¬(0≤x∧x<W∧0≤y∧y<H)):atI bs W H x y=false:=by
 unfold atI;simp only[h];simp
theorem Reads.place {w:World} {A:Option Addr} {W H:Nat} {bs:List Bool} (h:Reads w 1 A (W*H) (bs.map .bool)) {x y:Nat} (hx:x<W) (hy:y<H) :
 ∃ad,A=some ad∧w.cell? (ad.add (y*W+x))=some (.bool (pix bs W x y)):=by
 have hk:=eD hx hy;obtain ⟨ad,u,e,hu,hc⟩:=h.at_ hk;refine ⟨ad,e,?_⟩;have hl:y*W+x<bs.length:=(by have:=h.1;simp at this;omega);have hu':u=.bool (pix bs W x y):=(by simpa [pix,List.getD,hl] using hu.symm);rw[hc,hu']
def Res (B:Nat) (w:World) (err:Int) (W H:Nat) (cells:List Value) (a b:Int) (R:Option Addr) (m c:Nat):Prop:=
 (err=0→NPage B w (.agg #[.int .i64 a,.int .i64 b,.slice R m c]) W H cells)∧(err≠0→a=0∧b=0∧R=none∧m=0∧c=0)
theorem Res.bl {B:Nat} {w w':World} {err:Int} {W H:Nat} {cells:List Value} {a b:Int} {R:Option Addr} {m c:Nat} (h:Res B w err W H cells a b R m c) (hb:Bl w w'):Res B w' err W H cells a b R m c:=
 ⟨fun e=>(h.1 e).bl hb,h.2⟩
theorem Res.mono {B B':Nat} {w:World} {err:Int} {W H:Nat} {cells:List Value} {a b:Int} {R:Option Addr} {m c:Nat} (h:Res B w err W H cells a b R m c) (hb:B'≤B):Res B' w err W H cells a b R m c:=
 ⟨fun e=>(h.1 e).mono hb,h.2⟩
theorem Res.zero (B:Nat) (w:World) {err:Int} (W H:Nat) (cells:List Value) (h:err≠0):Res B w err W H cells 0 0 none 0 0:=
 ⟨fun e=>absurd e h,fun _=>⟨rfl,rfl,rfl,rfl,rfl⟩⟩
theorem Res.page {B:Nat} {w:World} {err:Int} {W H c:Nat} {R:Option Addr} {cells:List Value} (h:err=0) (hr:Reads w 1 R (W*H) cells) (hn:∀ad,R=some ad→B≤ad.block):Res B w err W H cells W H R (W*H) c:=
 ⟨fun _=>⟨R,c,rfl,hr,hn⟩,fun e=>absurd h e⟩
theorem MakesPage.bl {P:Program} {k:FuncId} {cap:Array Value} {w w':World} {W H:Nat} {cells:List Value} (h:MakesPage P k cap w W H cells) (hb:Bl w w'):MakesPage P k cap w' W H cells:=
 ⟨h.1,fun wx hx=>h.2 wx (hb.trans hx)⟩
theorem Z8 {α:Type} (W H:Nat) (f:Nat→Nat→α) (x y:Nat) (hx:x<W) (hy:y<H):(eS W H f)[y*W+x]? = some (f x y):=by
 rw[uF _ _ _ _ (eD hx hy),Nat.mul_comm,Nat.mul_add_mod,Nat.mod_eq_of_lt hx,Nat.mul_add_div (by omega),Nat.div_eq_of_lt hx,Nat.add_zero]
theorem iS (W H:Nat) (f:Nat→Nat→Bool) (x y:Nat) (hx:x<W) (hy:y<H):pix (eS W H f) W x y=f x y:=by
 unfold pix;simp[List.getD,Z8 W H f x y hx hy]
theorem N8 (W H:Nat) (bs:List Bool) (h:bs.length=W*H):eS W H (pix bs W)=bs:=by
 apply List.ext_getElem?;intro i;rcases Nat.lt_or_ge i (W*H) with hi|hi
 ·rw[uF W H _ i hi];have e:i / W*W+i % W=i:=(by rw[Nat.mul_comm];exact Nat.div_add_mod i W);unfold pix;rw[e,List.getD_eq_getElem?_getD,List.getElem?_eq_getElem (by omega)];rfl
 ·rw[List.getElem?_eq_none (by rw[fI];exact hi),List.getElem?_eq_none (by omega)]
theorem Res.store {B:Nat} {w:World} {err:Int} {W H:Nat} {cells:List Value} {a b:Int} {R:Option Addr} {m c:Nat} (h:Res B w err W H cells a b R m c) {p:Addr} (hp:p.block<B) (u:Value):Res B (w.setCell p u) err W H cells a b R m c:=
 ⟨fun e=>(h.1 e).store hp u,h.2⟩
def lC (f : Nat → Nat) : Nat → Nat
 |0=>0
 |n+1=>lC f n+f n
theorem dZ {f g : Nat → Nat} : ∀ {n : Nat}, (∀ i, i < n → f i = g i) → lC f n = lC g n
 |0,_=>rfl
 |n+1,h=>by
  unfold lC;rw[dZ (n:=n) (fun i hi=>h i (by omega)),h n (by omega)]
theorem U0 (n:Nat):lC (fun _=>0) n=0:=by
 induction n with
 |zero=>rfl
 |succ n ih=>simp[lC,ih]
theorem Z9 (f g:Nat→Nat) (n:Nat):lC (fun i=>f i+g i) n=lC f n+lC g n:=by
 induction n with
 |zero=>rfl
 |succ n ih=>simp only[lC,ih];omega
theorem CD (f:Nat→Nat) (m n:Nat):lC f (m+n)=lC f m+lC (fun i=>f (m+i)) n:=by
 induction n with
 |zero=>rfl
 |succ n ih=>rw[←Nat.add_assoc];simp only[lC,ih];omega
theorem xW (g:Nat→Nat) (W H:Nat):lC g (H*W)=lC (fun y=>lC (fun x=>g (y*W+x)) W) H:=by
 induction H with
 |zero=>simp[lC]
 |succ H ih=>rw[Nat.add_mul,Nat.one_mul,CD,ih];rfl
theorem rR {f:Nat→Nat} {c:Nat} (h:∀i,f i≤c) (n:Nat):lC f n≤n*c:=by
 induction n with
 |zero=>simp[lC]
 |succ n ih=>have:=h n;simp only[lC,Nat.add_mul];omega
def vK (N:Nat) (f:Nat→Int):Array Value:=((List.range N).map fun k=>Value.int .i64 (f k)).toArray
theorem sT (N:Nat) (f:Nat→Int):(vK N f).size=N:=by simp[vK]
theorem xF {N:Nat} (f:Nat→Int) {k:Nat} (h:k<N):(vK N f)[k]? = some (.int .i64 (f k)):=by simp[vK,h]
theorem CF {N:Nat} {f g:Nat→Int} (h:∀k,k<N→f k=g k):vK N f=vK N g:=by
 unfold vK
 congr 1
 exact List.map_congr_left fun k hk=>by rw[h k (List.mem_range.1 hk)]
theorem aAa {N:Nat} {f g:Nat→Int} {a:Nat} {v:Int} (hg:∀k,k<N→g k=if k=a then v else f k):(vK N f).setIfInBounds a (.int .i64 v)=vK N g:=by
 apply Array.ext_getElem?;intro i;rcases Nat.lt_or_ge i N with h|h
 ·rw[xF g h,hg i h];by_cases e:a=i
  ·subst e;simp[vK,h]
  ·rw[Array.getElem?_setIfInBounds_ne e,xF f h,if_neg (fun e'=>e e'.symm)]
 ·rw[Array.getElem?_eq_none (by simp[sT];exact h),Array.getElem?_eq_none (by rw[sT];exact h)]
theorem U1 (N:Nat):madeCells #[.int .i64 0] N=vK N (fun _=>0):=by
 apply Array.ext_getElem?;intro i;rcases Nat.lt_or_ge i N with h|h
 ·rw[xF _ h];simp[madeCells,h,Nat.mod_one]
 ·rw[Array.getElem?_eq_none (by rw[size_madeCells];exact h),Array.getElem?_eq_none (by rw[sT];exact h)]
def ZS (N:Nat) (f:Nat→Int):List Int:=(List.range N).map f
theorem aAb (N:Nat) (f:Nat→Int):(ZS N f).length=N:=by simp[ZS]
theorem EH {N:Nat} (f:Nat→Int) {k:Nat} (h:k<N):(ZS N f)[k]? = some (f k):=by simp[ZS,h]
theorem Blk.tabReads {w:World} {g:Nat} {t:TypeId} {N:Nat} {f:Nat→Int} (h:Blk w g t (vK N f)):Reads w 1 (some ⟨g,0,none⟩) N ((ZS N f).map (.int .i64)):=by
 have:=h.reads N 1 (by rw[sT];omega);have e:(vK N f).toList=(ZS N f).map (.int .i64):=by simp[vK,ZS,Function.comp_def]
 rwa [e] at this
theorem Blk.tabAt {w:World} {g:Nat} {t:TypeId} {N:Nat} {f:Nat→Int} (h:Blk w g t (vK N f)) {k:Nat} (hk:k<N):w.cell? ⟨g,k,none⟩=some (.int .i64 (f k)):=(h.cell k).trans (xF f hk)
theorem Blk.tabSet {w:World} {g:Nat} {t:TypeId} {N:Nat} {f f':Nat→Int} (h:Blk w g t (vK N f)) (a:Nat) (v:Int) (hg:∀k,k<N→f' k=if k=a then v else f k):Blk (w.setCell ⟨g,a,none⟩ (.int .i64 v)) g t (vK N f'):=by
 have:=h.set_ a (.int .i64 v)
 rwa [aAa hg] at this
def aEm (n:Int):Int:=if n<0 then -oN (-n) 1024 else oN n 1024
def aGx (W:Nat) (n:Int) (x:Nat):Int:=aEm (n*((x:Int)-((W:Int)-1) / 2))
def EI (bs : List Bool) : Nat → List Nat
 |0=>[]
 |m+1=>EI bs m++(if bs.getD m false then [m] else [])
def b1 (b:Bool):Nat:=if b then 1 else 0
def aEn (W H:Nat) (n:Int) (i:Nat):Int:=((H / 2:Nat):Int)+((i / W:Nat):Int)+aGx W n (i % W)
def aGy (W H:Nat) (n:Int) (k i:Nat):Bool:=decide (aEn W H n i=(k:Int))
def aGz (bs:List Bool) (W H:Nat) (n:Int) (k:Nat):Nat:=lC (fun i=>b1 (bs.getD i false&&aGy W H n k i)) (W*H)
def lD (N:Nat) (f:Nat→Bool):Array Value:=((List.range N).map fun k=>Value.bool (f k)).toArray
theorem sU (N:Nat) (f:Nat→Bool):(lD N f).size=N:=by simp[lD]
theorem xG {N:Nat} (f:Nat→Bool) {k:Nat} (h:k<N):(lD N f)[k]? = some (.bool (f k)):=by simp[lD,h]
theorem iL {N:Nat} {f g:Nat→Bool} (h:∀k,k<N→f k=g k):lD N f=lD N g:=by
 unfold lD
 congr 1
 exact List.map_congr_left fun k hk=>by rw[h k (List.mem_range.1 hk)]
theorem aAc {N:Nat} {f g:Nat→Bool} {a:Nat} {v:Bool} (hg:∀k,k<N→g k=if k=a then v else f k):(lD N f).setIfInBounds a (.bool v)=lD N g:=by
 apply Array.ext_getElem?;intro i;rcases Nat.lt_or_ge i N with h|h
 ·rw[xG g h,hg i h];by_cases e:a=i
  ·subst e;simp[lD,h]
  ·rw[Array.getElem?_setIfInBounds_ne e,xG f h,if_neg (fun e'=>e e'.symm)]
 ·rw[Array.getElem?_eq_none (by simp[sU];exact h),Array.getElem?_eq_none (by rw[sU];exact h)]
theorem U2 (N:Nat):madeCells #[.bool false] N=lD N (fun _=>false):=by
 apply Array.ext_getElem?;intro i;rcases Nat.lt_or_ge i N with h|h
 ·rw[xG _ h];simp[madeCells,h,Nat.mod_one]
 ·rw[Array.getElem?_eq_none (by rw[size_madeCells];exact h),Array.getElem?_eq_none (by rw[sU];exact h)]
theorem Blk.tabReadsB {w:World} {g:Nat} {t:TypeId} {N:Nat} {f:Nat→Bool} (h:Blk w g t (lD N f)):Reads w 1 (some ⟨g,0,none⟩) N (((List.range N).map f).map .bool):=by
 have:=h.reads N 1 (by rw[sU];omega);have e:(lD N f).toList=((List.range N).map f).map .bool:=by simp[lD,Function.comp_def]
 rwa [e] at this
theorem Blk.tabAtB {w:World} {g:Nat} {t:TypeId} {N:Nat} {f:Nat→Bool} (h:Blk w g t (lD N f)) {k:Nat} (hk:k<N):w.cell? ⟨g,k,none⟩=some (.bool (f k)):=(h.cell k).trans (xG f hk)
theorem Blk.tabSetB {w:World} {g:Nat} {t:TypeId} {N:Nat} {f f':Nat→Bool} (h:Blk w g t (lD N f)) (a:Nat) (v:Bool) (hg:∀k,k<N→f' k=if k=a then v else f k):Blk (w.setCell ⟨g,a,none⟩ (.bool v)) g t (lD N f'):=by
 have:=h.set_ a (.bool v)
 rwa [aAc hg] at this
theorem eK {W H k:Nat} (hk:k<W*H):k % W<W∧k / W<H∧(k / W)*W+k % W=k:=by
 have hW:0<W:=(by rcases Nat.eq_zero_or_pos W with h0|h0;(subst h0;simp at hk);exact h0);exact ⟨Nat.mod_lt _ hW,Nat.div_lt_of_lt_mul hk,by have:=Nat.div_add_mod k W;rw[Nat.mul_comm] at this;exact this⟩
theorem sV {W x:Nat} (y:Nat) (hx:x<W):(y*W+x) % W=x∧(y*W+x) / W=y:=
 ⟨by rw[Nat.mul_comm,Nat.mul_add_mod,Nat.mod_eq_of_lt hx],by rw[Nat.mul_comm,Nat.mul_add_div (by omega),Nat.div_eq_of_lt hx,Nat.add_zero]⟩
abbrev aLq (i:Nat):Bool × Nat:=(true,i)
abbrev aLr (i:Nat):Bool × Nat:=(false,i)
theorem aLs {P:Program} {ops:Array Oper} {Q:Exit→Act→World→Prop} {id:Nat} {a:Act} {w:World} (σ:List (Bool × Nat)) (hm:(P.follows .mixedOrders&&(Region.noSelect ops&&(decide (σ.length≤ops.size)&&xT .any ops (fun _=>false) σ (Array.replicate ops.size false))))=true) (h:Flow P ops (NoPanic Q) (fun _=>false) σ a w.drew):(Code.region id ops true).wp P Q a w:=by
 simp only[Bool.and_eq_true] at hm;exact aA σ _ hm.1 hm.2.1 hm.2.2.1 hm.2.2.2 h
theorem aLa {p:Prop} (h:p):Go.RowKit.Hid p:=Lib.hid h
theorem aLb {a b c:Prop} (ha:a) (hb:b) (hc:c):Go.RowKit.Hid a∧Go.RowKit.Hid b∧Go.RowKit.Hid c:=
 ⟨ha,hb,hc⟩
theorem aLc {a b c d:Prop} (ha:a) (hb:b) (hc:c) (hd:d):Go.RowKit.Hid a∧Go.RowKit.Hid b∧Go.RowKit.Hid c∧Go.RowKit.Hid d:=
 ⟨ha,hb,hc,hd⟩
theorem aLd {a b c d e:Prop} (ha:a) (hb:b) (hc:c) (hd:d) (he:e):Go.RowKit.Hid a∧Go.RowKit.Hid b∧Go.RowKit.Hid c∧Go.RowKit.Hid d∧Go.RowKit.Hid e:=
 ⟨ha,hb,hc,hd,he⟩
theorem aLe {a b c d e f:Prop} (ha:a) (hb:b) (hc:c) (hd:d) (he:e) (hf:f):Go.RowKit.Hid a∧Go.RowKit.Hid b∧Go.RowKit.Hid c∧Go.RowKit.Hid d∧Go.RowKit.Hid e∧Go.RowKit.Hid f:=
 ⟨ha,hb,hc,hd,he,hf⟩
theorem aLf {a b c d e f g:Prop} (ha:a) (hb:b) (hc:c) (hd:d) (he:e) (hf:f) (hg:g):Go.RowKit.Hid a∧Go.RowKit.Hid b∧Go.RowKit.Hid c∧Go.RowKit.Hid d∧Go.RowKit.Hid e∧Go.RowKit.Hid f∧Go.RowKit.Hid g:=
 ⟨ha,hb,hc,hd,he,hf,hg⟩
theorem aLg {a b c d e f g h:Prop} (ha:a) (hb:b) (hc:c) (hd:d) (he:e) (hf:f) (hg:g) (hh:h):Go.RowKit.Hid a∧Go.RowKit.Hid b∧Go.RowKit.Hid c∧Go.RowKit.Hid d∧Go.RowKit.Hid e∧Go.RowKit.Hid f∧Go.RowKit.Hid g∧Go.RowKit.Hid h:=
 ⟨ha,hb,hc,hd,he,hf,hg,hh⟩
instance:Coe Int Value:=⟨fun x=>.int .i64 x⟩
instance:Coe Nat Value:=⟨fun x=>.int .i64 (x:Int)⟩
instance:Coe (List UInt8) Value:=⟨fun x=>.string ⟨x.toArray⟩⟩
theorem aLh {x:World} (w:World) (T1:TypeId) (c1:Array Value) (h:x=(w.alloc (.cells c1 T1))):Bl w x∧Blk x (w.heap.size) T1 c1:=by
 subst h;exact ⟨(Bl.refl w).alloc _,(by have h0:=Blk.new w T1 c1;exact h0)⟩
theorem aLi {x:World} (w:World) (T1:TypeId) (c1:Array Value) (T2:TypeId) (c2:Array Value) (h:x=((w.alloc (.cells c1 T1)).alloc (.cells c2 T2))):Bl w x∧Blk x (w.heap.size) T1 c1∧Blk x (w.heap.size+1) T2 c2:=by
 subst h;exact ⟨((Bl.refl w).alloc _).alloc _,(by have h0:=Blk.new w T1 c1;exact (h0.alloc _)),(by have h0:=Blk.new (w.alloc (.cells c1 T1)) T2 c2;simp only[World.size_alloc] at h0;exact h0)⟩
theorem aLj {x:World} (w:World) (T1:TypeId) (c1:Array Value) (T2:TypeId) (c2:Array Value) (T3:TypeId) (c3:Array Value) (h:x=(((w.alloc (.cells c1 T1)).alloc (.cells c2 T2)).alloc (.cells c3 T3))):Bl w x∧Blk x (w.heap.size) T1 c1∧Blk x (w.heap.size+1) T2 c2∧Blk x (w.heap.size+1+1) T3 c3:=by
 subst h;exact ⟨(((Bl.refl w).alloc _).alloc _).alloc _,(by have h0:=Blk.new w T1 c1;exact ((h0.alloc _).alloc _)),(by have h0:=Blk.new (w.alloc (.cells c1 T1)) T2 c2;simp only[World.size_alloc] at h0;exact (h0.alloc _)),(by have h0:=Blk.new ((w.alloc (.cells c1 T1)).alloc (.cells c2 T2)) T3 c3;simp only[World.size_alloc] at h0;exact h0)⟩
theorem aLk {x:World} (w:World) (T1:TypeId) (c1:Array Value) (T2:TypeId) (c2:Array Value) (T3:TypeId) (c3:Array Value) (T4:TypeId) (c4:Array Value) (h:x=((((w.alloc (.cells c1 T1)).alloc (.cells c2 T2)).alloc (.cells c3 T3)).alloc (.cells c4 T4))):Bl w x∧Blk x (w.heap.size) T1 c1∧Blk x (w.heap.size+1) T2 c2∧Blk x (w.heap.size+1+1) T3 c3∧Blk x (w.heap.size+1+1+1) T4 c4:=by
 subst h;exact ⟨((((Bl.refl w).alloc _).alloc _).alloc _).alloc _,(by have h0:=Blk.new w T1 c1;exact (((h0.alloc _).alloc _).alloc _)),(by have h0:=Blk.new (w.alloc (.cells c1 T1)) T2 c2;simp only[World.size_alloc] at h0;exact ((h0.alloc _).alloc _)),(by have h0:=Blk.new ((w.alloc (.cells c1 T1)).alloc (.cells c2 T2)) T3 c3;simp only[World.size_alloc] at h0;exact (h0.alloc _)),(by have h0:=Blk.new (((w.alloc (.cells c1 T1)).alloc (.cells c2 T2)).alloc (.cells c3 T3)) T4 c4;simp only[World.size_alloc] at h0;exact h0)⟩
theorem aLl {x:World} (w:World) (T1:TypeId) (c1:Array Value) (T2:TypeId) (c2:Array Value) (T3:TypeId) (c3:Array Value) (T4:TypeId) (c4:Array Value) (T5:TypeId) (c5:Array Value) (h:x=(((((w.alloc (.cells c1 T1)).alloc (.cells c2 T2)).alloc (.cells c3 T3)).alloc (.cells c4 T4)).alloc (.cells c5 T5))):Bl w x∧Blk x (w.heap.size) T1 c1∧Blk x (w.heap.size+1) T2 c2∧Blk x (w.heap.size+1+1) T3 c3∧Blk x (w.heap.size+1+1+1) T4 c4∧Blk x (w.heap.size+1+1+1+1) T5 c5:=by
 subst h;exact ⟨(((((Bl.refl w).alloc _).alloc _).alloc _).alloc _).alloc _,(by have h0:=Blk.new w T1 c1;exact ((((h0.alloc _).alloc _).alloc _).alloc _)),(by have h0:=Blk.new (w.alloc (.cells c1 T1)) T2 c2;simp only[World.size_alloc] at h0;exact (((h0.alloc _).alloc _).alloc _)),(by have h0:=Blk.new ((w.alloc (.cells c1 T1)).alloc (.cells c2 T2)) T3 c3;simp only[World.size_alloc] at h0;exact ((h0.alloc _).alloc _)),(by have h0:=Blk.new (((w.alloc (.cells c1 T1)).alloc (.cells c2 T2)).alloc (.cells c3 T3)) T4 c4;simp only[World.size_alloc] at h0;exact (h0.alloc _)),(by have h0:=Blk.new ((((w.alloc (.cells c1 T1)).alloc (.cells c2 T2)).alloc (.cells c3 T3)).alloc (.cells c4 T4)) T5 c5;simp only[World.size_alloc] at h0;exact h0)⟩
theorem aLm {x:World} (w:World) (T1:TypeId) (c1:Array Value) (T2:TypeId) (c2:Array Value) (T3:TypeId) (c3:Array Value) (T4:TypeId) (c4:Array Value) (T5:TypeId) (c5:Array Value) (T6:TypeId) (c6:Array Value) (h:x=((((((w.alloc (.cells c1 T1)).alloc (.cells c2 T2)).alloc (.cells c3 T3)).alloc (.cells c4 T4)).alloc (.cells c5 T5)).alloc (.cells c6 T6))):Bl w x∧Blk x (w.heap.size) T1 c1∧Blk x (w.heap.size+1) T2 c2∧Blk x (w.heap.size+1+1) T3 c3∧Blk x (w.heap.size+1+1+1) T4 c4∧Blk x (w.heap.size+1+1+1+1) T5 c5∧Blk x (w.heap.size+1+1+1+1+1) T6 c6:=by
 subst h;exact ⟨((((((Bl.refl w).alloc _).alloc _).alloc _).alloc _).alloc _).alloc _,(by have h0:=Blk.new w T1 c1;exact (((((h0.alloc _).alloc _).alloc _).alloc _).alloc _)),(by have h0:=Blk.new (w.alloc (.cells c1 T1)) T2 c2;simp only[World.size_alloc] at h0;exact ((((h0.alloc _).alloc _).alloc _).alloc _)),(by have h0:=Blk.new ((w.alloc (.cells c1 T1)).alloc (.cells c2 T2)) T3 c3;simp only[World.size_alloc] at h0;exact (((h0.alloc _).alloc _).alloc _)),(by have h0:=Blk.new (((w.alloc (.cells c1 T1)).alloc (.cells c2 T2)).alloc (.cells c3 T3)) T4 c4;simp only[World.size_alloc] at h0;exact ((h0.alloc _).alloc _)),(by have h0:=Blk.new ((((w.alloc (.cells c1 T1)).alloc (.cells c2 T2)).alloc (.cells c3 T3)).alloc (.cells c4 T4)) T5 c5;simp only[World.size_alloc] at h0;exact (h0.alloc _)),(by have h0:=Blk.new (((((w.alloc (.cells c1 T1)).alloc (.cells c2 T2)).alloc (.cells c3 T3)).alloc (.cells c4 T4)).alloc (.cells c5 T5)) T6 c6;simp only[World.size_alloc] at h0;exact h0)⟩
theorem aLn {w x:World} {o:Obj} (h:x=w.alloc o):Bl w x:=by
 subst h;exact (Bl.refl _).alloc _
theorem aLo {w x:World} {T:TypeId} {c:Array Value} (h:x=w.alloc (.cells c T)):Blk x w.heap.size T c:=by
 subst h;exact Blk.new _ _ _
theorem aLp {w x:World} {o:Nat} {T:TypeId} {c:Array Value} (h:x=w.alloc (.cells c T)) (k:o=w.heap.size):Blk x o T c:=by
 subst h k;exact Blk.new _ _ _
theorem aLt {α:Sort _} (a:α):∃z,z=a:=⟨a,rfl⟩
theorem aLu {α:Sort _} (a:α):∃z,a=z:=⟨a,rfl⟩
theorem aLv:type_of% @List.getElem?_eq_getElem:=@List.getElem?_eq_getElem
theorem aLw:type_of% @List.getElem?_eq_some_iff:=@List.getElem?_eq_some_iff
theorem aLx:type_of% @List.getD_eq_getElem?_getD:=@List.getD_eq_getElem?_getD
theorem aLy:type_of% @List.length_append:=@List.length_append
theorem aLz:type_of% @List.length_map:=@List.length_map
theorem aLA:type_of% @List.length_take:=@List.length_take
theorem aLB:type_of% @List.length_cons:=@List.length_cons
theorem aLC:type_of% @List.take_length:=@List.take_length
theorem aLD:type_of% @List.getElem?_append_right:=@List.getElem?_append_right
theorem aLE:type_of% @List.getElem?_append_left:=@List.getElem?_append_left
theorem aLF:type_of% @List.length_replicate:=@List.length_replicate
theorem aLG:type_of% @List.getElem?_map:=@List.getElem?_map
theorem aLH:type_of% @List.getElem?_take_of_lt:=@List.getElem?_take_of_lt
theorem aLI:type_of% @List.getElem?_drop:=@List.getElem?_drop
theorem aLJ:type_of% @List.length_drop:=@List.length_drop
theorem aLK:type_of% @List.take_append_drop:=@List.take_append_drop
theorem aLL:type_of% @List.append_assoc:=@List.append_assoc
theorem aLM:type_of% @List.mem_append:=@List.mem_append
theorem aLN:type_of% @List.mem_cons:=@List.mem_cons
theorem aLO:type_of% @List.all_eq_true:=@List.all_eq_true
theorem aLP:type_of% @List.any_eq_true:=@List.any_eq_true
theorem aLQ:type_of% @List.mem_singleton:=@List.mem_singleton
theorem aLR:type_of% @List.length_singleton:=@List.length_singleton
theorem aLS:type_of% @List.map_append:=@List.map_append
theorem aLT:type_of% @List.getElem?_cons_zero:=@List.getElem?_cons_zero
theorem aLU:type_of% @beq_eq_false_iff_ne:=@beq_eq_false_iff_ne
theorem aLV:type_of% @Bool.and_eq_true:=@Bool.and_eq_true
theorem aLW:type_of% @decide_eq_false:=@decide_eq_false
theorem aLX:type_of% @decide_eq_true:=@decide_eq_true
theorem aLY:type_of% @of_decide_eq_true:=@of_decide_eq_true
theorem aLZ:type_of% @Option.some.inj:=@Option.some.inj
theorem aL0:type_of% @bodyPost_ret:=@bodyPost_ret
theorem aL1:type_of% @Array.getElem?_eq_some_iff:=@Array.getElem?_eq_some_iff
theorem aL2:type_of% @List.take_left':=@List.take_left'
theorem aL3:type_of% @List.length_reverse:=@List.length_reverse
theorem aL4:type_of% @List.getElem_of_mem:=@List.getElem_of_mem
theorem aL5:type_of% @List.getElem?_eq_none:=@List.getElem?_eq_none
theorem aL6:type_of% @List.take_of_length_le:=@List.take_of_length_le
theorem aL7:type_of% @List.drop_eq_getElem_cons:=@List.drop_eq_getElem_cons
theorem aL8:type_of% @Int.toNat_natCast:=@Int.toNat_natCast
theorem aL9:type_of% @Int.natCast_mul:=@Int.natCast_mul
theorem aMa:type_of% @Nat.mul_le_mul:=@Nat.mul_le_mul
theorem aMb:type_of% @Nat.le_trans:=@Nat.le_trans
theorem aMc:type_of% @List.take_add_one:=@List.take_add_one
theorem aMd:type_of% @List.getElem?_range:=@List.getElem?_range
theorem aMe:type_of% @List.length_range:=@List.length_range
theorem aMf:type_of% @List.mem_map:=@List.mem_map
theorem aMg:type_of% @List.map_map:=@List.map_map
theorem aMh:type_of% @List.flatMap_append:=@List.flatMap_append
theorem aMi:type_of% @List.flatMap_cons:=@List.flatMap_cons
theorem aMj:type_of% @List.append_nil:=@List.append_nil
end Go.Proofs.YtllefinciimffaaGreatDoor
