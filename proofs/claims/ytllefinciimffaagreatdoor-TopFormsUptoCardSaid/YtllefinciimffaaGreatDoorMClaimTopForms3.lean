import Derived.Test.YtllefinciimffaaGreatDoorMClaimTopForms2
set_option maxHeartbeats 20000000
set_option maxRecDepth 100000
namespace Go.Proofs.YtllefinciimffaaGreatDoor
def dG:List UInt8:=[48,49,50,51,52,53,54,55,56,57,65,66,67,68,69,70,71,72,73,74,75,76,77,78,79,80,81,82,83,84,85,86,87,88,89,90,45,46,32,36,47,43,37,42]
def rH:List (List UInt8):=[[110,110,110,119,119,110,119,110,110],[119,110,110,119,110,110,110,110,119],[110,110,119,119,110,110,110,110,119],[119,110,119,119,110,110,110,110,110],[110,110,110,119,119,110,110,110,119],[119,110,110,119,119,110,110,110,110],[110,110,119,119,119,110,110,110,110],[110,110,110,119,110,110,119,110,119],[119,110,110,119,110,110,119,110,110],[110,110,119,119,110,110,119,110,110],[119,110,110,110,110,119,110,110,119],[110,110,119,110,110,119,110,110,119],[119,110,119,110,110,119,110,110,110],[110,110,110,110,119,119,110,110,119],[119,110,110,110,119,119,110,110,110],[110,110,119,110,119,119,110,110,110],[110,110,110,110,110,119,119,110,119],[119,110,110,110,110,119,119,110,110],[110,110,119,110,110,119,119,110,110],[110,110,110,110,119,119,119,110,110],[119,110,110,110,110,110,110,119,119],[110,110,119,110,110,110,110,119,119],[119,110,119,110,110,110,110,119,110],[110,110,110,110,119,110,110,119,119],[119,110,110,110,119,110,110,119,110],[110,110,119,110,119,110,110,119,110],[110,110,110,110,110,110,119,119,119],[119,110,110,110,110,110,119,119,110],[110,110,119,110,110,110,119,119,110],[110,110,110,110,119,110,119,119,110],[119,119,110,110,110,110,110,110,119],[110,119,119,110,110,110,110,110,119],[119,119,119,110,110,110,110,110,110],[110,119,110,110,119,110,110,110,119],[119,119,110,110,119,110,110,110,110],[110,119,119,110,119,110,110,110,110],[110,119,110,110,110,110,119,110,119],[119,119,110,110,110,110,119,110,110],[110,119,119,110,110,110,119,110,110],[110,119,110,119,110,119,110,110,110],[110,119,110,119,110,110,110,119,110],[110,119,110,110,110,119,110,119,110],[110,110,110,119,110,119,110,119,110],[110,119,110,110,119,110,119,110,110]]
def aB1:List UInt8:=[110,110,110,119,119,110,119,110,110,32,119,110,110,119,110,110,110,110,119,32,110,110,119,119,110,110,110,110,119,32,119,110,119,119,110,110,110,110,110,32,110,110,110,119,119,110,110,110,119,32,119,110,110,119,119,110,110,110,110,32,110,110,119,119,119,110,110,110,110,32,110,110,110,119,110,110,119,110,119,32,119,110,110,119,110,110,119,110,110,32,110,110,119,119,110,110,119,110,110,32,119,110,110,110,110,119,110,110,119,32,110,110,119,110,110,119,110,110,119,32,119,110,119,110,110,119,110,110,110,32,110,110,110,110,119,119,110,110,119,32,119,110,110,110,119,119,110,110,110,32,110,110,119,110,119,119,110,110,110,32,110,110,110,110,110,119,119,110,119,32,119,110,110,110,110,119,119,110,110,32,110,110,119,110,110,119,119,110,110,32,110,110,110,110,119,119,119,110,110,32,119,110,110,110,110,110,110,119,119,32,110,110,119,110,110,110,110,119,119,32,119,110,119,110,110,110,110,119,110,32,110,110,110,110,119,110,110,119,119,32,119,110,110,110,119,110,110,119,110,32,110,110,119,110,119,110,110,119,110,32,110,110,110,110,110,110,119,119,119,32,119,110,110,110,110,110,119,119,110,32,110,110,119,110,110,110,119,119,110,32,110,110,110,110,119,110,119,119,110,32,119,119,110,110,110,110,110,110,119,32,110,119,119,110,110,110,110,110,119,32,119,119,119,110,110,110,110,110,110,32,110,119,110,110,119,110,110,110,119,32,119,119,110,110,119,110,110,110,110,32,110,119,119,110,119,110,110,110,110,32,110,119,110,110,110,110,119,110,119,32,119,119,110,110,110,110,119,110,110,32,110,119,119,110,110,110,119,110,110,32,110,119,110,119,110,119,110,110,110,32,110,119,110,119,110,110,110,119,110,32,110,119,110,110,110,119,110,119,110,32,110,110,110,119,110,119,110,119,110,32,110,119,110,110,119,110,119,110,110]
def bZ (i:Nat):UInt8:=if i % 2=0 then 49 else 48
def lG (c:UInt8):Nat:=if c=119 then 3 else 1
def fK : Nat → List UInt8 → List UInt8
 |_,[]=>[]
 |i,c :: p=>List.replicate (lG c) (bZ i)++fK (i+1) p
def cI (k:Nat):List UInt8:=rH.getD k []
def jQ (k:Nat):List UInt8:=fK 0 (cI k)
def fS : List Nat → List UInt8
 |[]=>[]
 |[k]=>jQ k
 |k :: k' :: ks=>jQ k++48 :: fS (k' :: ks)
theorem dR:∀k<44,(jQ k).length=15∧(jQ k).getD 0 0=49∧(jQ k).getD 14 0=49∧(cI k).length=9:=by decide +kernel
theorem OE:∀k<44,∀j<44,jQ k=jQ j→k=j:=by decide +kernel
theorem CO:∀k<44,∀j<44,cI k=cI j→k=j:=by decide +kernel
def gR (m:List UInt8) (j:Nat):Option Nat:=
 if m.length=16*j+15∨m[16*j+15]? = some 48 then (List.range 44).find? fun k=>jQ k==(m.drop (16*j)).take 15 else none
def OF (m : List UInt8) : Nat → Option (List Nat)
 |0=>some []
 |n+1=>match OF m n with
  |none=>none
  |some ks=>match gR m n with
   |none=>none
   |some k=>some (ks++[k])
def UK (m:List UInt8):Option (List Nat):=if (m.length+1) % 16=0 then OF m ((m.length+1) / 16) else none
def pat (rs:List Nat):List UInt8:=rs.map fun n=>if n=3 then 119 else 110
def gP (rs:List Nat) (j:Nat):Option Nat:=
 if (((rs.drop (10*j)).take 9).all fun n=>n==1||n==3)=true∧(10*j+9<rs.length→rs.getD (10*j+9) 0=1) then (List.range 44).find? fun k=>cI k==pat ((rs.drop (10*j)).take 9) else none
def vR (rs : List Nat) : Nat → Option (List Nat)
 |0=>some []
 |n+1=>match vR rs n with
  |none=>none
  |some ks=>match gP rs n with
   |none=>none
   |some k=>some (ks++[k])
def GS (rs:List Nat):Option (List Nat):=if rs.length % 10=9 then vR rs ((rs.length+1) / 10) else none
section
variable {g:Nat→Option Nat}
def kE (g : Nat → Option Nat) : Nat → Option (List Nat)
 |0=>some []
 |n+1=>match kE g n with
  |none=>none
  |some ks=>match g n with
   |none=>none
   |some k=>some (ks++[k])
theorem G7 (m : List UInt8) : ∀ n, OF m n = kE (gR m) n
 |0=>rfl
 |n+1=>by unfold OF kE;rw[G7 m n]
theorem pK (rs : List Nat) : ∀ n, vR rs n = kE (gP rs) n
 |0=>rfl
 |n+1=>by unfold vR kE;rw[pK rs n]
theorem rW {n:Nat} {ks:List Nat} {k:Nat} (h:kE g n=some ks) (hd:g n=some k):kE g (n+1)=some (ks++[k]):=by
 show (match kE g n with|none=>none|some ks=>match g n with|none=>none|some p=>some (ks++[p]))=_;rw[h];simp only[hd]
theorem yB {n : Nat} (hd : g n = none) : ∀ k, kE g (n + 1 + k) = none
 |0=>by
  show (match kE g n with|none=>none|some ps=>match g n with|none=>none|some p=>some (ps++[p]))=_;cases kE g n with
  |none=>rfl
  |some ps=>simp only[hd]
 |k+1=>by
  show (match kE g (n+1+k) with|none=>none|some ps=>match g (n+1+k) with|none=>none|some p=>some (ps++[p]))=_;rw[yB hd k]
theorem BC {n N:Nat} (hn:n<N) (hd:g n=none):kE g N=none:=by
 have:=yB hd (N-(n+1))
 rwa [show n+1+(N-(n+1))=N by omega] at this
theorem uK (ks:List Nat):∀n,kE g n=some ks↔ks.length=n∧∀j k,ks[j]? = some k→g j=some k:=by
 intro n;induction n generalizing ks with
 |zero=>
  constructor
  ·intro h;obtain rfl:=aLZ h;exact ⟨rfl,fun j k h=>by simp at h⟩
  ·rintro ⟨h,-⟩;obtain rfl:=List.length_eq_zero_iff.1 h;rfl
 |succ n ih=>
  constructor
  ·intro h;cases hp:kE g n with
   |none=>unfold kE at h;rw[hp] at h;cases h
   |some q=>
    cases hg:g n with
    |none=>unfold kE at h;rw[hp] at h;simp only[hg] at h;cases h
    |some k=>
     rw[rW hp hg] at h;obtain rfl:=aLZ h;obtain ⟨h1,h2⟩:=(ih q).1 hp;refine ⟨by rw[aLy,h1];rfl,fun j k' hj => ?_⟩;by_cases hlt:j<n
     ·rw[aLE (by omega)] at hj;exact h2 j k' hj
     ·have hib:j<(q++[k]).length:=(aLw.1 hj).1;rw[aLy,aLR] at hib;obtain rfl:j=n:=(by omega);rw[aLD (by omega),h1,Nat.sub_self] at hj;rw[hg,←hj];rfl
  ·rintro ⟨h1,h2⟩;rcases List.eq_nil_or_concat ks with rfl|⟨q,k,rfl⟩
   ·cases h1
   ·rw[List.concat_eq_append] at h1 h2 ⊢;rw[aLy,aLR] at h1;refine rW ((ih q).2 ⟨by omega,fun j k' hj=>h2 j k' ?_⟩) (h2 n k ?_)
    ·rw[aLE (aLw.1 hj).1];exact hj
    ·rw[aLD (by omega),show n-q.length=0 by omega];rfl
end
theorem iV (m:List UInt8) (ks:List Nat):UK m=some ks↔m.length+1=16*ks.length∧∀j k,ks[j]? = some k→gR m j=some k:=by
 unfold UK;by_cases h:(m.length+1) % 16=0
 ·rw[if_pos h,G7,uK];constructor
  ·rintro ⟨h1,h2⟩;exact ⟨by omega,h2⟩
  ·rintro ⟨h1,h2⟩;exact ⟨by omega,h2⟩
 ·rw[if_neg h];constructor
  ·intro h';cases h'
  ·rintro ⟨h1,-⟩;omega
theorem kT (rs:List Nat) (ks:List Nat):GS rs=some ks↔rs.length+1=10*ks.length∧∀j k,ks[j]? = some k→gP rs j=some k:=by
 unfold GS;by_cases h:rs.length % 10=9
 ·rw[if_pos h,pK,uK];constructor
  ·rintro ⟨h1,h2⟩;exact ⟨by omega,h2⟩
  ·rintro ⟨h1,h2⟩;exact ⟨by omega,h2⟩
 ·rw[if_neg h];constructor
  ·intro h';cases h'
  ·rintro ⟨h1,-⟩;omega
theorem nC {p:Nat→Bool} {k:Nat} (h:(List.range 44).find? p=some k):k<44∧p k=true:=⟨List.mem_range.1 (List.mem_of_find?_eq_some h),List.find?_some h⟩
theorem H6 {p:Nat→Bool} {k:Nat} (hk:k<44) (hp:p k=true) (hu:∀j<44,p j=true→j=k):(List.range 44).find? p=some k:=by
 cases hf:(List.range 44).find? p with
 |none=>have:=List.find?_eq_none.1 hf k (List.mem_range.2 hk);exact absurd hp this
 |some j=>obtain ⟨h1,h2⟩:=nC hf;rw[hu j h1 h2]
theorem vS (m:List UInt8) (j k:Nat):gR m j=some k↔(m.length=16*j+15∨m[16*j+15]? = some 48)∧k<44∧(m.drop (16*j)).take 15=jQ k:=by
 unfold gR;by_cases h:m.length=16*j+15∨m[16*j+15]? = some 48
 ·rw[if_pos h];constructor
  ·intro hf;obtain ⟨h1,h2⟩:=nC hf;exact ⟨h,h1,(beq_iff_eq.1 h2).symm⟩
  ·rintro ⟨-,h1,h2⟩;exact H6 h1 (beq_iff_eq.2 h2.symm) fun i hi hp=>OE i hi k h1 ((beq_iff_eq.1 hp).trans h2)
 ·rw[if_neg h];constructor
  ·intro h';cases h'
  ·rintro ⟨h',-⟩;exact absurd h' h
theorem CP (rs:List Nat) (j k:Nat):gP rs j=some k↔((((rs.drop (10*j)).take 9).all fun n=>n==1||n==3)=true∧(10*j+9<rs.length→rs.getD (10*j+9) 0=1))∧k<44∧pat ((rs.drop (10*j)).take 9)=cI k:=by
 unfold gP;by_cases h:(((rs.drop (10*j)).take 9).all fun n=>n==1||n==3)=true∧(10*j+9<rs.length→rs.getD (10*j+9) 0=1)
 ·rw[if_pos h];constructor
  ·intro hf;obtain ⟨h1,h2⟩:=nC hf;exact ⟨h,h1,(beq_iff_eq.1 h2).symm⟩
  ·rintro ⟨-,h1,h2⟩;exact H6 h1 (beq_iff_eq.2 h2.symm) fun i hi hp=>CO i hi k h1 ((beq_iff_eq.1 hp).trans h2)
 ·rw[if_neg h];constructor
  ·intro h';cases h'
  ·rintro ⟨h',-⟩;exact absurd h' h
def aI : Nat → List Nat → List UInt8
 |_,[]=>[]
 |i,n :: rs=>List.replicate n (bZ i)++aI (i+1) rs
theorem U8 (i:Nat):bZ (i+2)=bZ i:=by unfold bZ;rw[show (i+2) % 2=i % 2 by omega]
theorem jR (i : Nat) : ∀ rs, aI (i + 2) rs = aI i rs
 |[]=>rfl
 |n :: rs=>by
  show List.replicate n (bZ (i+2))++aI (i+1+2) rs=List.replicate n (bZ i)++aI (i+1) rs;rw[U8,jR (i+1) rs]
theorem bF (i : Nat) : ∀ a b, aI i (a ++ b) = aI i a ++ aI (i + a.length) b
 |[],b=>rfl
 |n :: a,b=>by
  show List.replicate n (bZ i)++aI (i+1) (a++b)=(List.replicate n (bZ i)++aI (i+1) a)++aI (i+(a.length+1)) b;rw[bF (i+1) a b,aLL,show i+1+a.length=i+(a.length+1) by omega]
theorem OG (i:Nat):bZ i≠bZ (i+1):=by
 unfold bZ;rcases Nat.mod_two_eq_zero_or_one i with h|h
 ·rw[if_pos h,if_neg (by omega)];decide
 ·rw[if_neg (by omega),if_pos (by omega)];decide
theorem yC {i:Nat} {rs:List Nat} {b:UInt8} (h1:∀n∈rs,1≤n) (h:(aI i rs)[0]? = some b):b=bZ i:=by
 cases rs with
 |nil=>cases h
 |cons n rs=>have:=h1 n (List.mem_cons_self ..);obtain ⟨n',rfl⟩:∃n',n=n'+1:=⟨n-1,by omega⟩;unfold aI at h;rw[List.replicate_succ] at h;exact (aLZ h).symm
theorem H8 {a b c : UInt8} (hbc : b ≠ c) : ∀ {n n' : Nat} {s s' : List UInt8}, (∀ x, s[0]? = some x → x = c) → (∀ x, s'[0]? = some x → x = c) → List.replicate n b ++ s = List.replicate n' b ++ s' → n = n' ∧ s = s'
 |0,0,s,s',_,_,h=>⟨rfl,h⟩
 |0,n'+1,s,s',h1,_,h=>by
  exfalso;simp only[List.replicate_zero,List.nil_append,List.replicate_succ,List.cons_append] at h;exact hbc (h1 b (by rw[h];rfl))
 |n+1,0,s,s',_,h2,h=>by
  exfalso;simp only[List.replicate_zero,List.nil_append,List.replicate_succ,List.cons_append] at h;exact hbc (h2 b (by rw[←h];rfl))
 |n+1,n'+1,s,s',h1,h2,h=>by
  simp only[List.replicate_succ,List.cons_append,List.cons.injEq,true_and] at h;obtain ⟨e1,e2⟩:=H8 (a:=a) hbc h1 h2 h;exact ⟨by omega,e2⟩
theorem qG : ∀ {rs rs' : List Nat} {i : Nat}, (∀ n ∈ rs, 1 ≤ n) → (∀ n ∈ rs', 1 ≤ n) → aI i rs = aI i rs' → rs = rs'
 |[],[],_,_,_,_=>rfl
 |[],n :: rs',i,_,h2,h=>by
  exfalso;have:=h2 n (List.mem_cons_self ..);have hl:=congrArg List.length h;unfold aI at hl;rw[aLy,aLF] at hl;simp at hl;omega
 |n :: rs,[],i,h1,_,h=>by
  exfalso;have:=h1 n (List.mem_cons_self ..);have hl:=congrArg List.length h;unfold aI at hl;rw[aLy,aLF] at hl;simp at hl;omega
 |n :: rs,n' :: rs',i,h1,h2,h=>by
  have g1:∀m∈rs,1≤m:=fun m hm=>h1 m (List.mem_cons_of_mem _ hm);have g2:∀m∈rs',1≤m:=fun m hm=>h2 m (List.mem_cons_of_mem _ hm);obtain ⟨e1,e2⟩:=H8 (a:=0) (OG i) (fun x hx=>yC g1 hx) (fun x hx=>yC g2 hx) h;rw[e1,qG g1 g2 e2]
def pC (k:Nat):List Nat:=(cI k).map lG
def K8 : List Nat → List Nat
 |[]=>[]
 |[k]=>pC k
 |k :: k' :: ks=>pC k++1 :: K8 (k' :: ks)
theorem uL (i : Nat) : ∀ p, aI i (p.map lG) = fK i p
 |[]=>rfl
 |c :: p=>by
  show List.replicate (lG c) (bZ i)++aI (i+1) (p.map lG)=List.replicate (lG c) (bZ i)++fK (i+1) p;rw[uL (i+1) p]
theorem Q0 (i:Nat) (rs:List Nat):aI (i+10) rs=aI i rs:=by
 rw[show i+10=i+8+2 by omega,jR,show i+8=i+6+2 by omega,jR,show i+6=i+4+2 by omega,jR,show i+4=i+2+2 by omega,jR,jR]
theorem kU {k:Nat} (h:k<44):(pC k).length=9:=by unfold pC;rw[aLz];exact (dR k h).2.2.2
theorem IA (c:UInt8):1≤lG c:=by unfold lG;split<;>decide
theorem LL {k:Nat} (h:k<44) (rs:List Nat):aI 0 (pC k++1 :: rs)=jQ k++48 :: aI 0 rs:=by
 rw[bF,kU h];have e1:aI 0 (pC k)=jQ k:=uL 0 _;rw[e1];show jQ k++(List.replicate 1 (bZ 9)++aI (0+10) rs)=_;rw[Q0];rfl
theorem nV : ∀ {ks : List Nat}, (∀ k ∈ ks, k < 44) → aI 0 (K8 ks) = fS ks
 |[],_=>rfl
 |[k],_=>uL 0 _
 |k :: k' :: ks,h=>by
  show aI 0 (pC k++1 :: K8 (k' :: ks))=jQ k++48 :: fS (k' :: ks);rw[LL (h k (List.mem_cons_self ..)),nV (fun x hx=>h x (List.mem_cons_of_mem _ hx))]
theorem OH : ∀ {ks : List Nat}, ∀ n ∈ K8 ks, 1 ≤ n
 |[],n,h=>by cases h
 |[k],n,h=>by
  obtain ⟨c,-,rfl⟩:=aMf.1 h;exact IA c
 |k :: k' :: ks,n,h=>by
  rcases aLM.1 h with h|h
  ·obtain ⟨c,-,rfl⟩:=aMf.1 h;exact IA c
  ·rcases aLN.1 h with rfl|h
   ·exact Nat.le_refl _
   ·exact OH n h
theorem OI {k:Nat} (hk:k<44) (m:List UInt8) (j:Nat):gR (jQ k++48 :: m) (j+1)=gR m j:=by
 have hl:(jQ k++[48]).length=16:=(by rw[aLy,(dR k hk).1];rfl);have e:jQ k++48 :: m=(jQ k++[48])++m:=(by simp);unfold gR;rw[e,aLy,hl,show 16*(j+1)=16+16*j by omega,←List.drop_drop,List.drop_left' hl,show 16+16*j+15=16+(16*j+15) by omega,aLD (by omega),hl,show 16+(16*j+15)-16=16*j+15 by omega];have:(16+m.length=16+(16*j+15)∨m[16*j+15]? = some 48)↔(m.length=16*j+15∨m[16*j+15]? = some 48):=by
  constructor
  ·rintro (h|h);exact .inl (by omega);exact .inr h
  ·rintro (h|h);exact .inl (by omega);exact .inr h
 simp only[this]
theorem OJ {k:Nat} (hk:k<44) (rs:List Nat) (j:Nat):gP (pC k++1 :: rs) (j+1)=gP rs j:=by
 have hl:(pC k++[1]).length=10:=(by rw[aLy,kU hk];rfl);have e:pC k++1 :: rs=(pC k++[1])++rs:=(by simp);unfold gP;rw[e,aLy,hl,show 10*(j+1)=10+10*j by omega,←List.drop_drop,List.drop_left' hl,show 10+10*j+9=10+(10*j+9) by omega,aLx,aLD (by omega),hl,show 10+(10*j+9)-10=10*j+9 by omega,←aLx];have:((10+(10*j+9)<10+rs.length)→rs.getD (10*j+9) 0=1)↔((10*j+9<rs.length)→rs.getD (10*j+9) 0=1):=by
  constructor
  ·intro h h';exact h (by omega)
  ·intro h h';exact h (by omega)
 simp only[this]
theorem pL : ∀ {ks : List Nat}, ks ≠ [] → (∀ k ∈ ks, k < 44) → UK (fS ks) = some ks
 |[],h,_=>absurd rfl h
 |[k],_,h=>by
  have hk:=h k (List.mem_cons_self ..);rw[iV];show (jQ k).length+1=16∧_;refine ⟨by rw[(dR k hk).1],fun j k' hj => ?_⟩;have hj0:j=0:=(by have:=(aLw.1 hj).1;simp at this;omega);subst hj0;obtain rfl:=aLZ hj;rw[vS];exact ⟨.inl (dR k hk).1,hk,aL6 (by show (jQ k).length≤15;rw[(dR k hk).1];omega)⟩
 |k :: k' :: ks,_,h=>by
  have hk:=h k (List.mem_cons_self ..);obtain ⟨h1,h2⟩:=(iV _ _).1 (pL (ks:=k' :: ks) (by simp) (fun x hx=>h x (List.mem_cons_of_mem _ hx)));rw[iV];refine ⟨?_,fun j k0 hj => ?_⟩
  ·show (jQ k++48 :: fS (k' :: ks)).length+1=_;rw[aLy,aLB,(dR k hk).1,h1];simp only[aLB];omega
  ·cases j with
   |zero=>
    obtain rfl:=aLZ hj;rw[vS];refine ⟨.inr ?_,hk,?_⟩
    ·show (jQ k++48 :: fS (k' :: ks))[15]? = some 48;rw[aLD (by rw[(dR k hk).1];omega),(dR k hk).1];rfl
    ·show (jQ k++48 :: fS (k' :: ks)).take 15=jQ k;rw[aL2 (dR k hk).1]
   |succ j=>show gR (jQ k++48 :: fS (k' :: ks)) (j+1)=_;rw[OI hk];exact h2 j k0 hj
theorem xH:∀k<44,((pC k).all fun n=>n==1||n==3)=true∧pat (pC k)=cI k:=by decide +kernel
theorem OK : ∀ {ks : List Nat}, ks ≠ [] → (∀ k ∈ ks, k < 44) → GS (K8 ks) = some ks
 |[],h,_=>absurd rfl h
 |[k],_,h=>by
  have hk:=h k (List.mem_cons_self ..);rw[kT];show (pC k).length+1=10∧_;refine ⟨by rw[kU hk],fun j k' hj => ?_⟩;have hj0:j=0:=(by have:=(aLw.1 hj).1;simp at this;omega);subst hj0;obtain rfl:=aLZ hj;rw[CP];have e:((K8 [k]).drop (10*0)).take 9=pC k:=aL6 (by show (pC k).length≤9;rw[kU hk];omega);rw[e];exact ⟨⟨(xH k hk).1,fun h=>absurd h (by show ¬10*0+9<(pC k).length;rw[kU hk];omega)⟩,hk,(xH k hk).2⟩
 |k :: k' :: ks,_,h=>by
  have hk:=h k (List.mem_cons_self ..);obtain ⟨h1,h2⟩:=(kT _ _).1 (OK (ks:=k' :: ks) (by simp) (fun x hx=>h x (List.mem_cons_of_mem _ hx)));rw[kT];refine ⟨?_,fun j k0 hj => ?_⟩
  ·show (pC k++1 :: K8 (k' :: ks)).length+1=_;rw[aLy,aLB,kU hk,h1];simp only[aLB];omega
  ·cases j with
   |zero=>
    obtain rfl:=aLZ hj;rw[CP];have e:((K8 (k :: k' :: ks)).drop (10*0)).take 9=pC k:=by
     show (pC k++1 :: K8 (k' :: ks)).take 9=pC k;rw[aL2 (kU hk)]
    rw[e];refine ⟨⟨(xH k hk).1,fun _ => ?_⟩,hk,(xH k hk).2⟩;show (pC k++1 :: K8 (k' :: ks)).getD 9 0=1;rw[aLx,aLD (by rw[kU hk];omega),kU hk];rfl
   |succ j=>show gP (pC k++1 :: K8 (k' :: ks)) (j+1)=_;rw[OJ hk];exact h2 j k0 hj
theorem U9 {m:List UInt8} {ks:List Nat} (h:UK m=some ks):∀k∈ks,k<44:=fun k hk=>by
 obtain ⟨j,hj,rfl⟩:=aL4 hk;exact ((vS _ _ _).1 (((iV _ _).1 h).2 j _ (aLv hj))).2.1
theorem aCM {rs:List Nat} {ks:List Nat} (h:GS rs=some ks):∀k∈ks,k<44:=fun k hk=>by
 obtain ⟨j,hj,rfl⟩:=aL4 hk;exact ((CP _ _ _).1 (((kT _ _).1 h).2 j _ (aLv hj))).2.1
theorem LM {m:List UInt8} {ks:List Nat} (h:UK m=some ks):ks≠[]:=fun e=>by
 have:=((iV _ _).1 h).1;rw[e] at this;simp at this
theorem VA {rs:List Nat} {ks:List Nat} (h:GS rs=some ks):ks≠[]:=fun e=>by
 have:=((kT _ _).1 h).1;rw[e] at this;simp at this
theorem yD : ∀ {ks : List Nat} {m : List UInt8}, UK m = some ks → m = fS ks
 |[],m,h=>absurd rfl (LM h)
 |[k],m,h=>by
  obtain ⟨h1,h2⟩:=(iV _ _).1 h;obtain ⟨-,-,h5⟩:=(vS _ _ _).1 (h2 0 k rfl);have hl:m.length=15:=(by simp at h1;omega);have:(m.drop (16*0)).take 15=m:=aL6 (by show m.length≤15;omega);rw[this] at h5;exact h5
 |k :: k' :: ks,m,h=>by
  obtain ⟨h1,h2⟩:=(iV _ _).1 h;obtain ⟨h3,hk,h5⟩:=(vS _ _ _).1 (h2 0 k rfl);simp only[aLB] at h1;have h48:m[15]? = some 48:=by
   rcases h3 with h3|h3
   ·omega
   ·exact h3
  have hm:m=jQ k++48 :: m.drop 16:=by
   have h5':m.take 15=jQ k:=h5;conv=>lhs;rw[←aLK 15 m,h5']
   congr 1
   have h15:15<m.length:=(by omega);rw[aL7 h15];rw[aLv h15] at h48;rw[aLZ h48]
  have hr:UK (m.drop 16)=some (k' :: ks):=by
   rw[iV];refine ⟨by rw[aLJ];simp only[aLB];omega,fun j k0 hj => ?_⟩;have:=h2 (j+1) k0 hj;rw[hm,OI hk] at this;exact this
  rw[hm];show _=jQ k++48 :: fS (k' :: ks);rw[←yD hr]
theorem VB {rs:List Nat} (h:(rs.all fun n=>n==1||n==3)=true):(pat rs).map lG=rs:=by
 unfold pat;rw[aMg];conv=>rhs;rw[←List.map_id rs]
 apply List.map_congr_left;intro n hn;have:=aLO.1 h n hn;simp only[Bool.or_eq_true,beq_iff_eq] at this;rcases this with rfl|rfl<;>rfl
theorem IB : ∀ {ks : List Nat} {rs : List Nat}, GS rs = some ks → rs = K8 ks
 |[],rs,h=>absurd rfl (VA h)
 |[k],rs,h=>by
  obtain ⟨h1,h2⟩:=(kT _ _).1 h;obtain ⟨⟨h3,-⟩,-,h5⟩:=(CP _ _ _).1 (h2 0 k rfl);have hl:rs.length=9:=(by simp at h1;omega);have e:(rs.drop (10*0)).take 9=rs:=aL6 (by show rs.length≤9;omega);rw[e] at h3 h5;show rs=(cI k).map lG;rw[←h5,VB h3]
 |k :: k' :: ks,rs,h=>by
  obtain ⟨h1,h2⟩:=(kT _ _).1 h;obtain ⟨⟨h3,h4⟩,hk,h5⟩:=(CP _ _ _).1 (h2 0 k rfl);simp only[aLB] at h1;have h9:9<rs.length:=(by omega);have hx:rs[9]=1:=by
   have:=h4 (by omega);rw[aLx,aLv h9] at this;exact this
  have hm:rs=pC k++1 :: rs.drop 10:=by
   have e:rs.take 9=pC k:=by
    have h5':pat (rs.take 9)=cI k:=h5;show rs.take 9=(cI k).map lG;rw[←h5'];exact (VB h3).symm
   conv=>lhs;rw[←aLK 9 rs,e]
   congr 1
   rw[aL7 h9,hx]
  have hr:GS (rs.drop 10)=some (k' :: ks):=by
   rw[kT];refine ⟨by rw[aLJ];simp only[aLB];omega,fun j k0 hj => ?_⟩;have:=h2 (j+1) k0 hj;rw[hm,OJ hk] at this;exact this
  rw[hm];show _=pC k++1 :: K8 (k' :: ks);rw[←IB hr]
theorem aAg {m:List UInt8} {rs:List Nat} (h1:∀n∈rs,1≤n) (he:aI 0 rs=m):GS rs=UK m:=by
 cases hp:GS rs with
 |some ks=>have e:=IB hp;have hlt:=aCM hp;rw[←he,e,nV hlt,pL (VA hp) hlt]
 |none=>
  cases hm:UK m with
  |none=>rfl
  |some ks=>exfalso;have e:=yD hm;have hlt:=U9 hm;have:rs=K8 ks:=qG h1 OH (by rw[he,e,nV hlt]);rw[this,OK (LM hm) hlt] at hp;cases hp
end Go.Proofs.YtllefinciimffaaGreatDoor
namespace Go.Proofs.YtllefinciimffaaGreatDoor
open Go.RowKit
def PtReads (w:World) (P:Option Addr) (W:Nat) (l:List Nat):Prop:=0<l.length→∃g,P=some ⟨g,0,none⟩∧∀j i,l[j]? = some i→w.cell? ⟨g,j*2,none⟩=some (.int .i64 ((i % W:Nat):Int))∧w.cell? ⟨g,j*2+1,none⟩=some (.int .i64 ((i / W:Nat):Int))
theorem PtReads.bl {w w':World} {P:Option Addr} {W:Nat} {l:List Nat} (h:PtReads w P W l) (hb:Bl w w'):PtReads w' P W l:=fun h0=>
 let ⟨g,e,hc⟩:=h h0
 ⟨g,e,fun j i hi=>⟨hb.at (hc j i hi).1,hb.at (hc j i hi).2⟩⟩
def aGA (bs:List Bool) (W H:Nat) (n:Int) (k:Nat):Int:=((aGz bs W H n k:Nat):Int)
def ProfRes (w:World) (err:Int) (bs:List Bool) (W H:Int) (n:Int) (P:Option Addr) (m:Nat):Prop:=
 (err=0→m=2*H.toNat∧Reads w 1 P m ((ZS m (aGA bs W.toNat H.toNat n)).map (.int .i64)))∧(err≠0→m=0∧P=none)
theorem ProfRes.bl {w w':World} {err:Int} {bs:List Bool} {W H n:Int} {P:Option Addr} {m:Nat} (h:ProfRes w err bs W H n P m) (hb:Bl w w'):ProfRes w' err bs W H n P m:=
 ⟨fun e=>⟨(h.1 e).1,(h.1 e).2.bl hb⟩,h.2⟩
end Go.Proofs.YtllefinciimffaaGreatDoor
namespace Go.Proofs.YtllefinciimffaaGreatDoor
def le3 (num far:Nat→Nat) (i j:Nat):Prop:=num i<num j∨(num i=num j∧(far i<far j∨(far i=far j∧i≤j)))
def BestA (num far:Nat→Nat) (m b:Nat):Prop:=b<m∧∀j,j<m→le3 num far b j
theorem BestA.take {num far:Nat→Nat} {m b:Nat} (h:BestA num far m b) (hm:num m<num b∨(num m=num b∧far m<far b)):BestA num far (m+1) m:=by
 refine ⟨by omega,fun j hj => ?_⟩;rcases Nat.lt_or_ge j m with hl|hl
 ·have:=h.2 j hl;unfold le3 at this ⊢;omega
 ·obtain rfl:j=m:=(by omega);unfold le3;omega
def Seen (far:Nat→Nat) (K f m j:Nat):Prop:=j<K∧(far j<f∨(far j=f∧j<m))
def BestN (num far:Nat→Nat) (K f m b:Nat):Prop:=Seen far K f m b∧∀j,Seen far K f m j→le3 num far b j
theorem BestN.first {num far:Nat→Nat} {K f m:Nat} (h:∀j,¬Seen far K f m j) (hm:m<K) (hf:far m=f):BestN num far K f (m+1) m:=by
 refine ⟨⟨hm,Or.inr ⟨hf,by omega⟩⟩,fun j hj => ?_⟩;have hn:=h j;unfold Seen at hj hn;obtain rfl:j=m:=(by omega);unfold le3;omega
theorem BestN.take {num far:Nat→Nat} {K f m b:Nat} (h:BestN num far K f m b) (hm:m<K) (hf:far m=f) (hn:num m<num b):BestN num far K f (m+1) m:=by
 refine ⟨⟨hm,Or.inr ⟨hf,by omega⟩⟩,fun j hj => ?_⟩;by_cases hs:Seen far K f m j
 ·have:=h.2 j hs;unfold le3 at this ⊢;omega
 ·unfold Seen at hj hs;obtain rfl:j=m:=(by omega);unfold le3;omega
def LN (r j:Nat):Int:=((j % (2*r+1):Nat):Int)-r
def LP (r j:Nat):Int:=((j / (2*r+1):Nat):Int)-r
def nW (r j:Nat):Nat:=(LN r j).natAbs+(LP r j).natAbs
theorem VC (r v u:Nat) (hu:u<2*r+1):LN r (v*(2*r+1)+u)=(u:Int)-r:=by
 unfold LN;rw[Nat.mul_comm,Nat.mul_add_mod,Nat.mod_eq_of_lt hu]
theorem VD (r v u:Nat) (hu:u<2*r+1):LP r (v*(2*r+1)+u)=(v:Int)-r:=by
 unfold LP;rw[Nat.mul_comm,Nat.mul_add_div (by omega),Nat.div_eq_of_lt hu,Nat.add_zero]
def ER (bs cs:List Bool) (W H:Nat) (dx dy:Int) (i:Nat):Bool:=bs.getD i false != atI cs W H (((i % W:Nat):Int)-dx) (((i / W:Nat):Int)-dy)
def ZT (bs cs : List Bool) (W H : Nat) (dx dy : Int) : Nat → Nat
 |0=>0
 |n+1=>ZT bs cs W H dx dy n+(if ER bs cs W H dx dy n then 1 else 0)
theorem LQ (bs cs:List Bool) (W H:Nat) (dx dy:Int) (n:Nat):ZT bs cs W H dx dy n≤n:=by
 induction n with
 |zero=>exact Nat.le_refl 0
 |succ n ih=>unfold ZT;split<;>omega
def StN (num:Nat→Nat) (r f m:Nat) (x y n:Int) (found:Bool):Prop:=
 (found=false∧n=0∧∀j,¬Seen (nW r) ((2*r+1)*(2*r+1)) f m j)∨(found=true∧∃b,BestN num (nW r) ((2*r+1)*(2*r+1)) f m b∧x=LN r b∧y=LP r b∧n=num b)
theorem StN.take {num:Nat→Nat} {r f m:Nat} {x y n:Int} {found:Bool} (h:StN num r f m x y n found) (hm:m<(2*r+1)*(2*r+1)) (hf:nW r m=f) (hc:found=false∨(num m:Int)<n):StN num r f (m+1) (LN r m) (LP r m) (num m) true:=by
 rcases h with ⟨h1,h2,h3⟩|⟨h1,b,hb,rfl,rfl,rfl⟩
 ·exact Or.inr ⟨rfl,m,BestN.first h3 hm hf,rfl,rfl,rfl⟩
 ·have hlt:num m<num b:=by
   rcases hc with hc|hc
   ·simp[h1] at hc
   ·omega
  exact Or.inr ⟨rfl,m,hb.take hm hf hlt,rfl,rfl,rfl⟩
def BestO (ok:Nat→Bool) (num far:Nat→Nat) (m b:Nat):Prop:=b<m∧ok b=true∧∀j,j<m→ok j=true→le3 num far b j
def StO (ok:Nat→Bool) (num:Nat→Nat) (r m:Nat) (x y n:Int):Prop:=
 ((∀j,j<m→ok j=false)∧x=0∧y=0∧n = -1)∨∃b,BestO ok num (nW r) m b∧x=LN r b∧y=LP r b∧n=num b
theorem StO.start (ok:Nat→Bool) (num:Nat→Nat) (r:Nat):StO ok num r 0 0 0 (-1):=.inl ⟨fun _j hj=>absurd hj (Nat.not_lt_zero _),rfl,rfl,rfl⟩
theorem StO.skip {ok:Nat→Bool} {num:Nat→Nat} {r m:Nat} {x y n:Int} (h:StO ok num r m x y n) (hk:ok m=false):StO ok num r (m+1) x y n:=by
 rcases h with ⟨h1,h2⟩|⟨b,⟨hb,hb2,hb3⟩,h2⟩
 ·refine .inl ⟨fun j hj => ?_,h2⟩;rcases Nat.lt_succ_iff_lt_or_eq.1 hj with hl|rfl
  ·exact h1 j hl
  ·exact hk
 ·refine .inr ⟨b,⟨by omega,hb2,fun j hj hj2 => ?_⟩,h2⟩;rcases Nat.lt_succ_iff_lt_or_eq.1 hj with hl|rfl
  ·exact hb3 j hl hj2
  ·rw[hk] at hj2;cases hj2
theorem StO.step {ok:Nat→Bool} {num:Nat→Nat} {r m:Nat} {x y n:Int} (h:StO ok num r m x y n) (hk:ok m=true) :
 (n<0∨(num m:Int)<n∨((num m:Int)=n∧(nW r m:Int)<x.natAbs+y.natAbs)→StO ok num r (m+1) (LN r m) (LP r m) (num m)) ∧
 (¬(n<0∨(num m:Int)<n∨((num m:Int)=n∧(nW r m:Int)<x.natAbs+y.natAbs))→StO ok num r (m+1) x y n):=by
 rcases h with ⟨h1,rfl,rfl,rfl⟩|⟨b,⟨hb,hb2,hb3⟩,rfl,rfl,rfl⟩
 ·refine ⟨fun _=>.inr ⟨m,⟨by omega,hk,fun j hj hj2 => ?_⟩,rfl,rfl,rfl⟩,fun hn=>absurd (Or.inl (by decide)) hn⟩;rcases Nat.lt_succ_iff_lt_or_eq.1 hj with hl|rfl
  ·rw[h1 j hl] at hj2;cases hj2
  ·unfold le3;omega
 ·have e:((LN r b).natAbs:Int)+(LP r b).natAbs=(nW r b:Int):=(by unfold nW;simp);rw[e];refine ⟨fun hc=>.inr ⟨m,⟨by omega,hk,fun j hj hj2 => ?_⟩,rfl,rfl,rfl⟩,fun hc=>.inr ⟨b,⟨by omega,hb2,fun j hj hj2 => ?_⟩,rfl,rfl,rfl⟩⟩
  ·rcases Nat.lt_succ_iff_lt_or_eq.1 hj with hl|rfl
   ·have:=hb3 j hl hj2;unfold le3 at this ⊢;omega
   ·unfold le3;omega
  ·rcases Nat.lt_succ_iff_lt_or_eq.1 hj with hl|rfl
   ·exact hb3 j hl hj2
   ·unfold le3;omega
def yE (ok:Nat→Bool) (num:Nat→Nat) (r m:Nat) (p:Int × Int × Int):Int × Int × Int:=
 if ok m=true∧(p.2.2<0∨(num m:Int)<p.2.2∨((num m:Int)=p.2.2∧(nW r m:Int)<p.1.natAbs+p.2.1.natAbs)) then (LN r m,LP r m,(num m:Int)) else p
def nD (ok : Nat → Bool) (num : Nat → Nat) (r : Nat) : Nat → Int × Int × Int
 |0=>(0,0,-1)
 |m+1=>yE ok num r m (nD ok num r m)
theorem ES (ok : Nat → Bool) (num : Nat → Nat) (r : Nat) : ∀ m, StO ok num r m (nD ok num r m).1 (nD ok num r m).2.1 (nD ok num r m).2.2
 |0=>StO.start ok num r
 |m+1=>by
  have ih:=ES ok num r m;show StO ok num r (m+1) (yE ok num r m (nD ok num r m)).1 (yE ok num r m (nD ok num r m)).2.1 (yE ok num r m (nD ok num r m)).2.2;generalize nD ok num r m=p at ih;unfold yE;by_cases hk:ok m=true
  ·by_cases hc:p.2.2<0∨(num m:Int)<p.2.2∨((num m:Int)=p.2.2∧(nW r m:Int)<p.1.natAbs+p.2.1.natAbs)
   ·rw[if_pos ⟨hk,hc⟩];exact (ih.step hk).1 hc
   ·rw[if_neg (fun h=>hc h.2)];exact (ih.step hk).2 hc
  ·rw[if_neg (fun h=>hk h.1)];exact ih.skip (by simpa using hk)
theorem StO.bd {ok:Nat→Bool} {num:Nat→Nat} {r m:Nat} {x y n:Int} (h:StO ok num r m x y n) (hm:m≤(2*r+1)*(2*r+1)) (hr:r≤40):(-40≤x∧x≤40)∧(-40≤y∧y≤40):=by
 rcases h with ⟨_,rfl,rfl,_⟩|⟨b,hb,rfl,rfl,_⟩
 ·omega
 ·have h1:b % (2*r+1)<2*r+1:=Nat.mod_lt _ (by omega);have h2:b / (2*r+1)<2*r+1:=Nat.div_lt_of_lt_mul (Nat.lt_of_lt_of_le hb.1 hm);unfold LN LP;generalize b % (2*r+1)=p at h1 ⊢;generalize b / (2*r+1)=q at h2 ⊢;omega
def SeenO (ok:Nat→Bool) (far:Nat→Nat) (K f m j:Nat):Prop:=Seen far K f m j∧ok j=true
def BestP (ok:Nat→Bool) (num far:Nat→Nat) (K f m b:Nat):Prop:=SeenO ok far K f m b∧∀j,SeenO ok far K f m j→le3 num far b j
def StP (ok:Nat→Bool) (num:Nat→Nat) (r f m:Nat) (x y n:Int) (found:Bool):Prop:=
 (found=false∧x=0∧y=0∧n=0∧∀j,¬SeenO ok (nW r) ((2*r+1)*(2*r+1)) f m j)∨(found=true∧∃b,BestP ok num (nW r) ((2*r+1)*(2*r+1)) f m b∧x=LN r b∧y=LP r b∧n=num b)
theorem Seen.succ {far:Nat→Nat} {K f m j:Nat} (h:Seen far K f (m+1) j):Seen far K f m j∨(j=m∧far m=f):=by
 unfold Seen at h ⊢;rcases h with ⟨h1,h2|⟨h2,h3⟩⟩
 ·exact .inl ⟨h1,.inl h2⟩
 ·rcases Nat.lt_succ_iff_lt_or_eq.1 h3 with h|rfl
  ·exact .inl ⟨h1,.inr ⟨h2,h⟩⟩
  ·exact .inr ⟨rfl,h2⟩
theorem Seen.mono {far:Nat→Nat} {K f m j:Nat} (h:Seen far K f m j):Seen far K f (m+1) j:=by
 unfold Seen at h ⊢;omega
theorem StP.take {ok:Nat→Bool} {num:Nat→Nat} {r f m:Nat} {x y n:Int} {found:Bool} (h:StP ok num r f m x y n found) (hm:m<(2*r+1)*(2*r+1)) (hf:nW r m=f) (hk:ok m=true) (hc:found=false∨(num m:Int)<n):StP ok num r f (m+1) (LN r m) (LP r m) (num m) true:=by
 refine .inr ⟨rfl,m,⟨⟨⟨hm,.inr ⟨hf,by omega⟩⟩,hk⟩,fun j hj => ?_⟩,rfl,rfl,rfl⟩;rcases hj.1.succ with h1|⟨rfl,-⟩
 ·rcases h with ⟨-,-,-,-,h5⟩|⟨hfd,b,⟨hb,hb2⟩,-,-,hn⟩
  ·exact absurd ⟨h1,hj.2⟩ (h5 j)
  ·have hl:=hb2 j ⟨h1,hj.2⟩;have hlt:num m<num b:=by
    rcases hc with hc|hc
    ·rw[hfd] at hc;cases hc
    ·omega
   unfold le3 at hl ⊢;omega
 ·unfold le3;omega
def nE (l:List Int):List Int:=l.mergeSort fun x y=>decide (x≤y)
theorem yF (l:List Int):(nE l).length=l.length:=List.length_mergeSort _
theorem IC {l:List Int} {x:Int}:x∈nE l↔x∈l:=List.mem_mergeSort
end Go.Proofs.YtllefinciimffaaGreatDoor
namespace Go.Proofs.YtllefinciimffaaGreatDoor
open Go.RowKit
def CQ (bs:List Bool) (W H:Nat) (dx dy:Int) (x y:Nat):Bool:=atI bs W H ((x:Int)-dx) ((y:Int)-dy)
theorem aAh (bs cs:List Bool) (W H i:Nat) (hi:i<W*H):ER bs cs W H 0 0 i=(bs.getD i false != cs.getD i false):=by
 obtain ⟨h1,h2,h3⟩:=eK hi;unfold ER;rw[Int.sub_zero,Int.sub_zero,CC cs W H _ _ h1 h2,nA hi]
section
variable {P:Program} {ops:Array Oper} {Q:Exit→Act→World→Prop} {md:Region.Mode} {S:World→Prop}
inductive Tree
 | none
 | one (i:Nat) (σ:List (Bool × Nat)) (sub:Tree) (rest:Tree)
def Tree.idx : Tree → List Nat
 |.none=>[]
 |.one i _ _ rest=>i :: rest.idx
def Tree.isNone : Tree → Bool
 |.none=>true
 |.one .. => false
def Tree.depth : Tree → Nat
 |.none=>0
 |.one _ σ sub rest=>max (1+σ.length+sub.depth) rest.depth
def CR (md : Region.Mode) (ops : Array Oper) : List (Bool × Nat) → Array Bool → Bool
 |[],_=>true
 |(true,i) :: σ,listed=>(Region.ready md ops listed).contains i&&Region.free md ops listed i&&CR md ops σ (listed.setIfInBounds i true)
 |(false,_) :: _,_=>false
def ID (md : Region.Mode) (ops : Array Oper) : Tree → Array Bool → Bool
 |.none,_=>true
 |.one i σ sub rest, listed => (if sub.isNone then rU md ops σ (listed.setIfInBounds i true)
  else CR md ops σ (listed.setIfInBounds i true)&&Region.ready md ops (vN σ (listed.setIfInBounds i true))==sub.idx&&ID md ops sub (vN σ (listed.setIfInBounds i true)))&&ID md ops rest listed
def TreeWp (P : Program) (ops : Array Oper) (Q : Exit → Act → World → Prop) (S : World → Prop) : Tree → Act → World → Prop
 |.none,_,_=>True
 |.one i σ sub rest,a,w=>wpOp P ops (NoPanic Q) i (fun a' w'=>S w'∧(if sub.isNone then FlowS P ops (NoPanic Q) S σ a' w' else FlowS P ops (NoPanic (aAf (TreeWp P ops Q S sub) Q)) S σ a' w')) a w∧TreeWp P ops Q S rest a w
theorem yG (hs:Region.noSelect ops=true) (hQ:∀c a d v w,Q (.panic c) (Act.put a d v) w→Q (.panic c) a w) {R:Exit→Act→World→Prop} {n:Nat} :
 ∀ (σ : List (Bool × Nat)) (fuel : Nat) (listed : Array Bool) (a : Act) (w : World), listed.size = ops.size → DownClosed md ops listed → σ.length + n ≤ fuel → CR md ops σ listed = true → S w →
  (∀(fuel:Nat) (a:Act) (w:World),(vN σ listed).size=ops.size→DownClosed md ops (vN σ listed)→n≤fuel→S w→R .normal a w→vL P md ops Q S fuel (vN σ listed) a w) →
  FlowS P ops R S σ a w→vL P md ops Q S fuel listed a w:=by
 intro σ;induction σ with
 |nil=>intro fuel listed a w hsz hdc hf hok hS hK h;exact hK fuel a w hsz hdc (by simpa using hf) hS h
 |cons s σ ih=>
  obtain ⟨b,i⟩:=s;intro fuel listed a w hsz hdc hf hok hS hK h;cases fuel with
  |zero=>simp at hf
  |succ fuel=>
   have hf':σ.length+n≤fuel:=(by simp at hf;omega);cases b with
   |true=>simp only[CR,aLV] at hok;obtain ⟨⟨h1,h2⟩,h4⟩:=hok;obtain ⟨o,v,ho,hy,hfl⟩:=h;have hir:i∈Region.ready md ops listed:=(by simpa using h1);exact vM ho (Region.noSelect_spec hs) (fun c a w=>hQ c a o.dst v w) fuel listed a w hsz hdc (Region.free_spec ho h2) hir hS hy (ih fuel _ _ _ (by simpa using hsz) (hdc.set hir) hf' h4 hS hK hfl)
   |false=>simp[CR] at hok
theorem Q2 (hs : Region.noSelect ops = true) : ∀ (B : Tree) (fuel : Nat) (listed : Array Bool) (a : Act) (w : World), listed.size = ops.size → DownClosed md ops listed → B.depth ≤ fuel + 1 → (∀ i ∈ B.idx, i ∈ Region.ready md ops listed) →
 ID md ops B listed=true→TreeWp P ops Q S B a w→∀i∈B.idx,wpOp P ops (NoPanic Q) i (fun a' w'=>S w'∧vL P md ops (NoPanic Q) S fuel (listed.setIfInBounds i true) a' w') a w:=by
 intro B;induction B with
 |none=>intro fuel listed a w _ _ _ _ _ _ i hi;cases hi
 |one j σ sub rest ihs ihr=>
  intro fuel listed a w hsz hdc hf hrd hok h i hi;have hf1:1+σ.length+sub.depth≤fuel+1:=aMb (Nat.le_max_left _ _) hf;have hf2:rest.depth≤fuel+1:=aMb (Nat.le_max_right _ _) hf;simp only[ID,aLV] at hok;obtain ⟨hk1,hk2⟩:=hok;obtain ⟨h1,h2⟩:=h;rcases aLN.1 hi with rfl|hi'
  ·have hir:=hrd i hi;refine wpOp_mono (fun a' w' h'=>⟨h'.1,?_⟩) h1;have h'':=h'.2;have hS':=h'.1;cases hn:sub.isNone with
   |true=>rw[hn] at h'' hk1;exact LJ hs nT σ fuel _ _ _ (by simpa using hsz) (hdc.set hir) (by omega) hk1 hS' h''
   |false=>
    rw[hn] at h'' hk1;simp only[Bool.false_eq_true,if_false,aLV,beq_iff_eq] at h'' hk1;obtain ⟨⟨k1,k2⟩,k3⟩:=hk1;refine yG (n:=sub.depth) hs nT σ fuel _ _ _ (by simpa using hsz) (hdc.set hir) (by omega) k1 hS' ?_ h'';intro fuel' a2 w2 aFS aGM hf' hS2 hK;have hK':TreeWp P ops Q S sub a2 w2:=hK;have hne:sub.idx≠[]:=by
     cases sub with
     |none=>cases hn
     |one=>exact List.cons_ne_nil _ _
    have hd1:1≤sub.depth:=by
     cases sub with
     |none=>cases hn
     |one i2 s2 a2 b2=>exact aMb (by omega) (Nat.le_max_left _ _)
    cases fuel' with
    |zero=>omega
    |succ fuel'=>refine ⟨fun h0=>absurd (k2.symm.trans h0) hne,fun k hk => ?_⟩;refine ihs fuel' _ a2 w2 aFS aGM (by omega) (fun i hi=>by rw[k2];exact hi) k3 hK' k (by rw[←k2];exact hk)
  ·exact ihr fuel listed a w hsz hdc hf2 (fun i hi=>hrd i (List.mem_cons_of_mem _ hi)) hk2 h2 i hi'
theorem rI {id : Nat} {a : Act} {w : World} (S : World → Prop) (σ : List (Bool × Nat)) (B : Tree) (hm : P.follows .mixedOrders = true) (hs : Region.noSelect ops = true)
 (hl:(decide (σ.length+B.depth≤ops.size)&&!B.isNone)=true) (hok:(CR .any ops σ (Array.replicate ops.size false)&&Region.ready .any ops (vN σ (Array.replicate ops.size false))==B.idx&&ID .any ops B (vN σ (Array.replicate ops.size false)))=true) (hS:S w.drew)
 (h:FlowS P ops (NoPanic (aAf (TreeWp P ops Q S B) Q)) S σ a w.drew):(Code.region id ops true).wp P Q a w:=by
 simp only[aLV,beq_iff_eq,Bool.not_eq_true',decide_eq_true_eq] at hl hok;obtain ⟨hl,hn⟩:=hl;obtain ⟨⟨k1,k2⟩,k3⟩:=hok;refine wp_region_noPanic (wp_region_any hm (CG _ _ _ _ (yG (n:=B.depth) hs nT σ _ _ _ _ (by simp) oM (by omega) k1 hS ?_ h)));intro fuel a2 w2 aFS aGM hf' hS2 hK;have hK':TreeWp P ops Q S B a2 w2:=hK;have hne:B.idx≠[]:=by
  cases B with
  |none=>cases hn
  |one=>exact List.cons_ne_nil _ _
 have hd1:1≤B.depth:=by
  cases B with
  |none=>cases hn
  |one i2 s2 a2 b2=>exact aMb (by omega) (Nat.le_max_left _ _)
 cases fuel with
 |zero=>omega
 |succ fuel=>refine ⟨fun h0=>absurd (k2.symm.trans h0) hne,fun k hk => ?_⟩;exact Q2 hs B fuel _ a2 w2 aFS aGM (by omega) (fun i hi=>by rw[k2];exact hi) k3 hK' k (by rw[←k2];exact hk)
theorem Tree.fork {B:Tree} {a:Act} {w:World} (h:TreeWp P ops Q S B a w):FlowS P ops (NoPanic (aAf (TreeWp P ops Q S B) Q)) S [] a w:=h
theorem Tree.nil {a:Act} {w:World}:TreeWp P ops Q S .none a w:=trivial
variable {l:List Oper}
theorem Tree.last {i : Nat} {o : Oper} {σ : List (Bool × Nat)} {rest : Tree} {a : Act} {w : World} (ho : l[i]? = some o)
 (h:wpList P l.toArray (Exit.then (fun a' w'=>S w'∧FlowS P l.toArray (NoPanic Q) S σ a' w') (NoPanic Q)) [o] a w) (hr:TreeWp P l.toArray Q S rest a w):TreeWp P l.toArray Q S (.one i σ .none rest) a w:=by
 have ho':l.toArray[i]? = some o:=(by simpa using ho);refine ⟨?_,hr⟩;simp only[wpOp,ho',Tree.isNone,if_true];simp only[wpList] at h;exact h
theorem Tree.part {i : Nat} {o : Oper} {σ : List (Bool × Nat)} {rest : Tree} {i2 : Nat} {s2 : List (Bool × Nat)} {a2 b2 : Tree} {a : Act} {w : World} (ho : l[i]? = some o)
 (h:wpList P l.toArray (Exit.then (fun a' w'=>S w'∧FlowS P l.toArray (NoPanic (aAf (TreeWp P l.toArray Q S (.one i2 s2 a2 b2)) Q)) S σ a' w') (NoPanic Q)) [o] a w) (hr:TreeWp P l.toArray Q S rest a w):TreeWp P l.toArray Q S (.one i σ (.one i2 s2 a2 b2) rest) a w:=by
 have ho':l.toArray[i]? = some o:=(by simpa using ho);refine ⟨?_,hr⟩;simp only[wpOp,ho',Tree.isNone,Bool.false_eq_true,if_false];simp only[wpList] at h;exact h
end
structure Two (w:World) (B:Nat) (e:TypeId) (vx:Value) (n:Nat) (xs:List Value) (vy:Value) (m:Nat) (ys:List Value):Prop where
 x:w.ownsRow B e 1 vx n xs
 y:w.ownsRow B e 1 vy m ys
 ne:∀k,vx.ownBlock=some k→vy.ownBlock≠some k
theorem Two.bl {w w':World} {B:Nat} {e:TypeId} {vx vy:Value} {n m:Nat} {xs ys:List Value} (h:Two w B e vx n xs vy m ys) (hb:Bl w w'):Two w' B e vx n xs vy m ys:=⟨fX h.x hb,fX h.y hb,h.ne⟩
theorem Two.swap {w:World} {B:Nat} {e:TypeId} {vx vy:Value} {n m:Nat} {xs ys:List Value} (h:Two w B e vx n xs vy m ys):Two w B e vy m ys vx n xs:=⟨h.y,h.x,fun k hk e=>h.ne k e hk⟩
theorem Two.nil (w:World) (B:Nat) (e:TypeId):Two w B e (.slice none 0 0) 0 [] (.slice none 0 0) 0 []:=⟨World.ownsRow_nil _ _ _ _,World.ownsRow_nil _ _ _ _,fun _ h=>by cases h⟩
section
variable {P:Program}
theorem dK {w1 wr : World} {ops : Array Oper} {rest : List Oper} {o : Oper} {a : Act} {Q : Exit → Act → World → Prop} (hgd : o.guard = none) (s x : Operand) (t : TypeId)
 (ho:o.op=.call { callee:=.builtin .append,args:=#[s,x],argTypes:=#[t,t] })
 (e:TypeId) (z:Value) (bytes:Nat) (ht:P.underlying t=some (.slice e)) (hi:(P.info? e).map (fun i=>(i.zero,i.size,i.bytes))=some (some z,1,bytes))
 (hzs:z.cells.size=1) (B:Nat) (vx:Value) (n:Nat) (xs:List Value) (vy:Value) (m:Nat) (ys:List Value) (hs:a.eval s=vx) (hT:Two wr B e vx n xs vy m ys)
 (g:Nat) (u:Value) (hx:a.eval x=.slice (some ⟨g,0,none⟩) 1 1) (hg:Blk wr g e #[u]) (h1:u.oneCell'=true)
 (hb:Bl w1 wr) (hB:w1.heap.size≤B) (hBr:B≤wr.heap.size) (K1:(n+1)*bytes≤140737488355328) (h63:n+1≤maxLen)
 (h:∀v' w',Two w' B e v' (n+1) (xs++[u]) vy m ys→Bl w1 w'→wr.heap.size≤w'.heap.size→(∀k,k<wr.heap.size→vx.ownBlock≠some k→w'.heap[k]? = wr.heap[k]?)→wpList P ops Q rest (a.put o.dst v') w'):wpList P ops Q (o :: rest) a wr:=by
 obtain ⟨i,hi',hz,aDC,hby⟩:=info_parts hi;refine wpList_plain hgd fun K hK => ?_;obtain ⟨v',w',aEP,h2,h3,-,h5⟩:=run_append_own_at (P:=P) wr B t o.type e i z 1 bytes ht hi' hz aDC hby hzs (by omega) vx n xs hT.x ⟨g,0,none⟩ 1 1 [u] rfl (fun j y hy=>by
  rcases j with _|j
  ·simp at hy;subst hy;exact hg.cell 0
  ·simp at hy) (fun y hy=>by rw[aLQ.1 hy];exact h1) h63 K1 hBr
 have hbl:Bl w1 w':=Below.grown hb h3 (aMb hB hBr) (fun k hk=>aMb hB (hT.x.lt k hk).1);have hy:w'.ownsRow B e 1 vy m ys:=hT.y.kept h3 (by
  cases hk:vy.ownBlock with
  |none=>exact .inl rfl
  |some k=>exact .inr fun he=>hT.ne k he.symm hk)
 unfold Oper.wp execOp;simp only[ho,resolve,invoke,builtin,Sem.run_bind,Sem.run_pure,Result.andThen_ok,List.map_toArray,List.map_cons,List.map_nil,hs,hx,aEP];refine hK _ _ (h v' w' ⟨h2,hy,fun k hk he => ?_⟩ hbl h3.size fun k hk hne=>h3.block k hk (fun h=>hne h.symm));rcases h5 with h5|h5
 ·exact hT.ne k (h5.symm.trans hk) he
 ·obtain rfl:wr.heap.size=k:=aLZ (h5.symm.trans hk);exact absurd (hT.y.lt _ he).2 (Nat.lt_irrefl _)
end
end Go.Proofs.YtllefinciimffaaGreatDoor
