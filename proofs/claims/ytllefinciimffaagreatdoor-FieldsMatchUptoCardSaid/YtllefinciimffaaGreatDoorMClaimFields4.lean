import Derived.Test.YtllefinciimffaaGreatDoorMClaimFields3
set_option maxHeartbeats 20000000
set_option maxRecDepth 100000
namespace Go.Proofs.YtllefinciimffaaGreatDoor
def eU:List UInt8:=[48,49,50,51,52,53,54,55,56,57,65,66,67,68,69,70,71,72,73,74,75,76,77,78,79,80,81,82,83,84,85,86,87,88,89,90,45,46,32,36,47,43,37,42]
def nZ:List (List UInt8):=[[110,110,110,119,119,110,119,110,110],[119,110,110,119,110,110,110,110,119],[110,110,119,119,110,110,110,110,119],[119,110,119,119,110,110,110,110,110],[110,110,110,119,119,110,110,110,119],[119,110,110,119,119,110,110,110,110],[110,110,119,119,119,110,110,110,110],[110,110,110,119,110,110,119,110,119],[119,110,110,119,110,110,119,110,110],[110,110,119,119,110,110,119,110,110],[119,110,110,110,110,119,110,110,119],[110,110,119,110,110,119,110,110,119],[119,110,119,110,110,119,110,110,110],[110,110,110,110,119,119,110,110,119],[119,110,110,110,119,119,110,110,110],[110,110,119,110,119,119,110,110,110],[110,110,110,110,110,119,119,110,119],[119,110,110,110,110,119,119,110,110],[110,110,119,110,110,119,119,110,110],[110,110,110,110,119,119,119,110,110],[119,110,110,110,110,110,110,119,119],[110,110,119,110,110,110,110,119,119],[119,110,119,110,110,110,110,119,110],[110,110,110,110,119,110,110,119,119],[119,110,110,110,119,110,110,119,110],[110,110,119,110,119,110,110,119,110],[110,110,110,110,110,110,119,119,119],[119,110,110,110,110,110,119,119,110],[110,110,119,110,110,110,119,119,110],[110,110,110,110,119,110,119,119,110],[119,119,110,110,110,110,110,110,119],[110,119,119,110,110,110,110,110,119],[119,119,119,110,110,110,110,110,110],[110,119,110,110,119,110,110,110,119],[119,119,110,110,119,110,110,110,110],[110,119,119,110,119,110,110,110,110],[110,119,110,110,110,110,119,110,119],[119,119,110,110,110,110,119,110,110],[110,119,119,110,110,110,119,110,110],[110,119,110,119,110,119,110,110,110],[110,119,110,119,110,110,110,119,110],[110,119,110,110,110,119,110,119,110],[110,110,110,119,110,119,110,119,110],[110,119,110,110,119,110,119,110,110]]
def MA:List UInt8:=[110,110,110,119,119,110,119,110,110,32,119,110,110,119,110,110,110,110,119,32,110,110,119,119,110,110,110,110,119,32,119,110,119,119,110,110,110,110,110,32,110,110,110,119,119,110,110,110,119,32,119,110,110,119,119,110,110,110,110,32,110,110,119,119,119,110,110,110,110,32,110,110,110,119,110,110,119,110,119,32,119,110,110,119,110,110,119,110,110,32,110,110,119,119,110,110,119,110,110,32,119,110,110,110,110,119,110,110,119,32,110,110,119,110,110,119,110,110,119,32,119,110,119,110,110,119,110,110,110,32,110,110,110,110,119,119,110,110,119,32,119,110,110,110,119,119,110,110,110,32,110,110,119,110,119,119,110,110,110,32,110,110,110,110,110,119,119,110,119,32,119,110,110,110,110,119,119,110,110,32,110,110,119,110,110,119,119,110,110,32,110,110,110,110,119,119,119,110,110,32,119,110,110,110,110,110,110,119,119,32,110,110,119,110,110,110,110,119,119,32,119,110,119,110,110,110,110,119,110,32,110,110,110,110,119,110,110,119,119,32,119,110,110,110,119,110,110,119,110,32,110,110,119,110,119,110,110,119,110,32,110,110,110,110,110,110,119,119,119,32,119,110,110,110,110,110,119,119,110,32,110,110,119,110,110,110,119,119,110,32,110,110,110,110,119,110,119,119,110,32,119,119,110,110,110,110,110,110,119,32,110,119,119,110,110,110,110,110,119,32,119,119,119,110,110,110,110,110,110,32,110,119,110,110,119,110,110,110,119,32,119,119,110,110,119,110,110,110,110,32,110,119,119,110,119,110,110,110,110,32,110,119,110,110,110,110,119,110,119,32,119,119,110,110,110,110,119,110,110,32,110,119,119,110,110,110,119,110,110,32,110,119,110,119,110,119,110,110,110,32,110,119,110,119,110,110,110,119,110,32,110,119,110,110,110,119,110,119,110,32,110,110,110,119,110,119,110,119,110,32,110,119,110,110,119,110,119,110,110]
def d9 (i:Nat):UInt8:=if i % 2=0 then 49 else 48
def lK (c:UInt8):Nat:=if c=119 then 3 else 1
def fX : Nat → List UInt8 → List UInt8
 |_,[]=>[]
 |i,c :: p=>List.replicate (lK c) (d9 i)++fX (i+1) p
def eD (k:Nat):List UInt8:=nZ.getD k []
def qG (k:Nat):List UInt8:=fX 0 (eD k)
def zM : List Nat → List UInt8
 |[]=>[]
 |[k]=>qG k
 |k :: k' :: ks=>qG k++48 :: zM (k' :: ks)
theorem eZ:∀k<44,(qG k).length=15∧(qG k).getD 0 0=49∧(qG k).getD 14 0=49∧(eD k).length=9:=by decide +kernel
theorem MB:∀k<44,∀j<44,qG k=qG j→k=j:=by decide +kernel
theorem AS:∀k<44,∀j<44,eD k=eD j→k=j:=by decide +kernel
def gR (m:List UInt8) (j:Nat):Option Nat:=
 if m.length=16*j+15∨m[16*j+15]? = some 48 then (List.range 44).find? fun k=>qG k==(m.drop (16*j)).take 15 else none
def uE (m : List UInt8) : Nat → Option (List Nat)
 |0=>some []
 |n+1=>match uE m n with
  |none=>none
  |some ks=>match gR m n with
   |none=>none
   |some k=>some (ks++[k])
def FK (m:List UInt8):Option (List Nat):=if (m.length+1) % 16=0 then uE m ((m.length+1) / 16) else none
def pat (rs:List Nat):List UInt8:=rs.map fun n=>if n=3 then 119 else 110
def gP (rs:List Nat) (j:Nat):Option Nat:=
 if (((rs.drop (10*j)).take 9).all fun n=>n==1||n==3)=true∧(10*j+9<rs.length→rs.getD (10*j+9) 0=1) then (List.range 44).find? fun k=>eD k==pat ((rs.drop (10*j)).take 9) else none
def uF (rs : List Nat) : Nat → Option (List Nat)
 |0=>some []
 |n+1=>match uF rs n with
  |none=>none
  |some ks=>match gP rs n with
   |none=>none
   |some k=>some (ks++[k])
def EX (rs:List Nat):Option (List Nat):=if rs.length % 10=9 then uF rs ((rs.length+1) / 10) else none
section
variable {g:Nat→Option Nat}
def jF (g : Nat → Option Nat) : Nat → Option (List Nat)
 |0=>some []
 |n+1=>match jF g n with
  |none=>none
  |some ks=>match g n with
   |none=>none
   |some k=>some (ks++[k])
theorem oK (m : List UInt8) : ∀ n, uE m n = jF (gR m) n
 |0=>rfl
 |n+1=>by unfold uE jF;rw[oK m n]
theorem oL (rs : List Nat) : ∀ n, uF rs n = jF (gP rs) n
 |0=>rfl
 |n+1=>by unfold uF jF;rw[oL rs n]
theorem nK {n:Nat} {ks:List Nat} {k:Nat} (h:jF g n=some ks) (hd:g n=some k):jF g (n+1)=some (ks++[k]):=by
 show (match jF g n with|none=>none|some ks=>match g n with|none=>none|some p=>some (ks++[p]))=_;rw[h];simp only[hd]
theorem wY {n : Nat} (hd : g n = none) : ∀ k, jF g (n + 1 + k) = none
 |0=>by
  show (match jF g n with|none=>none|some ps=>match g n with|none=>none|some p=>some (ps++[p]))=_;cases jF g n with
  |none=>rfl
  |some ps=>simp only[hd]
 |k+1=>by
  show (match jF g (n+1+k) with|none=>none|some ps=>match g (n+1+k) with|none=>none|some p=>some (ps++[p]))=_;rw[wY hd k]
theorem pW {n N:Nat} (hn:n<N) (hd:g n=none):jF g N=none:=by
 have:=wY hd (N-(n+1))
 rwa [show n+1+(N-(n+1))=N by omega] at this
theorem o8 (ks:List Nat):∀n,jF g n=some ks↔ks.length=n∧∀j k,ks[j]? = some k→g j=some k:=by
 intro n;induction n generalizing ks with
 |zero=>
  constructor
  ·intro h;obtain rfl:=aIw h;exact ⟨rfl,fun j k h=>by simp at h⟩
  ·rintro ⟨h,-⟩;obtain rfl:=List.length_eq_zero_iff.1 h;rfl
 |succ n ih=>
  constructor
  ·intro h;cases hp:jF g n with
   |none=>unfold jF at h;rw[hp] at h;cases h
   |some q=>
    cases hg:g n with
    |none=>unfold jF at h;rw[hp] at h;simp only[hg] at h;cases h
    |some k=>
     rw[nK hp hg] at h;obtain rfl:=aIw h;obtain ⟨h1,h2⟩:=(ih q).1 hp;refine ⟨by rw[aH5,h1];rfl,fun j k' hj => ?_⟩;by_cases hlt:j<n
     ·rw[aIb (by omega)] at hj;exact h2 j k' hj
     ·have hib:j<(q++[k]).length:=(aH3.1 hj).1;rw[aH5,aIo] at hib;obtain rfl:j=n:=(by omega);rw[aIa (by omega),h1,Nat.sub_self] at hj;rw[hg,←hj];rfl
  ·rintro ⟨h1,h2⟩;rcases List.eq_nil_or_concat ks with rfl|⟨q,k,rfl⟩
   ·cases h1
   ·rw[List.concat_eq_append] at h1 h2 ⊢;rw[aH5,aIo] at h1;refine nK ((ih q).2 ⟨by omega,fun j k' hj=>h2 j k' ?_⟩) (h2 n k ?_)
    ·rw[aIb (aH3.1 hj).1];exact hj
    ·rw[aIa (by omega),show n-q.length=0 by omega];rfl
end
theorem jZ (m:List UInt8) (ks:List Nat):FK m=some ks↔m.length+1=16*ks.length∧∀j k,ks[j]? = some k→gR m j=some k:=by
 unfold FK;by_cases h:(m.length+1) % 16=0
 ·rw[if_pos h,oK,o8];constructor
  ·rintro ⟨h1,h2⟩;exact ⟨by omega,h2⟩
  ·rintro ⟨h1,h2⟩;exact ⟨by omega,h2⟩
 ·rw[if_neg h];constructor
  ·intro h';cases h'
  ·rintro ⟨h1,-⟩;omega
theorem kC (rs:List Nat) (ks:List Nat):EX rs=some ks↔rs.length+1=10*ks.length∧∀j k,ks[j]? = some k→gP rs j=some k:=by
 unfold EX;by_cases h:rs.length % 10=9
 ·rw[if_pos h,oL,o8];constructor
  ·rintro ⟨h1,h2⟩;exact ⟨by omega,h2⟩
  ·rintro ⟨h1,h2⟩;exact ⟨by omega,h2⟩
 ·rw[if_neg h];constructor
  ·intro h';cases h'
  ·rintro ⟨h1,-⟩;omega
theorem kJ {p:Nat→Bool} {k:Nat} (h:(List.range 44).find? p=some k):k<44∧p k=true:=⟨List.mem_range.1 (List.mem_of_find?_eq_some h),List.find?_some h⟩
theorem FM {p:Nat→Bool} {k:Nat} (hk:k<44) (hp:p k=true) (hu:∀j<44,p j=true→j=k):(List.range 44).find? p=some k:=by
 cases hf:(List.range 44).find? p with
 |none=>have:=List.find?_eq_none.1 hf k (List.mem_range.2 hk);exact absurd hp this
 |some j=>obtain ⟨h1,h2⟩:=kJ hf;rw[hu j h1 h2]
theorem oM (m:List UInt8) (j k:Nat):gR m j=some k↔(m.length=16*j+15∨m[16*j+15]? = some 48)∧k<44∧(m.drop (16*j)).take 15=qG k:=by
 unfold gR;by_cases h:m.length=16*j+15∨m[16*j+15]? = some 48
 ·rw[if_pos h];constructor
  ·intro hf;obtain ⟨h1,h2⟩:=kJ hf;exact ⟨h,h1,(beq_iff_eq.1 h2).symm⟩
  ·rintro ⟨-,h1,h2⟩;exact FM h1 (beq_iff_eq.2 h2.symm) fun i hi hp=>MB i hi k h1 ((beq_iff_eq.1 hp).trans h2)
 ·rw[if_neg h];constructor
  ·intro h';cases h'
  ·rintro ⟨h',-⟩;exact absurd h' h
theorem AT (rs:List Nat) (j k:Nat):gP rs j=some k↔((((rs.drop (10*j)).take 9).all fun n=>n==1||n==3)=true∧(10*j+9<rs.length→rs.getD (10*j+9) 0=1))∧k<44∧pat ((rs.drop (10*j)).take 9)=eD k:=by
 unfold gP;by_cases h:(((rs.drop (10*j)).take 9).all fun n=>n==1||n==3)=true∧(10*j+9<rs.length→rs.getD (10*j+9) 0=1)
 ·rw[if_pos h];constructor
  ·intro hf;obtain ⟨h1,h2⟩:=kJ hf;exact ⟨h,h1,(beq_iff_eq.1 h2).symm⟩
  ·rintro ⟨-,h1,h2⟩;exact FM h1 (beq_iff_eq.2 h2.symm) fun i hi hp=>AS i hi k h1 ((beq_iff_eq.1 hp).trans h2)
 ·rw[if_neg h];constructor
  ·intro h';cases h'
  ·rintro ⟨h',-⟩;exact absurd h' h
def bM : Nat → List Nat → List UInt8
 |_,[]=>[]
 |i,n :: rs=>List.replicate n (d9 i)++bM (i+1) rs
theorem SI (i:Nat):d9 (i+2)=d9 i:=by unfold d9;rw[show (i+2) % 2=i % 2 by omega]
theorem kL (i : Nat) : ∀ rs, bM (i + 2) rs = bM i rs
 |[]=>rfl
 |n :: rs=>by
  show List.replicate n (d9 (i+2))++bM (i+1+2) rs=List.replicate n (d9 i)++bM (i+1) rs;rw[SI,kL (i+1) rs]
theorem iM (i : Nat) : ∀ a b, bM i (a ++ b) = bM i a ++ bM (i + a.length) b
 |[],b=>rfl
 |n :: a,b=>by
  show List.replicate n (d9 i)++bM (i+1) (a++b)=(List.replicate n (d9 i)++bM (i+1) a)++bM (i+(a.length+1)) b;rw[iM (i+1) a b,aIi,show i+1+a.length=i+(a.length+1) by omega]
theorem MC (i:Nat):d9 i≠d9 (i+1):=by
 unfold d9;rcases Nat.mod_two_eq_zero_or_one i with h|h
 ·rw[if_pos h,if_neg (by omega)];decide
 ·rw[if_neg (by omega),if_pos (by omega)];decide
theorem wZ {i:Nat} {rs:List Nat} {b:UInt8} (h1:∀n∈rs,1≤n) (h:(bM i rs)[0]? = some b):b=d9 i:=by
 cases rs with
 |nil=>cases h
 |cons n rs=>have:=h1 n (List.mem_cons_self ..);obtain ⟨n',rfl⟩:∃n',n=n'+1:=⟨n-1,by omega⟩;unfold bM at h;rw[List.replicate_succ] at h;exact (aIw h).symm
theorem FN {a b c : UInt8} (hbc : b ≠ c) : ∀ {n n' : Nat} {s s' : List UInt8}, (∀ x, s[0]? = some x → x = c) → (∀ x, s'[0]? = some x → x = c) → List.replicate n b ++ s = List.replicate n' b ++ s' → n = n' ∧ s = s'
 |0,0,s,s',_,_,h=>⟨rfl,h⟩
 |0,n'+1,s,s',h1,_,h=>by
  exfalso;simp only[List.replicate_zero,List.nil_append,List.replicate_succ,aIO] at h;exact hbc (h1 b (by rw[h];rfl))
 |n+1,0,s,s',_,h2,h=>by
  exfalso;simp only[List.replicate_zero,List.nil_append,List.replicate_succ,aIO] at h;exact hbc (h2 b (by rw[←h];rfl))
 |n+1,n'+1,s,s',h1,h2,h=>by
  simp only[List.replicate_succ,aIO,List.cons.injEq,true_and] at h;obtain ⟨e1,e2⟩:=FN (a:=a) hbc h1 h2 h;exact ⟨by omega,e2⟩
theorem sY : ∀ {rs rs' : List Nat} {i : Nat}, (∀ n ∈ rs, 1 ≤ n) → (∀ n ∈ rs', 1 ≤ n) → bM i rs = bM i rs' → rs = rs'
 |[],[],_,_,_,_=>rfl
 |[],n :: rs',i,_,h2,h=>by
  exfalso;have:=h2 n (List.mem_cons_self ..);have hl:=congrArg List.length h;unfold bM at hl;rw[aH5,aIc] at hl;simp at hl;omega
 |n :: rs,[],i,h1,_,h=>by
  exfalso;have:=h1 n (List.mem_cons_self ..);have hl:=congrArg List.length h;unfold bM at hl;rw[aH5,aIc] at hl;simp at hl;omega
 |n :: rs,n' :: rs',i,h1,h2,h=>by
  have g1:∀m∈rs,1≤m:=fun m hm=>h1 m (List.mem_cons_of_mem _ hm);have g2:∀m∈rs',1≤m:=fun m hm=>h2 m (List.mem_cons_of_mem _ hm);obtain ⟨e1,e2⟩:=FN (a:=0) (MC i) (fun x hx=>wZ g1 hx) (fun x hx=>wZ g2 hx) h;rw[e1,sY g1 g2 e2]
def uG (k:Nat):List Nat:=(eD k).map lK
def MD : List Nat → List Nat
 |[]=>[]
 |[k]=>uG k
 |k :: k' :: ks=>uG k++1 :: MD (k' :: ks)
theorem sZ (i : Nat) : ∀ p, bM i (p.map lK) = fX i p
 |[]=>rfl
 |c :: p=>by
  show List.replicate (lK c) (d9 i)++bM (i+1) (p.map lK)=List.replicate (lK c) (d9 i)++fX (i+1) p;rw[sZ (i+1) p]
theorem OI (i:Nat) (rs:List Nat):bM (i+10) rs=bM i rs:=by
 rw[show i+10=i+8+2 by omega,kL,show i+8=i+6+2 by omega,kL,show i+6=i+4+2 by omega,kL,show i+4=i+2+2 by omega,kL,kL]
theorem kD {k:Nat} (h:k<44):(uG k).length=9:=by unfold uG;rw[aH6];exact (eZ k h).2.2.2
theorem FO (c:UInt8):1≤lK c:=by unfold lK;split<;>decide
theorem JQ {k:Nat} (h:k<44) (rs:List Nat):bM 0 (uG k++1 :: rs)=qG k++48 :: bM 0 rs:=by
 rw[iM,kD h];have e1:bM 0 (uG k)=qG k:=sZ 0 _;rw[e1];show qG k++(List.replicate 1 (d9 9)++bM (0+10) rs)=_;rw[OI];rfl
theorem qH : ∀ {ks : List Nat}, (∀ k ∈ ks, k < 44) → bM 0 (MD ks) = zM ks
 |[],_=>rfl
 |[k],_=>sZ 0 _
 |k :: k' :: ks,h=>by
  show bM 0 (uG k++1 :: MD (k' :: ks))=qG k++48 :: zM (k' :: ks);rw[JQ (h k (List.mem_cons_self ..)),qH (fun x hx=>h x (List.mem_cons_of_mem _ hx))]
theorem ME : ∀ {ks : List Nat}, ∀ n ∈ MD ks, 1 ≤ n
 |[],n,h=>by cases h
 |[k],n,h=>by
  obtain ⟨c,-,rfl⟩:=aIK.1 h;exact FO c
 |k :: k' :: ks,n,h=>by
  rcases aIj.1 h with h|h
  ·obtain ⟨c,-,rfl⟩:=aIK.1 h;exact FO c
  ·rcases aIk.1 h with rfl|h
   ·exact Nat.le_refl _
   ·exact ME n h
theorem MG {k:Nat} (hk:k<44) (m:List UInt8) (j:Nat):gR (qG k++48 :: m) (j+1)=gR m j:=by
 have hl:(qG k++[48]).length=16:=(by rw[aH5,(eZ k hk).1];rfl);have e:qG k++48 :: m=(qG k++[48])++m:=(by simp);unfold gR;rw[e,aH5,hl,show 16*(j+1)=16+16*j by omega,←List.drop_drop,List.drop_left' hl,show 16+16*j+15=16+(16*j+15) by omega,aIa (by omega),hl,show 16+(16*j+15)-16=16*j+15 by omega];have:(16+m.length=16+(16*j+15)∨m[16*j+15]? = some 48)↔(m.length=16*j+15∨m[16*j+15]? = some 48):=by
  constructor
  ·rintro (h|h);exact .inl (by omega);exact .inr h
  ·rintro (h|h);exact .inl (by omega);exact .inr h
 simp only[this]
theorem MI {k:Nat} (hk:k<44) (rs:List Nat) (j:Nat):gP (uG k++1 :: rs) (j+1)=gP rs j:=by
 have hl:(uG k++[1]).length=10:=(by rw[aH5,kD hk];rfl);have e:uG k++1 :: rs=(uG k++[1])++rs:=(by simp);unfold gP;rw[e,aH5,hl,show 10*(j+1)=10+10*j by omega,←List.drop_drop,List.drop_left' hl,show 10+10*j+9=10+(10*j+9) by omega,aH4,aIa (by omega),hl,show 10+(10*j+9)-10=10*j+9 by omega,←aH4];have:((10+(10*j+9)<10+rs.length)→rs.getD (10*j+9) 0=1)↔((10*j+9<rs.length)→rs.getD (10*j+9) 0=1):=by
  constructor
  ·intro h h';exact h (by omega)
  ·intro h h';exact h (by omega)
 simp only[this]
theorem FP : ∀ {ks : List Nat}, ks ≠ [] → (∀ k ∈ ks, k < 44) → FK (zM ks) = some ks
 |[],h,_=>absurd rfl h
 |[k],_,h=>by
  have hk:=h k (List.mem_cons_self ..);rw[jZ];show (qG k).length+1=16∧_;refine ⟨by rw[(eZ k hk).1],fun j k' hj => ?_⟩;have hj0:j=0:=(by have:=(aH3.1 hj).1;simp at this;omega);subst hj0;obtain rfl:=aIw hj;rw[oM];exact ⟨.inl (eZ k hk).1,hk,aID (by show (qG k).length≤15;rw[(eZ k hk).1];omega)⟩
 |k :: k' :: ks,_,h=>by
  have hk:=h k (List.mem_cons_self ..);obtain ⟨h1,h2⟩:=(jZ _ _).1 (FP (ks:=k' :: ks) (by simp) (fun x hx=>h x (List.mem_cons_of_mem _ hx)));rw[jZ];refine ⟨?_,fun j k0 hj => ?_⟩
  ·show (qG k++48 :: zM (k' :: ks)).length+1=_;rw[aH5,aH8,(eZ k hk).1,h1];simp only[aH8];omega
  ·cases j with
   |zero=>
    obtain rfl:=aIw hj;rw[oM];refine ⟨.inr ?_,hk,?_⟩
    ·show (qG k++48 :: zM (k' :: ks))[15]? = some 48;rw[aIa (by rw[(eZ k hk).1];omega),(eZ k hk).1];rfl
    ·show (qG k++48 :: zM (k' :: ks)).take 15=qG k;rw[aIz (eZ k hk).1]
   |succ j=>show gR (qG k++48 :: zM (k' :: ks)) (j+1)=_;rw[MG hk];exact h2 j k0 hj
theorem vS:∀k<44,((uG k).all fun n=>n==1||n==3)=true∧pat (uG k)=eD k:=by decide +kernel
theorem MJ : ∀ {ks : List Nat}, ks ≠ [] → (∀ k ∈ ks, k < 44) → EX (MD ks) = some ks
 |[],h,_=>absurd rfl h
 |[k],_,h=>by
  have hk:=h k (List.mem_cons_self ..);rw[kC];show (uG k).length+1=10∧_;refine ⟨by rw[kD hk],fun j k' hj => ?_⟩;have hj0:j=0:=(by have:=(aH3.1 hj).1;simp at this;omega);subst hj0;obtain rfl:=aIw hj;rw[AT];have e:((MD [k]).drop (10*0)).take 9=uG k:=aID (by show (uG k).length≤9;rw[kD hk];omega);rw[e];exact ⟨⟨(vS k hk).1,fun h=>absurd h (by show ¬10*0+9<(uG k).length;rw[kD hk];omega)⟩,hk,(vS k hk).2⟩
 |k :: k' :: ks,_,h=>by
  have hk:=h k (List.mem_cons_self ..);obtain ⟨h1,h2⟩:=(kC _ _).1 (MJ (ks:=k' :: ks) (by simp) (fun x hx=>h x (List.mem_cons_of_mem _ hx)));rw[kC];refine ⟨?_,fun j k0 hj => ?_⟩
  ·show (uG k++1 :: MD (k' :: ks)).length+1=_;rw[aH5,aH8,kD hk,h1];simp only[aH8];omega
  ·cases j with
   |zero=>
    obtain rfl:=aIw hj;rw[AT];have e:((MD (k :: k' :: ks)).drop (10*0)).take 9=uG k:=by
     show (uG k++1 :: MD (k' :: ks)).take 9=uG k;rw[aIz (kD hk)]
    rw[e];refine ⟨⟨(vS k hk).1,fun _ => ?_⟩,hk,(vS k hk).2⟩;show (uG k++1 :: MD (k' :: ks)).getD 9 0=1;rw[aH4,aIa (by rw[kD hk];omega),kD hk];rfl
   |succ j=>show gP (uG k++1 :: MD (k' :: ks)) (j+1)=_;rw[MI hk];exact h2 j k0 hj
theorem SJ {m:List UInt8} {ks:List Nat} (h:FK m=some ks):∀k∈ks,k<44:=fun k hk=>by
 obtain ⟨j,hj,rfl⟩:=aIB hk;exact ((oM _ _ _).1 (((jZ _ _).1 h).2 j _ (aH2 hj))).2.1
theorem SK {rs:List Nat} {ks:List Nat} (h:EX rs=some ks):∀k∈ks,k<44:=fun k hk=>by
 obtain ⟨j,hj,rfl⟩:=aIB hk;exact ((AT _ _ _).1 (((kC _ _).1 h).2 j _ (aH2 hj))).2.1
theorem JR {m:List UInt8} {ks:List Nat} (h:FK m=some ks):ks≠[]:=fun e=>by
 have:=((jZ _ _).1 h).1;rw[e] at this;simp at this
theorem SL {rs:List Nat} {ks:List Nat} (h:EX rs=some ks):ks≠[]:=fun e=>by
 have:=((kC _ _).1 h).1;rw[e] at this;simp at this
theorem xA : ∀ {ks : List Nat} {m : List UInt8}, FK m = some ks → m = zM ks
 |[],m,h=>absurd rfl (JR h)
 |[k],m,h=>by
  obtain ⟨h1,h2⟩:=(jZ _ _).1 h;obtain ⟨-,-,h5⟩:=(oM _ _ _).1 (h2 0 k rfl);have hl:m.length=15:=(by simp at h1;omega);have:(m.drop (16*0)).take 15=m:=aID (by show m.length≤15;omega);rw[this] at h5;exact h5
 |k :: k' :: ks,m,h=>by
  obtain ⟨h1,h2⟩:=(jZ _ _).1 h;obtain ⟨h3,hk,h5⟩:=(oM _ _ _).1 (h2 0 k rfl);simp only[aH8] at h1;have h48:m[15]? = some 48:=by
   rcases h3 with h3|h3
   ·omega
   ·exact h3
  have hm:m=qG k++48 :: m.drop 16:=by
   have h5':m.take 15=qG k:=h5;conv=>lhs;rw[←aIh 15 m,h5']
   congr 1
   have h15:15<m.length:=(by omega);rw[aIE h15];rw[aH2 h15] at h48;rw[aIw h48]
  have hr:FK (m.drop 16)=some (k' :: ks):=by
   rw[jZ];refine ⟨by rw[aIg];simp only[aH8];omega,fun j k0 hj => ?_⟩;have:=h2 (j+1) k0 hj;rw[hm,MG hk] at this;exact this
  rw[hm];show _=qG k++48 :: zM (k' :: ks);rw[←xA hr]
theorem SM {rs:List Nat} (h:(rs.all fun n=>n==1||n==3)=true):(pat rs).map lK=rs:=by
 unfold pat;rw[List.map_map];conv=>rhs;rw[←List.map_id rs]
 apply List.map_congr_left;intro n hn;have:=aIl.1 h n hn;simp only[Bool.or_eq_true,beq_iff_eq] at this;rcases this with rfl|rfl<;>rfl
theorem FQ : ∀ {ks : List Nat} {rs : List Nat}, EX rs = some ks → rs = MD ks
 |[],rs,h=>absurd rfl (SL h)
 |[k],rs,h=>by
  obtain ⟨h1,h2⟩:=(kC _ _).1 h;obtain ⟨⟨h3,-⟩,-,h5⟩:=(AT _ _ _).1 (h2 0 k rfl);have hl:rs.length=9:=(by simp at h1;omega);have e:(rs.drop (10*0)).take 9=rs:=aID (by show rs.length≤9;omega);rw[e] at h3 h5;show rs=(eD k).map lK;rw[←h5,SM h3]
 |k :: k' :: ks,rs,h=>by
  obtain ⟨h1,h2⟩:=(kC _ _).1 h;obtain ⟨⟨h3,h4⟩,hk,h5⟩:=(AT _ _ _).1 (h2 0 k rfl);simp only[aH8] at h1;have h9:9<rs.length:=(by omega);have hx:rs[9]=1:=by
   have:=h4 (by omega);rw[aH4,aH2 h9] at this;exact this
  have hm:rs=uG k++1 :: rs.drop 10:=by
   have e:rs.take 9=uG k:=by
    have h5':pat (rs.take 9)=eD k:=h5;show rs.take 9=(eD k).map lK;rw[←h5'];exact (SM h3).symm
   conv=>lhs;rw[←aIh 9 rs,e]
   congr 1
   rw[aIE h9,hx]
  have hr:EX (rs.drop 10)=some (k' :: ks):=by
   rw[kC];refine ⟨by rw[aIg];simp only[aH8];omega,fun j k0 hj => ?_⟩;have:=h2 (j+1) k0 hj;rw[hm,MI hk] at this;exact this
  rw[hm];show _=uG k++1 :: MD (k' :: ks);rw[←FQ hr]
theorem WI {m:List UInt8} {rs:List Nat} (h1:∀n∈rs,1≤n) (he:bM 0 rs=m):EX rs=FK m:=by
 cases hp:EX rs with
 |some ks=>have e:=FQ hp;have hlt:=SK hp;rw[←he,e,qH hlt,FP (SL hp) hlt]
 |none=>
  cases hm:FK m with
  |none=>rfl
  |some ks=>exfalso;have e:=xA hm;have hlt:=SJ hm;have:rs=MD ks:=sY h1 ME (by rw[he,e,qH hlt]);rw[this,MJ (JR hm) hlt] at hp;cases hp
end Go.Proofs.YtllefinciimffaaGreatDoor
namespace Go.Proofs.YtllefinciimffaaGreatDoor
open Go.RowKit
section
variable {P:Program} {ops:Array Oper} {Q:Exit→Act→World→Prop} {md:Region.Mode} {S:World→Prop}
def uH (P : Program) (md : Region.Mode) (ops : Array Oper) (Q : Exit → Act → World → Prop) (S : World → Prop) : Nat → Array Bool → Act → World → Prop
 |0,listed,a,w=>Region.ready md ops listed=[]∧Q .normal a w
 |fuel+1,listed,a,w=>
  (Region.ready md ops listed=[]→Q .normal a w) ∧
  ∀i∈Region.ready md ops listed,wpOp P ops Q i (fun a' w'=>S w'∧uH P md ops Q S fuel (listed.setIfInBounds i true) a' w') a w
theorem tA : ∀ (fuel : Nat) (listed : Array Bool) (a : Act) (w : World), uH P md ops Q S fuel listed a w → wpAny P md ops Q fuel listed a w
 |0,_,_,_,h=>h
 |fuel+1,_,_,_,h=>⟨h.1,fun i hi=>wpOp_mono (fun a' w' h'=>tA fuel _ a' w' h'.2) (h.2 i hi)⟩
theorem uI {i : Nat} {oi : Oper} {v : Value} (hi : ops[i]? = some oi) (aBK : ∀ (j : Nat) (o : Oper) cs b, ops[j]? = some o → o.op ≠ .select cs b)
 (hQ:∀c a w,Q (.panic c) (a.put oi.dst v) w→Q (.panic c) a w) :
 ∀ (fuel : Nat) (listed : Array Bool) (a : Act) (w : World), listed.size = ops.size → DownClosed md ops listed →
  (∀j oj,ops[j]? = some oj→j≠i→listed.getD j true=false→(∀e∈oj.after,Region.binds md e=true→e.on≠i)→oi.apart ops oj=true) →
  i∈Region.ready md ops listed→S w→YieldsIf P ops S oi v a →
  uH P md ops Q S fuel (listed.setIfInBounds i true) (a.put oi.dst v) w→uH P md ops Q S (fuel+1) listed a w:=by
 intro fuel;induction fuel with
 |zero=>
  intro listed a w _ _ _ hr hS hy H;refine ⟨fun h=>(by rw[h] at hr;cases hr),fun j hj => ?_⟩;by_cases hji:j=i
  ·subst hji;exact hy.wpOp hi hS ⟨hS,H⟩
  ·have:=ready_mono hj hji;rw[H.1] at this;cases this
 |succ fuel ih=>
  intro listed a w hsz hdc VE hr hS hy H;refine ⟨fun h=>(by rw[h] at hr;cases hr),fun j hj => ?_⟩;by_cases hji:j=i
  ·subst hji;exact hy.wpOp hi hS ⟨hS,H⟩
  ·have h1:=H.2 j (ready_mono hj hji);obtain ⟨aBd,oj,hoj,iG⟩:=mem_ready.1 hj;have aCL:listed.getD i false=false:=by
    have h0:=(mem_ready.1 hr).1;rcases Nat.lt_or_ge i listed.size with h' | h'
    ·simp[h'] at h0 ⊢;exact h0
    ·simp[Array.getElem?_eq_none h']
   have aDs:∀e∈oj.after,Region.binds md e=true→e.on≠i:=fun e he hb heq=>by
    have h1:=iG e he hb;rw[heq,aCL] at h1;cases h1
   have h2:=wpOp_putIf hoj (VE j oj hoj hji aBd aDs) (fun cs b=>aBK i oi cs b hi) (fun cs b=>aBK j oj cs b hoj) hQ hy h1;have aCM:∀k,(listed.setIfInBounds j true).getD k true=false→listed.getD k true=false:=fun k hun=>by
    by_cases hjk:j=k
    ·subst hjk;exact aBd
    ·rw[getD_set_ne true hjk] at hun;exact hun
   refine wpOp_mono (fun a' w' h3 => ⟨h3.2.1, ih (listed.setIfInBounds j true) a' w' (by simpa using hsz) (hdc.set hj)
    (fun k ok hk hki hun hno=>VE k ok hk hki (aCM k hun) hno) (ready_mono hr (Ne.symm hji)) h3.2.1 h3.1 (by rw[Array.setIfInBounds_comm _ _ hji];exact h3.2.2)⟩) h2
def FlowS (P : Program) (ops : Array Oper) (Q : Exit → Act → World → Prop) (S : World → Prop) : List (Bool × Nat) → Act → World → Prop
 |[],a,w=>Q .normal a w
 |(true,i) :: σ,a,w=>∃o v,ops[i]? = some o∧YieldsIf P ops S o v a∧FlowS P ops Q S σ (a.put o.dst v) w
 |(false,i) :: σ,a,w=>wpOp P ops Q i (fun a' w'=>S w'∧FlowS P ops Q S σ a' w') a w
def oN (md : Region.Mode) (ops : Array Oper) : List (Bool × Nat) → Array Bool → Bool
 |[],listed=>(Region.ready md ops listed).isEmpty
 |(true,i) :: σ,listed=>(Region.ready md ops listed).contains i&&Region.free md ops listed i&&oN md ops σ (listed.setIfInBounds i true)
 |(false,i) :: σ,listed=>Region.ready md ops listed==[i]&&oN md ops σ (listed.setIfInBounds i true)
theorem xB (hs:Region.noSelect ops=true) (hQ:∀c a d v w,Q (.panic c) (Act.put a d v) w→Q (.panic c) a w) :
 ∀ (σ : List (Bool × Nat)) (fuel : Nat) (listed : Array Bool) (a : Act) (w : World), listed.size = ops.size → DownClosed md ops listed → σ.length ≤ fuel → oN md ops σ listed = true → S w →
  FlowS P ops Q S σ a w→uH P md ops Q S fuel listed a w:=by
 intro σ;induction σ with
 |nil=>
  intro fuel listed a w _ _ _ hok _ h;have hr:Region.ready md ops listed=[]:=(by simpa [oN] using hok);cases fuel with
  |zero=>exact ⟨hr,h⟩
  |succ fuel=>exact ⟨fun _=>h,fun i hi=>by rw[hr] at hi;cases hi⟩
 |cons s σ ih=>
  obtain ⟨b,i⟩:=s;intro fuel listed a w hsz hdc hf hok hS h;cases fuel with
  |zero=>simp at hf
  |succ fuel=>
   have hf':σ.length≤fuel:=(by simpa using hf);cases b with
   |true=>simp only[oN,aIs] at hok;obtain ⟨⟨h1,h2⟩,h4⟩:=hok;obtain ⟨o,v,ho,hy,hfl⟩:=h;have hir:i∈Region.ready md ops listed:=(by simpa using h1);exact uI ho (Region.noSelect_spec hs) (fun c a w=>hQ c a o.dst v w) fuel listed a w hsz hdc (Region.free_spec ho h2) hir hS hy (ih fuel _ _ _ (by simpa using hsz) (hdc.set hir) hf' h4 hS hfl)
   |false=>simp only[oN,aIs,beq_iff_eq] at hok;obtain ⟨h1,h4⟩:=hok;refine ⟨fun h0=>(by rw[h0] at h1;cases h1),fun j hj => ?_⟩;have hj0:=hj;rw[h1] at hj;obtain rfl:=aIn.1 hj;exact wpOp_mono (fun a' w' h'=>⟨h'.1,ih fuel _ _ _ (by simpa using hsz) (hdc.set hj0) hf' h4 h'.1 h'.2⟩) h
theorem xC {id : Nat} {a : Act} {w : World} (S : World → Prop) (σ : List (Bool × Nat)) (hm : P.follows .mixedOrders = true) (hs : Region.noSelect ops = true)
 (hl:decide (σ.length≤ops.size)=true) (hok:oN .any ops σ (Array.replicate ops.size false)=true) (hS:S w.drew)
 (h:FlowS P ops (NoPanic Q) S σ a w.drew):(Code.region id ops true).wp P Q a w:=
 wp_region_noPanic (wp_region_any hm (tA _ _ _ _ (xB hs kP σ _ _ _ _ (by simp) jO (aIv hl) hok hS h)))
section
variable {l:List Oper} {B:World}
theorem FlowS.calm {i : Nat} {o : Oper} {σ : List (Bool × Nat)} {a : Act} {w : World} (v : Value) (ho : l[i]? = some o) (hg : o.guard = none)
 (hr:∀w',S w'→(execOp a.eval o).run P w'=.ok (.value v) w') (h:FlowS P l.toArray Q S σ (a.put o.dst v) w):FlowS P l.toArray Q S ((true,i) :: σ) a w:=
 ⟨o,v,by simpa using ho,.inl ⟨by simp[Region.wanted,hg],hr⟩,h⟩
theorem FlowS.calm2 {i : Nat} {o : Oper} {σ : List (Bool × Nat)} {a : Act} {w : World} (v : Value) (a' : Act) (ho : l[i]? = some o) (hg : o.guard = none)
 (hr:∀w',S w'→∀K:Result Next→Prop,K (.ok (.value v) w')→K ((execOp a.eval o).run P w')) (ha:∀K:Act→Prop,K a'→K (a.put o.dst v))
 (h:FlowS P l.toArray Q S σ a' w):FlowS P l.toArray Q S ((true,i) :: σ) a w:=
 FlowS.calm v ho hg (fun w' hb=>hr w' hb (fun r=>r=.ok (.value v) w') rfl) (ha (fun x=>FlowS P l.toArray Q S σ x w) h)
theorem FlowS.mv {i : Nat} {d : Option Tmp} {x : Operand} {ty : TypeId} {ps : String} {af : Array Edge} {σ : List (Bool × Nat)} {a : Act} {w : World} (a' : Act) (ho : l[i]? = some ⟨d, .move x, ty, ps, af, none⟩)
 (ha:∀K:Act→Prop,K a'→K (a.put d (a.eval x))) (h:FlowS P l.toArray Q S σ a' w):FlowS P l.toArray Q S ((true,i) :: σ) a w:=
 FlowS.calm (a.eval x) ho rfl (fun w' _=>by simp[execOp]) (ha (fun x=>FlowS P l.toArray Q S σ x w) h)
theorem FlowS.asg {i : Nat} {d : Option Tmp} {x : Operand} {ty : TypeId} {ps : String} {af : Array Edge} {σ : List (Bool × Nat)} {a : Act} {w : World} (a' : Act) (ho : l[i]? = some ⟨d, .assign x, ty, ps, af, none⟩)
 (ha:∀K:Act→Prop,K a'→K (a.put d (a.eval x))) (h:FlowS P l.toArray Q S σ a' w):FlowS P l.toArray Q S ((true,i) :: σ) a w:=
 FlowS.calm (a.eval x) ho rfl (fun w' _=>by simp[execOp]) (ha (fun x=>FlowS P l.toArray Q S σ x w) h)
theorem FlowS.move {i : Nat} {o : Oper} {σ : List (Bool × Nat)} {a : Act} {w : World} (ho : l[i]? = some o)
 (h:wpList P l.toArray (Exit.then (fun a' w'=>S w'∧FlowS P l.toArray Q S σ a' w') Q) [o] a w):FlowS P l.toArray Q S ((false,i) :: σ) a w:=by
 have ho':l.toArray[i]? = some o:=(by simpa using ho);simp only[FlowS,wpOp,ho'];simp only[wpList] at h;exact h
theorem FlowS.done {a:Act} {w:World} (h:Q .normal a w):FlowS P ops (NoPanic Q) S [] a w:=h
end
end
section
variable {P:Program} {ops:Array Oper} {Q:Exit→Act→World→Prop} {md:Region.Mode} {cl:Nat→Bool}
def WJ (K : Act → World → Prop) (Q : Exit → Act → World → Prop) : Exit → Act → World → Prop
 |.normal,a,w=>K a w
 |e,a,w=>Q e a w
def uJ : List (Bool × Nat) → Array Bool → Array Bool
 |[],listed=>listed
 |(_,i) :: σ,listed=>uJ σ (listed.setIfInBounds i true)
end
theorem MK:(Tryz.prog.info? 9).map (fun i=>(i.zero,i.size,i.bytes))=some (some (.string ByteArray.empty),1,16):=by kernel_rfl
def aBw (l:List UInt8):Value:=.string ⟨l.toArray⟩
def bR (ts:List (List UInt8)):List Value:=ts.map aBw
theorem pX {w:World} {A:Option Addr} {ts:List (List UInt8)} {i:Nat} {x:List UInt8} (h:Reads w 1 A ts.length (bR ts)) (hi:ts[i]? = some x):∃ad,A=some ad∧w.cell? (ad.add i)=some (.string ⟨x.toArray⟩):=by
 have hlt:=(aH3.1 hi).1;obtain ⟨ad,u,e,hu,hc⟩:=h.at_ hlt;unfold bR at hu;rw[aId,hi] at hu;have hu':aBw x=u:=aIw hu;subst hu';exact ⟨ad,e,hc⟩
section
variable {P:Program} {ops:Array Oper} {Q:Exit→Act→World→Prop} {md:Region.Mode} {S:World→Prop}
inductive Tree
 | none
 | one (i:Nat) (σ:List (Bool × Nat)) (sub:Tree) (rest:Tree)
def Tree.idx : Tree → List Nat
 |.none=>[]
 |.one i _ _ rest=>i :: rest.idx
def Tree.isNone : Tree → Bool
 |.none=>true
 |.one .. => false
def Tree.depth : Tree → Nat
 |.none=>0
 |.one _ σ sub rest=>max (1+σ.length+sub.depth) rest.depth
def AU (md : Region.Mode) (ops : Array Oper) : List (Bool × Nat) → Array Bool → Bool
 |[],_=>true
 |(true,i) :: σ,listed=>(Region.ready md ops listed).contains i&&Region.free md ops listed i&&AU md ops σ (listed.setIfInBounds i true)
 |(false,_) :: _,_=>false
def FR (md : Region.Mode) (ops : Array Oper) : Tree → Array Bool → Bool
 |.none,_=>true
 |.one i σ sub rest, listed => (if sub.isNone then oN md ops σ (listed.setIfInBounds i true)
  else AU md ops σ (listed.setIfInBounds i true)&&Region.ready md ops (uJ σ (listed.setIfInBounds i true))==sub.idx&&FR md ops sub (uJ σ (listed.setIfInBounds i true)))&&FR md ops rest listed
def TreeWp (P : Program) (ops : Array Oper) (Q : Exit → Act → World → Prop) (S : World → Prop) : Tree → Act → World → Prop
 |.none,_,_=>True
 |.one i σ sub rest,a,w=>wpOp P ops (NoPanic Q) i (fun a' w'=>S w'∧(if sub.isNone then FlowS P ops (NoPanic Q) S σ a' w' else FlowS P ops (NoPanic (WJ (TreeWp P ops Q S sub) Q)) S σ a' w')) a w∧TreeWp P ops Q S rest a w
theorem xD (hs:Region.noSelect ops=true) (hQ:∀c a d v w,Q (.panic c) (Act.put a d v) w→Q (.panic c) a w) {R:Exit→Act→World→Prop} {n:Nat} :
 ∀ (σ : List (Bool × Nat)) (fuel : Nat) (listed : Array Bool) (a : Act) (w : World), listed.size = ops.size → DownClosed md ops listed → σ.length + n ≤ fuel → AU md ops σ listed = true → S w →
  (∀(fuel:Nat) (a:Act) (w:World),(uJ σ listed).size=ops.size→DownClosed md ops (uJ σ listed)→n≤fuel→S w→R .normal a w→uH P md ops Q S fuel (uJ σ listed) a w) →
  FlowS P ops R S σ a w→uH P md ops Q S fuel listed a w:=by
 intro σ;induction σ with
 |nil=>intro fuel listed a w hsz hdc hf hok hS hK h;exact hK fuel a w hsz hdc (by simpa using hf) hS h
 |cons s σ ih=>
  obtain ⟨b,i⟩:=s;intro fuel listed a w hsz hdc hf hok hS hK h;cases fuel with
  |zero=>simp at hf
  |succ fuel=>
   have hf':σ.length+n≤fuel:=(by simp at hf;omega);cases b with
   |true=>simp only[AU,aIs] at hok;obtain ⟨⟨h1,h2⟩,h4⟩:=hok;obtain ⟨o,v,ho,hy,hfl⟩:=h;have hir:i∈Region.ready md ops listed:=(by simpa using h1);exact uI ho (Region.noSelect_spec hs) (fun c a w=>hQ c a o.dst v w) fuel listed a w hsz hdc (Region.free_spec ho h2) hir hS hy (ih fuel _ _ _ (by simpa using hsz) (hdc.set hir) hf' h4 hS hK hfl)
   |false=>simp[AU] at hok
theorem OJ (hs : Region.noSelect ops = true) : ∀ (B : Tree) (fuel : Nat) (listed : Array Bool) (a : Act) (w : World), listed.size = ops.size → DownClosed md ops listed → B.depth ≤ fuel + 1 → (∀ i ∈ B.idx, i ∈ Region.ready md ops listed) →
 FR md ops B listed=true→TreeWp P ops Q S B a w→∀i∈B.idx,wpOp P ops (NoPanic Q) i (fun a' w'=>S w'∧uH P md ops (NoPanic Q) S fuel (listed.setIfInBounds i true) a' w') a w:=by
 intro B;induction B with
 |none=>intro fuel listed a w _ _ _ _ _ _ i hi;cases hi
 |one j σ sub rest ihs ihr=>
  intro fuel listed a w hsz hdc hf hrd hok h i hi;have hf1:1+σ.length+sub.depth≤fuel+1:=aII (Nat.le_max_left _ _) hf;have hf2:rest.depth≤fuel+1:=aII (Nat.le_max_right _ _) hf;simp only[FR,aIs] at hok;obtain ⟨hk1,hk2⟩:=hok;obtain ⟨h1,h2⟩:=h;rcases aIk.1 hi with rfl|hi'
  ·have hir:=hrd i hi;refine wpOp_mono (fun a' w' h'=>⟨h'.1,?_⟩) h1;have h'':=h'.2;have hS':=h'.1;cases hn:sub.isNone with
   |true=>rw[hn] at h'' hk1;exact xB hs kP σ fuel _ _ _ (by simpa using hsz) (hdc.set hir) (by omega) hk1 hS' h''
   |false=>
    rw[hn] at h'' hk1;simp only[Bool.false_eq_true,if_false,aIs,beq_iff_eq] at h'' hk1;obtain ⟨⟨k1,k2⟩,k3⟩:=hk1;refine xD (n:=sub.depth) hs kP σ fuel _ _ _ (by simpa using hsz) (hdc.set hir) (by omega) k1 hS' ?_ h'';intro fuel' a2 w2 aDC aDD hf' hS2 hK;have hK':TreeWp P ops Q S sub a2 w2:=hK;have hne:sub.idx≠[]:=by
     cases sub with
     |none=>cases hn
     |one=>exact List.cons_ne_nil _ _
    have hd1:1≤sub.depth:=by
     cases sub with
     |none=>cases hn
     |one i2 s2 a2 b2=>exact aII (by omega) (Nat.le_max_left _ _)
    cases fuel' with
    |zero=>omega
    |succ fuel'=>refine ⟨fun h0=>absurd (k2.symm.trans h0) hne,fun k hk => ?_⟩;refine ihs fuel' _ a2 w2 aDC aDD (by omega) (fun i hi=>by rw[k2];exact hi) k3 hK' k (by rw[←k2];exact hk)
  ·exact ihr fuel listed a w hsz hdc hf2 (fun i hi=>hrd i (List.mem_cons_of_mem _ hi)) hk2 h2 i hi'
theorem pY {id : Nat} {a : Act} {w : World} (S : World → Prop) (σ : List (Bool × Nat)) (B : Tree) (hm : P.follows .mixedOrders = true) (hs : Region.noSelect ops = true)
 (hl:(decide (σ.length+B.depth≤ops.size)&&!B.isNone)=true) (hok:(AU .any ops σ (Array.replicate ops.size false)&&Region.ready .any ops (uJ σ (Array.replicate ops.size false))==B.idx&&FR .any ops B (uJ σ (Array.replicate ops.size false)))=true) (hS:S w.drew)
 (h:FlowS P ops (NoPanic (WJ (TreeWp P ops Q S B) Q)) S σ a w.drew):(Code.region id ops true).wp P Q a w:=by
 simp only[aIs,beq_iff_eq,Bool.not_eq_true',decide_eq_true_eq] at hl hok;obtain ⟨hl,hn⟩:=hl;obtain ⟨⟨k1,k2⟩,k3⟩:=hok;refine wp_region_noPanic (wp_region_any hm (tA _ _ _ _ (xD (n:=B.depth) hs kP σ _ _ _ _ (by simp) jO (by omega) k1 hS ?_ h)));intro fuel a2 w2 aDC aDD hf' hS2 hK;have hK':TreeWp P ops Q S B a2 w2:=hK;have hne:B.idx≠[]:=by
  cases B with
  |none=>cases hn
  |one=>exact List.cons_ne_nil _ _
 have hd1:1≤B.depth:=by
  cases B with
  |none=>cases hn
  |one i2 s2 a2 b2=>exact aII (by omega) (Nat.le_max_left _ _)
 cases fuel with
 |zero=>omega
 |succ fuel=>refine ⟨fun h0=>absurd (k2.symm.trans h0) hne,fun k hk => ?_⟩;exact OJ hs B fuel _ a2 w2 aDC aDD (by omega) (fun i hi=>by rw[k2];exact hi) k3 hK' k (by rw[←k2];exact hk)
theorem Tree.fork {B:Tree} {a:Act} {w:World} (h:TreeWp P ops Q S B a w):FlowS P ops (NoPanic (WJ (TreeWp P ops Q S B) Q)) S [] a w:=h
theorem Tree.nil {a:Act} {w:World}:TreeWp P ops Q S .none a w:=trivial
variable {l:List Oper}
theorem Tree.last {i : Nat} {o : Oper} {σ : List (Bool × Nat)} {rest : Tree} {a : Act} {w : World} (ho : l[i]? = some o)
 (h:wpList P l.toArray (Exit.then (fun a' w'=>S w'∧FlowS P l.toArray (NoPanic Q) S σ a' w') (NoPanic Q)) [o] a w) (hr:TreeWp P l.toArray Q S rest a w):TreeWp P l.toArray Q S (.one i σ .none rest) a w:=by
 have ho':l.toArray[i]? = some o:=(by simpa using ho);refine ⟨?_,hr⟩;simp only[wpOp,ho',Tree.isNone,if_true];simp only[wpList] at h;exact h
theorem Tree.part {i : Nat} {o : Oper} {σ : List (Bool × Nat)} {rest : Tree} {i2 : Nat} {s2 : List (Bool × Nat)} {a2 b2 : Tree} {a : Act} {w : World} (ho : l[i]? = some o)
 (h:wpList P l.toArray (Exit.then (fun a' w'=>S w'∧FlowS P l.toArray (NoPanic (WJ (TreeWp P l.toArray Q S (.one i2 s2 a2 b2)) Q)) S σ a' w') (NoPanic Q)) [o] a w) (hr:TreeWp P l.toArray Q S rest a w):TreeWp P l.toArray Q S (.one i σ (.one i2 s2 a2 b2) rest) a w:=by
 have ho':l.toArray[i]? = some o:=(by simpa using ho);refine ⟨?_,hr⟩;simp only[wpOp,ho',Tree.isNone,Bool.false_eq_true,if_false];simp only[wpList] at h;exact h
end
def PtReads (w:World) (P:Option Addr) (W:Nat) (l:List Nat):Prop:=0<l.length→∃g,P=some ⟨g,0,none⟩∧∀j i,l[j]? = some i→w.cell? ⟨g,j*2,none⟩=some (.int .i64 ((i % W:Nat):Int))∧w.cell? ⟨g,j*2+1,none⟩=some (.int .i64 ((i / W:Nat):Int))
theorem PtReads.bl {w w':World} {P:Option Addr} {W:Nat} {l:List Nat} (h:PtReads w P W l) (hb:Bl w w'):PtReads w' P W l:=fun h0=>
 let ⟨g,e,hc⟩:=h h0
 ⟨g,e,fun j i hi=>⟨hb.at (hc j i hi).1,hb.at (hc j i hi).2⟩⟩
def aDl (bs:List Bool) (W H:Nat) (n:Int) (k:Nat):Int:=((aDk bs W H n k:Nat):Int)
def ProfRes (w:World) (err:Int) (bs:List Bool) (W H:Int) (n:Int) (P:Option Addr) (m:Nat):Prop:=
 (err=0→m=2*H.toNat∧Reads w 1 P m ((cAa m (aDl bs W.toNat H.toNat n)).map (.int .i64)))∧(err≠0→m=0∧P=none)
theorem ProfRes.bl {w w':World} {err:Int} {bs:List Bool} {W H n:Int} {P:Option Addr} {m:Nat} (h:ProfRes w err bs W H n P m) (hb:Bl w w'):ProfRes w' err bs W H n P m:=
 ⟨fun e=>⟨(h.1 e).1,(h.1 e).2.bl hb⟩,h.2⟩
theorem WK (bs cs:List Bool) (W H i:Nat) (hi:i<W*H):sX bs cs W H 0 0 i=(bs.getD i false != cs.getD i false):=by
 obtain ⟨h1,h2,h3⟩:=eR hi;unfold sX;rw[Int.sub_zero,Int.sub_zero,t8 cs W H _ _ h1 h2,mL hi]
structure Two (w:World) (B:Nat) (e:TypeId) (vx:Value) (n:Nat) (xs:List Value) (vy:Value) (m:Nat) (ys:List Value):Prop where
 x:w.ownsRow B e 1 vx n xs
 y:w.ownsRow B e 1 vy m ys
 ne:∀k,vx.ownBlock=some k→vy.ownBlock≠some k
theorem Two.bl {w w':World} {B:Nat} {e:TypeId} {vx vy:Value} {n m:Nat} {xs ys:List Value} (h:Two w B e vx n xs vy m ys) (hb:Bl w w'):Two w' B e vx n xs vy m ys:=⟨cX h.x hb,cX h.y hb,h.ne⟩
theorem Two.swap {w:World} {B:Nat} {e:TypeId} {vx vy:Value} {n m:Nat} {xs ys:List Value} (h:Two w B e vx n xs vy m ys):Two w B e vy m ys vx n xs:=⟨h.y,h.x,fun k hk e=>h.ne k e hk⟩
theorem Two.nil (w:World) (B:Nat) (e:TypeId):Two w B e (.slice none 0 0) 0 [] (.slice none 0 0) 0 []:=⟨World.ownsRow_nil _ _ _ _,World.ownsRow_nil _ _ _ _,fun _ h=>by cases h⟩
section
variable {P:Program}
theorem bA {w1 wr : World} {ops : Array Oper} {rest : List Oper} {o : Oper} {a : Act} {Q : Exit → Act → World → Prop} (hgd : o.guard = none) (s x : Operand) (t : TypeId)
 (ho:o.op=.call { callee:=.builtin .append,args:=#[s,x],argTypes:=#[t,t] })
 (e:TypeId) (z:Value) (bytes:Nat) (ht:P.underlying t=some (.slice e)) (hi:(P.info? e).map (fun i=>(i.zero,i.size,i.bytes))=some (some z,1,bytes))
 (hzs:z.cells.size=1) (B:Nat) (vx:Value) (n:Nat) (xs:List Value) (vy:Value) (m:Nat) (ys:List Value) (hs:a.eval s=vx) (hT:Two wr B e vx n xs vy m ys)
 (g:Nat) (u:Value) (hx:a.eval x=.slice (some ⟨g,0,none⟩) 1 1) (hg:Blk wr g e #[u]) (h1:u.oneCell'=true)
 (hb:Bl w1 wr) (hB:w1.heap.size≤B) (hBr:B≤wr.heap.size) (I9:(n+1)*bytes≤140737488355328) (h63:n+1≤maxLen)
 (h:∀v' w',Two w' B e v' (n+1) (xs++[u]) vy m ys→Bl w1 w'→wr.heap.size≤w'.heap.size→(∀k,k<wr.heap.size→vx.ownBlock≠some k→w'.heap[k]? = wr.heap[k]?)→wpList P ops Q rest (a.put o.dst v') w'):wpList P ops Q (o :: rest) a wr:=by
 obtain ⟨i,hi',hz,aAy,hby⟩:=info_parts hi;refine wpList_plain hgd fun K hK => ?_;obtain ⟨v',w',aBL,h2,h3,-,h5⟩:=run_append_own_at (P:=P) wr B t o.type e i z 1 bytes ht hi' hz aAy hby hzs (by omega) vx n xs hT.x ⟨g,0,none⟩ 1 1 [u] rfl (fun j y hy=>by
  rcases j with _|j
  ·simp at hy;subst hy;exact hg.cell 0
  ·simp at hy) (fun y hy=>by rw[aIn.1 hy];exact h1) h63 I9 hBr
 have hbl:Bl w1 w':=Below.grown hb h3 (aII hB hBr) (fun k hk=>aII hB (hT.x.lt k hk).1);have hy:w'.ownsRow B e 1 vy m ys:=hT.y.kept h3 (by
  cases hk:vy.ownBlock with
  |none=>exact .inl rfl
  |some k=>exact .inr fun he=>hT.ne k he.symm hk)
 unfold Oper.wp execOp;simp only[ho,resolve,invoke,builtin,Sem.run_bind,Sem.run_pure,Result.andThen_ok,List.map_toArray,List.map_cons,List.map_nil,hs,hx,aBL];refine hK _ _ (h v' w' ⟨h2,hy,fun k hk he => ?_⟩ hbl h3.size fun k hk hne=>h3.block k hk (fun h=>hne h.symm));rcases h5 with h5|h5
 ·exact hT.ne k (h5.symm.trans hk) he
 ·obtain rfl:wr.heap.size=k:=aIw (h5.symm.trans hk);exact absurd (hT.y.lt _ he).2 (Nat.lt_irrefl _)
end
theorem OK (A:Option Addr) (n c:Nat) (bs:List Bool) (v:Bool) (w:World) (hA:Reads w 1 A n (bs.map .bool)) (hn:n≤1099511627776) :
 Calls Tryz.prog 115 #[.slice A n c,.bool v] w fun e w'=>∃k:Int,e=.returned k∧(0≤k↔v∈bs)∧w=w':=by
 have hl:bs.length=n:=(by have:=hA.1;simpa using this);have HA:=aHH hA;have HL:=aHH hl;clear hA hl
 go_in
 go_wp2_with fail;go_loopw [8] (fun u wr=>∃i:Nat,i≤n∧u=.int .i64 i∧w=wr∧∀j,j<i→bs[j]? ≠ some v) (fun u _=>n-(intOf u).toNat);case atStart=>exact ⟨0,Nat.zero_le _,rfl,rfl,fun j hj=>absurd hj (Nat.not_lt_zero _)⟩
 case round=>
  obtain ⟨i,hi,rfl,rfl,hno⟩:=hrel;have Hno:=aHH hno;clear hno;by_cases hlt:i<n
  ·obtain ⟨ad,u,rfl,hu,hc⟩:=HA.out.at_ hlt;have hl2:i<bs.length:=(by rw[HL.out];exact hlt);have hu':u=.bool bs[i]:=(by simpa [hl2] using hu.symm);have hg:bs[i]? = some bs[i]:=aH2 hl2;subst hu';obtain ⟨b,hb⟩:=aH0 (bs[i]);rw[←hb] at hc hg;have Hg:=aHH hg;clear hu hb hg hl2;by_cases hbv:v=b
   ·subst hbv;have hq:(v==v)=true:=(by cases v<;>rfl);have HX:=aHH (show 0≤(i:Int)↔v∈bs from ⟨fun _=>List.mem_of_getElem? Hg.out,fun _=>Int.natCast_nonneg i⟩);cases v<;>(go_wp2_with fail;go_ret;exact ⟨_,rfl,HX.out,rfl⟩)
   ·have HY:Hid (∀j,j<i+1→bs[j]? ≠ some v):=fun j hj=>by
     rcases Nat.lt_succ_iff_lt_or_eq.1 hj with h|rfl
     ·exact Hno.out j h
     ·rw[Hg.out];intro e;exact hbv (aIw e).symm
    cases v<;>cases b<;>first|exact absurd rfl hbv|(clear hbv;go_wp2_with fail;exact ⟨⟨i+1,hlt,by go_num,by first|rfl|trivial,HY.out⟩,by simp[intOf];omega⟩)
  ·have HX:=aHH (show (0:Int)≤-1↔v∈bs from ⟨fun h=>absurd h (by decide),fun h=>by
    obtain ⟨j,hj⟩:=List.getElem?_of_mem h;have:=(aH3.1 hj).1;exact absurd hj (Hno.out j (by have:=HL.out;omega))⟩)
   go_wp2_with fail;go_ret;exact ⟨_,rfl,HX.out,rfl⟩
theorem rM (A:Option Addr) (n c:Nat) (bs:List Bool) (v:Bool) (w:World) (hA:Reads w 1 A n (bs.map .bool)) (hn:n≤1099511627776) :
 Calls Tryz.prog 53 #[.slice A n c,.bool v] w fun e w'=>e=.returned (.bool (decide (v∈bs)))∧w=w':=by
 go_in
 go_wp2_with fail;refine (OK A n c bs v w hA hn).mono ?_;rintro e w1 ⟨k,rfl,hk,rfl⟩;have Hk:=aHH hk;clear hk hA;go_wp2_with fail;go_ret;exact ⟨aS (decide_eq_decide.2 Hk.out),rfl⟩
end Go.Proofs.YtllefinciimffaaGreatDoor
