import Derived.Test.YtllefinciimffaaGreatDoorMClaimFields16
import Derived.Shelf.SlSortCmp.WholeK
import Derived.Ground.SlsfProg
import Derived.Ground.SlgcProg
import Derived.Shelf.SlicesG.Cmp
import Derived.Shelf.Small.Strs
import Derived.Laws.Cover1
import Derived.Lib.OthersKept
set_option maxHeartbeats 20000000
set_option maxRecDepth 100000
namespace Go.Proofs
open Go.Shelf
def Tryz.laysSortCd_ren:Go.Shelf.Ren:=⟨fun|6=>198|15=>190|14=>260|28=>250|29=>251|20=>300|21=>301|22=>302|23=>303|24=>304|25=>305|26=>306|27=>307|46=>333|47=>290|48=>291|49=>334|50=>335|57=>344|n=>n,fun|22=>158|24=>161|25=>254|3=>3|39=>233|0=>0|53=>277|55=>270|4=>4|46=>289|45=>288|50=>182|5=>5|9=>9|66=>322|70=>189|76=>350|77=>351|n=>n,fun|n=>n⟩
theorem Tryz.laysSortCd : Go.Proofs.SlLaysF0.n6 Tryz.prog Tryz.laysSortCd_ren := {
 mixed:=by kernel_rfl
 f6:=⟨Tryz.f198.name,by decide,Tryz.func198.trans (congrArg some (by kernel_rfl))⟩
 f14:=⟨Tryz.f260.name,by decide,Tryz.func260.trans (congrArg some (by kernel_rfl))⟩
 f15:=Tryz.func190.trans (congrArg some (by kernel_rfl))
 f20:=⟨Tryz.f300.name,by decide,Tryz.func300.trans (congrArg some (by kernel_rfl))⟩
 f21:=⟨Tryz.f301.name,by decide,Tryz.func301.trans (congrArg some (by kernel_rfl))⟩
 f22:=⟨Tryz.f302.name,by decide,Tryz.func302.trans (congrArg some (by kernel_rfl))⟩
 f23:=⟨Tryz.f303.name,by decide,Tryz.func303.trans (congrArg some (by kernel_rfl))⟩
 f24:=⟨Tryz.f304.name,by decide,Tryz.func304.trans (congrArg some (by kernel_rfl))⟩
 f25:=⟨Tryz.f305.name,by decide,Tryz.func305.trans (congrArg some (by kernel_rfl))⟩
 f26:=⟨Tryz.f306.name,by decide,Tryz.func306.trans (congrArg some (by kernel_rfl))⟩
 f27:=⟨Tryz.f307.name,by decide,Tryz.func307.trans (congrArg some (by kernel_rfl))⟩
 f28:=Tryz.func250.trans (congrArg some (by kernel_rfl))
 f29:=Tryz.func251.trans (congrArg some (by kernel_rfl))
 f46:=⟨Tryz.f333.name,by decide,Tryz.func333.trans (congrArg some (by kernel_rfl))⟩
 f47:=Tryz.func290.trans (congrArg some (by kernel_rfl))
 f48:=Tryz.func291.trans (congrArg some (by kernel_rfl))
 f49:=⟨Tryz.f334.name,by decide,Tryz.func334.trans (congrArg some (by kernel_rfl))⟩
 f50:=⟨Tryz.f335.name,by decide,Tryz.func335.trans (congrArg some (by kernel_rfl))⟩
 f57:=⟨Tryz.f344.name,by decide,Tryz.func344.trans (congrArg some (by kernel_rfl))⟩
 t0:=Tryz.underlying0
 a0:=Tryz.isAgg0
 z0:=Tryz.sizeOf0
 v0:=Tryz.zeroValue0
 t3:=Tryz.underlying3
 a3:=Tryz.isAgg3
 z3:=Tryz.sizeOf3
 v3:=Tryz.zeroValue3
 t4:=Tryz.underlying4
 a4:=Tryz.isAgg4
 z4:=Tryz.sizeOf4
 v4:=Tryz.zeroValue4
 t5:=Tryz.underlying5
 a5:=Tryz.isAgg5
 z5:=Tryz.sizeOf5
 v5:=Tryz.zeroValue5
 t9:=Tryz.underlying9
 a9:=Tryz.isAgg9
 z9:=Tryz.sizeOf9
 v9:=Tryz.zeroValue9
 t22:=Tryz.underlying158
 a22:=Tryz.isAgg158
 z22:=Tryz.sizeOf158
 v22:=Tryz.zeroValue158
 t25:=Tryz.underlying254
 a25:=Tryz.isAgg254
 z25:=Tryz.sizeOf254
 v25:=Tryz.zeroValue254
 t39:=Tryz.underlying233
 a39:=Tryz.isAgg233
 z39:=Tryz.sizeOf233
 v39:=Tryz.zeroValue233
 t45:=Tryz.underlying288
 a45:=Tryz.isAgg288
 z45:=Tryz.sizeOf288
 v45:=Tryz.zeroValue288
 t46:=Tryz.underlying289
 a46:=Tryz.isAgg289
 z46:=Tryz.sizeOf289
 v46:=Tryz.zeroValue289
 t50:=Tryz.underlying182
 a50:=Tryz.isAgg182
 z50:=Tryz.sizeOf182
 v50:=Tryz.zeroValue182
 t53:=Tryz.underlying277
 a53:=Tryz.isAgg277
 z53:=Tryz.sizeOf277
 v53:=Tryz.zeroValue277
 t55:=Tryz.underlying270
 a55:=Tryz.isAgg270
 z55:=Tryz.sizeOf270
 v55:=Tryz.zeroValue270
 t66:=Tryz.underlying322
 a66:=Tryz.isAgg322
 z66:=Tryz.sizeOf322
 v66:=Tryz.zeroValue322
 t70:=Tryz.underlying189
 a70:=Tryz.isAgg189
 z70:=Tryz.sizeOf189
 v70:=Tryz.zeroValue189
 t76:=Tryz.underlying350
 a76:=Tryz.isAgg350
 z76:=Tryz.sizeOf350
 v76:=Tryz.zeroValue350
 t77:=Tryz.underlying351
 a77:=Tryz.isAgg351
 z77:=Tryz.sizeOf351
 v77:=Tryz.zeroValue351 }
def Tryz.laysCmpInt_ren:Go.Shelf.Ren:=⟨fun|5=>287|7=>294|n=>n,fun|22=>3|3=>3|4=>4|n=>n,fun|n=>n⟩
theorem Tryz.laysCmpInt : Go.Proofs.SlLaysC2.n5 Tryz.prog Tryz.laysCmpInt_ren := {
 mixed:=by kernel_rfl
 f5:=⟨Tryz.f287.name,by decide,Tryz.func287.trans (congrArg some (by kernel_rfl))⟩
 f7:=⟨Tryz.f294.name,by decide,Tryz.func294.trans (congrArg some (by kernel_rfl))⟩
 t3:=Tryz.underlying3
 a3:=Tryz.isAgg3
 z3:=Tryz.sizeOf3
 v3:=Tryz.zeroValue3
 t4:=Tryz.underlying4
 a4:=Tryz.isAgg4
 z4:=Tryz.sizeOf4
 v4:=Tryz.zeroValue4
 t22:=Tryz.underlying3
 a22:=Tryz.isAgg3
 z22:=Tryz.sizeOf3
 v22:=Tryz.zeroValue3 }
def Tryz.lays106_ren:Go.Shelf.Ren:=⟨fun|106=>201|213=>261|265=>308|n=>n,fun|9=>9|3=>3|n=>n,fun|n=>n⟩
theorem Tryz.lays106 : Go.Proofs.Lays.n106 Tryz.prog Tryz.lays106_ren := {
 mixed:=by kernel_rfl
 f106:=Tryz.func201.trans (congrArg some (by kernel_rfl))
 f213:=Tryz.func261.trans (congrArg some (by kernel_rfl))
 f265:=Tryz.func308.trans (congrArg some (by kernel_rfl))
 t3:=Tryz.underlying3
 a3:=Tryz.isAgg3
 z3:=Tryz.sizeOf3
 v3:=Tryz.zeroValue3
 t9:=Tryz.underlying9
 a9:=Tryz.isAgg9
 z9:=Tryz.sizeOf9
 v9:=Tryz.zeroValue9 }
end Go.Proofs
namespace Go.Proofs.YtllefinciimffaaGreatDoor
open Go.RowKit Go.Shelf Go.Sort
structure CmpOk {α:Type} (c:α→α→Int):Prop where
 refl:∀x,c x x=0
 flip:∀x y,c x y<0↔0<c y x
 trans:∀x y z,c x y≤0→c y z≤0→c x z≤0
theorem CmpOk.zero {α:Type} {c:α→α→Int} (h:CmpOk c) (x y:α):c x y=0↔c y x=0:=by
 have h1:=h.flip x y;have h2:=h.flip y x;omega
theorem CmpOk.swo {α:Type} {c:α→α→Int} (h:CmpOk c):SWO (ltOf c) where
 irrefl x:=by unfold ltOf;rw[h.refl];rfl
 trans x y z h1 h2:=by
  unfold ltOf at *;simp only[decide_eq_true_eq] at *;have a:=h.trans x y z (by omega) (by omega);have b:=h.trans z x y;have c1:=h.flip x z;have c2:=h.flip z x;have c3:=h.flip y z;omega
 ntrans x y z h1 h2:=by
  unfold ltOf at *;simp only[decide_eq_false_iff_not] at *;have a:=h.trans z y x;have c1:=h.flip x y;have c2:=h.flip y x;have c3:=h.flip y z;have c4:=h.flip z y;have c5:=h.flip x z;have c6:=h.flip z x;omega
def KD {α:Type} (c d:α→α→Int) (x y:α):Int:=if c x y=0 then d x y else c x y
theorem CmpOk.lex {α:Type} {c d:α→α→Int} (h:CmpOk c) (k:CmpOk d):CmpOk (KD c d) where
 refl x:=by unfold KD;rw[if_pos (h.refl x)];exact k.refl x
 flip x y:=by
  unfold KD;have h1:=h.flip x y;have h2:=h.flip y x;have k1:=k.flip x y;by_cases e:c x y=0
  ·rw[if_pos e,if_pos ((h.zero x y).1 e)];exact k1
  ·rw[if_neg e,if_neg (fun e'=>e ((h.zero x y).2 e'))];exact h1
 trans x y z h1 h2:=by
  unfold KD at *;have t1:=h.trans x y z;have t2:=h.trans y z x;have t3:=h.trans z x y;have z1:=h.zero x z;have f1:=h.flip x y;have f2:=h.flip y z;have f3:=h.flip x z;have g1:=h.flip y x;have g2:=h.flip z y;have g3:=h.flip z x;have hxy:c x y≤0:=by
   by_cases e:c x y=0
   ·omega
   ·rw[if_neg e] at h1;exact h1
  have hyz:c y z≤0:=by
   by_cases e:c y z=0
   ·omega
   ·rw[if_neg e] at h2;exact h2
  by_cases e:c x z=0
  ·have e1:c x y=0:=(by omega);have e2:c y z=0:=(by omega);rw[if_pos e1] at h1;rw[if_pos e2] at h2;rw[if_pos e];exact k.trans x y z h1 h2
  ·rw[if_neg e];exact t1 hxy hyz
theorem CmpOk.on {α β:Type} {c:α→α→Int} (h:CmpOk c) (f:β→α):CmpOk fun x y=>c (f x) (f y):=
 ⟨fun _=>h.refl _,fun _ _=>h.flip _ _,fun _ _ _=>h.trans _ _ _⟩
theorem DR:CmpOk fun x y:Int=>x-y:=⟨fun x=>by omega,fun x y=>by omega,fun x y z=>by omega⟩
theorem xY (a b:UInt8) (x y:List UInt8):Lib.compareBytes (a :: x) (b :: y)=if a<b then -1 else if b<a then 1 else Lib.compareBytes x y:=rfl
theorem TM:CmpOk Lib.compareBytes where
 refl x:=by
  induction x with
  |nil=>rfl
  |cons a x ih=>rw[xY,if_neg (by rw[UInt8.lt_iff_toNat_lt];omega),if_neg (by rw[UInt8.lt_iff_toNat_lt];omega)];exact ih
 flip x:=by
  induction x with
  |nil=>intro y;cases y<;>simp[Lib.compareBytes]
  |cons a x ih=>
   intro y;cases y with
   |nil=>simp[Lib.compareBytes]
   |cons b y=>
    rw[xY,xY];have:=ih y;simp only[UInt8.lt_iff_toNat_lt];by_cases h1:a.toNat<b.toNat
    ·rw[if_pos h1,if_neg (by omega),if_pos h1];omega
    ·rw[if_neg h1];by_cases h2:b.toNat<a.toNat
     ·rw[if_pos h2,if_pos h2];omega
     ·rw[if_neg h2,if_neg h2,if_neg h1];exact this
 trans x:=by
  induction x with
  |nil=>intro y z h1 h2;cases z<;>simp[Lib.compareBytes]
  |cons a x ih=>
   intro y z h1 h2;cases y with
   |nil=>simp[Lib.compareBytes] at h1
   |cons b y=>
    cases z with
    |nil=>simp[Lib.compareBytes] at h2
    |cons c z=>
     rw[xY] at *;simp only[UInt8.lt_iff_toNat_lt] at *;by_cases h3:a.toNat<c.toNat
     ·rw[if_pos h3];omega
     ·rw[if_neg h3];by_cases k1:a.toNat<b.toNat
      ·rw[if_neg (by omega)] at h2;by_cases k2:c.toNat<b.toNat
       ·rw[if_pos k2] at h2;omega
       ·omega
      ·rw[if_neg k1] at h1;by_cases k2:b.toNat<a.toNat
       ·rw[if_pos k2] at h1;omega
       ·rw[if_neg k2] at h1;by_cases k3:b.toNat<c.toNat
        ·omega
        ·rw[if_neg k3] at h2;by_cases k4:c.toNat<b.toNat
         ·rw[if_pos k4] at h2;omega
         ·rw[if_neg k4] at h2;rw[if_neg (by omega)];exact ih y z h1 h2
def cfR (a b:Cd):Int:=KD (fun x y:Cd=>x.Y-y.Y) (KD (fun x y:Cd=>x.X-y.X) (KD (fun x y:Cd=>Lib.compareBytes x.t y.t) (fun x y:Cd=>x.k-y.k))) a b
def cfP (a b:Cd):Int:=KD (fun x y:Cd=>Lib.compareInt x.Y y.Y) (KD (fun x y:Cd=>Lib.compareInt x.X y.X) (KD (fun x y:Cd=>Lib.compareBytes x.t y.t) (fun x y:Cd=>Lib.compareInt x.k y.k))) a b
theorem aBz:CmpOk cfR:=(DR.on (fun e:Cd=>e.Y)).lex ((DR.on (fun e:Cd=>e.X)).lex ((TM.on (fun e:Cd=>e.t)).lex (DR.on (fun e:Cd=>e.k))))
theorem kX (a b:Int):(Lib.compareInt a b<0↔a-b<0)∧(Lib.compareInt a b=0↔a-b=0):=by
 unfold Lib.compareInt;by_cases h1:a<b
 ·rw[if_pos h1];omega
 ·rw[if_neg h1];by_cases h2:a>b
  ·rw[if_pos h2];omega
  ·rw[if_neg h2];omega
theorem xZ {α:Type} {c c' d d':α→α→Int} {x y:α} (h:(c x y<0↔c' x y<0)∧(c x y=0↔c' x y=0)) (k:(d x y<0↔d' x y<0)∧(d x y=0↔d' x y=0)):(KD c d x y<0↔KD c' d' x y<0)∧(KD c d x y=0↔KD c' d' x y=0):=by
 unfold KD;by_cases e:c x y=0
 ·rw[if_pos e,if_pos (h.2.1 e)];exact k
 ·rw[if_neg e,if_neg (fun e'=>e (h.2.2 e'))];exact h
theorem aAl:ltOf cfP=ltOf cfR:=by
 funext x y
 unfold ltOf
 have h := xZ (x := x) (y := y) (c := fun x y : Cd => Lib.compareInt x.Y y.Y) (c' := fun x y : Cd => x.Y - y.Y) (kX _ _)
  (xZ (c := fun x y : Cd => Lib.compareInt x.X y.X) (c' := fun x y : Cd => x.X - y.X) (kX _ _)
    (xZ (c:=fun x y:Cd=>Lib.compareBytes x.t y.t) (c':=fun x y:Cd=>Lib.compareBytes x.t y.t) ⟨Iff.rfl,Iff.rfl⟩ (d:=fun x y:Cd=>Lib.compareInt x.k y.k) (d':=fun x y:Cd=>x.k-y.k) (kX _ _)))
 exact decide_eq_decide.2 h.1
theorem Y5 (p q r s:Int):aB [p,q,r,s]=if p=0 then (if q=0 then (if r=0 then s else r) else q) else p:=by
 show (if p=0 then (if q=0 then (if r=0 then (if s=0 then 0 else s) else r) else q) else p)=_;by_cases hs:s=0
 ·subst hs;rfl
 ·rw[if_neg hs]
theorem TN (a b:Cd):cfR a b=aB [a.Y-b.Y,a.X-b.X,Lib.compareBytes a.t b.t,a.k-b.k]:=by rw[Y5];rfl
theorem TO (a b:Cd):cfP a b=aB [Lib.compareInt a.Y b.Y,Lib.compareInt a.X b.X,Lib.compareBytes a.t b.t,Lib.compareInt a.k b.k]:=by rw[Y5];rfl
theorem uR : ∀ a b : List UInt8, Lib.compareBytes a b = if Op.bytesLess a b = true then -1 else if a = b then 0 else 1
 |[],[]=>rfl
 |[],b :: y=>rfl
 |a :: x,[]=>rfl
 |a :: x,b :: y=>by
  rw[xY,uR x y];show _=if (decide (a<b)||(a==b&&Op.bytesLess x y))=true then _ else _;by_cases h1:a<b
  ·simp[h1]
  ·by_cases h2:b<a
   ·have hne:a≠b:=fun e=>(by subst e;exact h1 h2);simp[h1,h2,hne]
   ·have he:a=b:=by
     rw[UInt8.lt_iff_toNat_lt] at h1 h2;exact UInt8.toNat_inj.1 (by omega)
    subst he;simp[h1]
theorem PU (a b:List UInt8) (w:World) :
 Calls Tryz.prog 288 #[a,b] w fun e w'=>e=.returned (.int .i64 (Lib.compareBytes a b))∧w=w':=by
 have HV:=aHH (uR a b);have ha:(⟨a.toArray⟩:ByteArray).toList=a:=(by rw[ByteArray.toList_eq]);have hb:(⟨b.toArray⟩:ByteArray).toList=b:=(by rw[ByteArray.toList_eq]);have hn:∀c:List UInt8,∀W,Calls Tryz.prog 330 #[.string ⟨c.toArray⟩] W fun e w'=>e=.returned (.bool false)∧W=w':=fun c W=>by
  go_in
  go_wp2_with fail;go_ret;exact ⟨by simp,rfl⟩
 have Hn:=aHH hn;clear hn;have h3:(Op.bytesLess a b=true)∨(Op.bytesLess a b=false∧a=b)∨(Op.bytesLess a b=false∧a≠b):=by
  cases Op.bytesLess a b<;>by_cases h:a=b<;>simp[h]
 go_in
 go_wp2_with fail;refine (Hn.out a w).mono ?_;rintro e w' ⟨rfl,rfl⟩;go_wp2_with fail;refine (Hn.out b w).mono ?_;rintro e w' ⟨rfl,rfl⟩;rcases h3 with h|⟨h,he⟩|⟨h,he⟩
 ·have HE:=aHH (show Lib.compareBytes a b = -1 by rw[HV.out,if_pos h]);clear HV;go_wp2_with fail;refine aIx (v:=.int .i64 (-1)) (by simp[results,Tryz.results288,go_sem]) rfl ⟨by rw[HE.out],rfl⟩
 ·have HE:=aHH (show Lib.compareBytes a b=0 by rw[HV.out,h,if_neg (by decide),if_pos he]);clear HV;subst he;go_wp2_with fail;refine aIx (v:=.int .i64 0) (by simp[results,Tryz.results288,go_sem]) rfl ⟨by rw[HE.out],rfl⟩
 ·have HE:=aHH (show Lib.compareBytes a b=1 by rw[HV.out,h,if_neg (by decide),if_neg he]);have hq:(a==b)=false:=(by rw[aIr];exact he);clear HV he;go_wp2_with fail;refine aIx (v:=.int .i64 1) (by simp[results,Tryz.results288,go_sem]) rfl ⟨by rw[HE.out],rfl⟩
def CdIn (e:Cd):Prop:=(e.k=1∨e.k=2)∧0≤e.X∧e.X≤4000∧0≤e.Y∧e.Y≤4000
theorem CdOk.in_ {N:Nat} {e:Cd} (h:CdOk N e):CdIn e:=⟨h.1,h.2.1,h.2.2.1,h.2.2.2.1,h.2.2.2.2.1⟩
abbrev CdS:={e:Cd // CdIn e}
instance:Inhabited Cd:=⟨⟨1,[],0,0,0,1⟩⟩
instance:Inhabited CdS:=⟨⟨⟨1,[],0,0,0,1⟩,by unfold CdIn;decide⟩⟩
def GT (x:CdS):List Value:=x.1.cells
def M1 (x y:CdS):Int:=cfR x.1 y.1
def aDn (x y:CdS):Int:=cfP x.1 y.1
theorem vW:SWO (ltOf M1):=(aBz.on (fun x:CdS=>x.1)).swo
theorem W8:ltOf aDn=ltOf M1:=by
 funext x y
 exact congrFun (congrFun aAl x.1) y.1
theorem Y6 (w:World) (a b c:Obj):grow (w.drewN 1) #[a,b,c]=(((w.alloc a).alloc b).alloc c).drew:=by
 rw[alloc_eq_grow,alloc_eq_grow,alloc_eq_grow,grow_grow,grow_grow];rfl
theorem TP (x y:CdS) (w:World) :
 Calls Tryz.prog 239 #[.agg (GT x).toArray,.agg (GT y).toArray] w fun e w'=>e=.returned (.int .i64 (aDn x y))∧∃q os',w'=grow (w.drewN q) os':=by
 obtain ⟨⟨k1,t1,X1,Y1,W1,n1⟩,h1⟩:=x;obtain ⟨⟨k2,t2,X2,Y2,W2,n2⟩,h2⟩:=y;have HV:=aHH (TO ⟨k1,t1,X1,Y1,W1,n1⟩ ⟨k2,t2,X2,Y2,W2,n2⟩);show Calls Tryz.prog 239 #[.agg #[k1,t1,X1,Y1,W1,n1],.agg #[k2,t2,X2,Y2,W2,n2]] w fun e w'=>e=.returned (.int .i64 (cfP ⟨k1,t1,X1,Y1,W1,n1⟩ ⟨k2,t2,X2,Y2,W2,n2⟩))∧∃q os',w'=grow (w.drewN q) os';have Hc:∀(a b:Int) (W:World),Calls Tryz.prog 287 #[.int .i64 a,.int .i64 b] W fun e w'=>e=.returned (.int .i64 (Lib.compareInt a b))∧w'=W:=fun a b W=>AnyG.cmp_Compare_int Tryz.laysCmpInt a b W;have Hc:=aHH Hc;obtain ⟨r1,hr1⟩:=aH0 (Lib.compareInt Y1 Y2);obtain ⟨r2,hr2⟩:=aH0 (Lib.compareInt X1 X2);obtain ⟨r3,hr3⟩:=aH0 (Lib.compareBytes t1 t2);obtain ⟨r4,hr4⟩:=aH0 (Lib.compareInt k1 k2);obtain ⟨C1,C2,C3,C4⟩:=aHJ (fun W=>Hc.out Y1 Y2 W) (fun W=>Hc.out X1 X2 W) (fun W=>PU t1 t2 W) (fun W=>Hc.out k1 k2 W);rw[←hr1] at C1;rw[←hr2] at C2;rw[←hr3] at C3;rw[←hr4] at C4;have HV2:=aHH (show cfP ⟨k1,t1,X1,Y1,W1,n1⟩ ⟨k2,t2,X2,Y2,W2,n2⟩=aB [r1,r2,r3,r4] by rw[HV.out,hr1,hr2,hr3,hr4]);clear HV Hc hr1 hr2 hr3 hr4 h1 h2
 go_in
 go_upto_region 1 with fail;have b1:=(Blk.new w 161 #[k1,t1,X1,Y1,W1,n1]).alloc (.cells #[k2,t2,X2,Y2,W2,n2] 161);have b2:=Blk.new (w.alloc (.cells #[k1,t1,X1,Y1,W1,n1] 161)) 161 #[k2,t2,X2,Y2,W2,n2];obtain ⟨w1,hw1⟩:=aH0 ((w.alloc (.cells #[k1,t1,X1,Y1,W1,n1] 161)).alloc (.cells #[k2,t2,X2,Y2,W2,n2] 161));obtain ⟨o1,ho1⟩:=aH0 w.heap.size;obtain ⟨o2,ho2⟩:=aH0 ((w.alloc (.cells #[k1,t1,X1,Y1,W1,n1] 161)).heap.size);have aB6:o2=o1+1:=(by rw[ho2,ho1];simp);rw[←hw1] at b1 b2;rw[←ho1] at b1;rw[←ho2] at b2;try rw[←hw1,←ho1]
 have HW1:=aHH hw1;rw[aB6] at b2;clear hw1 ho1 ho2 aB6;have kA:=b1.all6';have kB:=b2.all6';clear b1 b2;refine aHZ [aHX 0,aHX 1,aHX 2,aHX 3,aHX 5,aHX 6,aHX 7,aHX 8,aHX 10,aHX 11,aHX 12,aHX 13,aHX 15,aHX 16,aHX 17,aHX 18,aHY 4,aHY 9,aHY 14,aHY 19,aHY 20,aHY 21,aHX 22] (by kernel_rfl) ?_
 iterate 16
  apply Flow.calm2 _ _ rfl rfl
  ·intro a b c d;obtain ⟨e,f⟩:=b.rule;go_simp;(try go_ints);exact d
  ·intro a b;simp only[sqA];exact b
 apply Flow.move rfl;go_wp2_with fail;refine (C1.out _).mono ?_;rintro e w' ⟨rfl,rfl⟩;go_wp2_with fail;refine ⟨fun _=>(by first|exact HB1|exact Bl.refl _),?_⟩;apply Flow.move rfl;go_wp2_with fail;refine (C2.out _).mono ?_;rintro e w' ⟨rfl,rfl⟩;go_wp2_with fail;refine ⟨fun _=>(by first|exact HB2|exact Bl.refl _),?_⟩;apply Flow.move rfl;go_wp2_with fail;refine (C3.out _).mono ?_;rintro e w' ⟨rfl,rfl⟩;go_wp2_with fail;refine ⟨fun _=>(by first|exact HB3|exact Bl.refl _),?_⟩;apply Flow.move rfl;go_wp2_with fail;refine (C4.out _).mono ?_;rintro e w' ⟨rfl,rfl⟩;go_wp2_with fail;refine ⟨fun _=>(by first|exact HB4|exact Bl.refl _),?_⟩;apply Flow.move rfl;go_wp2_with fail;first|refine ⟨fun _ => ?_,?_⟩|refine ⟨?_,?_⟩
 ·repeat' (first|exact Bl.refl _|refine Bl.drewL ?_|refine Bl.drew ?_|refine Bl.alloc ?_ _)
 apply Flow.move rfl;go_wp2_with fail;refine (F4 _ _ [r1,r2,r3,r4] _ (Reads.lit (Blk.new _ _ _).drew rfl) (by simp)).mono ?_;rintro e w' ⟨rfl,rfl⟩;go_wp2_with fail;refine ⟨fun _=>(by first|exact HB6|exact Bl.refl _),?_⟩;apply Flow.asg _ rfl
 ·intro a b;simp only[sqA,Act.eval,sqC];exact b
 refine Flow.done ?_;go_wp2_with fail;go_ret;exact ⟨cP HV2.out.symm,1,#[_,_,_],by rw[HW1.out];exact (Y6 _ _ _ _).symm⟩
theorem KH (x y:CdS) (w:World) :
 Calls Tryz.prog 199 #[.agg (GT x).toArray,.agg (GT y).toArray] w fun e w'=>e=.returned (.int .i64 (M1 x y))∧∃q os',w'=grow (w.drewN q) os':=by
 obtain ⟨⟨k1,t1,X1,Y1,W1,n1⟩,h1⟩:=x;obtain ⟨⟨k2,t2,X2,Y2,W2,n2⟩,h2⟩:=y;have HV:=aHH (TN ⟨k1,t1,X1,Y1,W1,n1⟩ ⟨k2,t2,X2,Y2,W2,n2⟩);show Calls Tryz.prog 199 #[.agg #[k1,t1,X1,Y1,W1,n1],.agg #[k2,t2,X2,Y2,W2,n2]] w fun e w'=>e=.returned (.int .i64 (cfR ⟨k1,t1,X1,Y1,W1,n1⟩ ⟨k2,t2,X2,Y2,W2,n2⟩))∧∃q os',w'=grow (w.drewN q) os';obtain ⟨hk1,hX1,hX1',hY1,hY1'⟩:(1≤k1∧k1≤2)∧0≤X1∧X1≤4000∧0≤Y1∧Y1≤4000:=⟨by have:k1=1∨k1=2:=h1.1;omega,h1.2.1,h1.2.2.1,h1.2.2.2.1,h1.2.2.2.2⟩;obtain ⟨hk2,hX2,hX2',hY2,hY2'⟩:(1≤k2∧k2≤2)∧0≤X2∧X2≤4000∧0≤Y2∧Y2≤4000:=⟨by have:k2=1∨k2=2:=h2.1;omega,h2.2.1,h2.2.2.1,h2.2.2.2.1,h2.2.2.2.2⟩;obtain ⟨hk1,aAJ⟩:=hk1;obtain ⟨hk2,aCZ⟩:=hk2;have Hc:∀(W:World),Calls Tryz.prog 201 #[t1,t2] W fun e w'=>e=.returned (.int .i64 (Lib.compareBytes t1 t2))∧w'=W:=fun W=>Any.strings_Compare Tryz.lays106 ⟨t1.toArray⟩ ⟨t2.toArray⟩ W;obtain ⟨r3,hr3⟩:=aH0 (Lib.compareBytes t1 t2);rw[←hr3] at Hc;have C3:=aHH Hc;have HV2:=aHH (show cfR ⟨k1,t1,X1,Y1,W1,n1⟩ ⟨k2,t2,X2,Y2,W2,n2⟩=aB [Y1-Y2,X1-X2,r3,k1-k2] by rw[HV.out,hr3]);clear HV Hc hr3 h1 h2
 go_in
 go_upto_region 1 with fail;have b1:=(Blk.new w 161 #[k1,t1,X1,Y1,W1,n1]).alloc (.cells #[k2,t2,X2,Y2,W2,n2] 161);have b2:=Blk.new (w.alloc (.cells #[k1,t1,X1,Y1,W1,n1] 161)) 161 #[k2,t2,X2,Y2,W2,n2];obtain ⟨w1,hw1⟩:=aH0 ((w.alloc (.cells #[k1,t1,X1,Y1,W1,n1] 161)).alloc (.cells #[k2,t2,X2,Y2,W2,n2] 161));obtain ⟨o1,ho1⟩:=aH0 w.heap.size;obtain ⟨o2,ho2⟩:=aH0 ((w.alloc (.cells #[k1,t1,X1,Y1,W1,n1] 161)).heap.size);have aB6:o2=o1+1:=(by rw[ho2,ho1];simp);rw[←hw1] at b1 b2;rw[←ho1] at b1;rw[←ho2] at b2;try rw[←hw1,←ho1]
 have HW1:=aHH hw1;rw[aB6] at b2;clear hw1 ho1 ho2 aB6;have kA:=b1.all6';have kB:=b2.all6';clear b1 b2;refine aHZ [aHX 0,aHX 1,aHX 2,aHX 3,aHX 4,aHX 5,aHX 6,aHX 7,aHX 8,aHX 9,aHX 10,aHX 11,aHX 12,aHX 13,aHX 15,aHX 16,aHX 17,aHX 18,aHX 19,aHY 14,aHY 20,aHY 21,aHX 22] (by kernel_rfl) ?_
 iterate 19
  apply Flow.calm2 _ _ rfl rfl
  ·intro a b c d;obtain ⟨e,f⟩:=b.rule;go_simp;(try go_ints);exact d
  ·intro a b;simp only[sqA];exact b
 apply Flow.move rfl;go_wp2_with fail;refine (C3.out _).mono ?_;rintro e w' ⟨rfl,rfl⟩;go_wp2_with fail;refine ⟨fun _=>(by first|exact HB1|exact Bl.refl _),?_⟩;apply Flow.move rfl;go_wp2_with fail;first|refine ⟨fun _ => ?_,?_⟩|refine ⟨?_,?_⟩
 ·repeat' (first|exact Bl.refl _|refine Bl.drewL ?_|refine Bl.drew ?_|refine Bl.alloc ?_ _)
 apply Flow.move rfl;go_wp2_with fail;refine (F4 _ _ [Y1-Y2,X1-X2,r3,k1-k2] _ (Reads.lit (Blk.new _ _ _).drew rfl) (by simp)).mono ?_;rintro e w' ⟨rfl,rfl⟩;go_wp2_with fail;refine ⟨fun _=>(by first|exact HB3|exact Bl.refl _),?_⟩;apply Flow.asg _ rfl
 ·intro a b;simp only[sqA,Act.eval,sqC];exact b
 refine Flow.done ?_;go_wp2_with fail;go_ret;exact ⟨cP HV2.out.symm,1,#[_,_,_],by rw[HW1.out];exact (Y6 _ _ _ _).symm⟩
end Go.Proofs.YtllefinciimffaaGreatDoor
namespace Go.Proofs.YtllefinciimffaaGreatDoor
open Go.RowKit Go.Shelf
def KeepsIt (w w':World):Prop:=∀(j:Nat) (s:ByteArray) (p:Nat),w.heap[j]? = some (.stringIter s p)→w'.heap[j]? = some (.stringIter s p)
theorem KeepsIt.refl (w:World):KeepsIt w w:=fun _ _ _ h=>h
theorem KeepsIt.trans {a b c:World} (h:KeepsIt a b) (k:KeepsIt b c):KeepsIt a c:=fun j s p e=>k j s p (h j s p e)
theorem KeepsIt.setCell {a w:World} (h:KeepsIt a w) (q:Addr) (u:Value):KeepsIt a (w.setCell q u):=fun j s p e=>by
 have h1:=h j s p e;show (w.setCell q u).heap[j]? = _;unfold World.setCell;simp only[Array.getElem?_modify];by_cases hj:q.block=j
 ·rw[if_pos hj,h1];rfl
 ·rw[if_neg hj,h1]
theorem KeepsIt.alloc {a w:World} (h:KeepsIt a w) (o:Obj):KeepsIt a (w.alloc o):=fun j s p e=>by
 have h1:=h j s p e;exact (Below.heap_alloc w o j (aIy.1 h1).1).trans h1
theorem KeepsIt.grown {a w w':World} {v:Value} {B n:Nat} {e:TypeId} {xs:List Value} (h:KeepsIt a w) (hg:w.grownBy w' v.ownBlock) (ho:w.ownsRowF B e 1 v n xs):KeepsIt a w':=fun j s p e=>by
 have h1:=h j s p e;rw[hg.block j (aIy.1 h1).1 (fun hv => ?_)]
 ·exact h1
 ·rcases ho.2 with ⟨h2,_⟩|⟨g,cap,cur,fz,h2,-,hh,-⟩
  ·subst h2;cases hv
  ·subst h2;injection hv with hv;subst hv;rw[h1] at hh;cases hh
theorem zX (B:Nat) (l:List UInt8) (c:UInt8) (w:World) (h:Bui B l w) (cT:l.length+1≤140737488355328) (hBw:B≤w.heap.size) :
 Calls Tryz.prog 124 #[.pointer (some ⟨B,0,none⟩),.int .u8 (c.toNat:Int)] w fun e w'=>e=.returned .nilIface∧Bui B (l++[c]) w'∧Below B w w'∧KeepsIt w w':=by
 obtain ⟨i0,hi,hz0,hz1,hz2⟩:=info_parts JH;obtain ⟨cv,hcv⟩:=aH0 ((c.toNat:Int):Int);have hbc:Lib.byteCells (l++[c])=Lib.byteCells l++[.int .u8 cv]:=(by rw[Lib.byteCells_append,hcv];rfl);have hbl:(Lib.byteCells l).length=l.length:=Lib.byteCells_length l;rw[←hcv];have Hbc:=aHH hbc;have Hbl:=aHH hbl;clear hbc hbl hcv;have hck:Calls Tryz.prog 113 #[.pointer (some ⟨B,0,none⟩)] w fun e w'=>e=.returned (.tuple #[])∧Lib.BuilderAtF 94 5 B B (.pointer (some ⟨B,0,none⟩)) (Lib.byteCells l) w'∧Below B w w'∧KeepsIt w w':=by
  rcases h with h|h
  ·refine (nO B w h.cell0 h.shape h.frozen0).mono ?_;rintro e w' ⟨rfl,rfl⟩;exact ⟨rfl,h.used _,(Below.refl B w).setCell (p:=⟨B,0,none⟩) (Nat.le_refl _) _,(KeepsIt.refl w).setCell _ _⟩
  ·refine (A9 B w h.cell0).mono ?_;rintro e w' ⟨rfl,rfl⟩;exact ⟨rfl,h,Below.refl B _,KeepsIt.refl _⟩
 obtain ⟨bs,hbs⟩:=aH0 (Lib.byteCells l);rw[←hbs] at hck Hbc Hbl;have Hck:=aHH hck;clear hbs hck h
 go_in
 go_wp2_with (go_at_call 113;refine Hck.out.mono ?_);rintro e w1 ⟨rfl,h1,hb1,hk1⟩;obtain ⟨hB,v,hbk,aV,hne⟩:=h1;have HK1:=aHH hk1;clear hk1;have c0:w1.cell? ⟨B,0,none⟩=some (.pointer (some ⟨B,0,none⟩)):=(by rw[Lib.cell_of_heap hbk];rfl);have c1:w1.cell? ⟨B,1,none⟩=some v:=(by rw[Lib.cell_of_heap hbk];rfl);go_wp2_with (at_builtin;refine wpList_append_ownF _ rfl _ _ 92 rfl B 5 i0 (.int .u8 0) 1 1 Tryz.underlying92 hi hz0 hz1 hz2 rfl (by decide) _ _ _ rfl (aV.alloc _) ⟨w1.heap.size,0,none⟩ 1 1 [.int .u8 cv] rfl rfl ?c1 ?c2 ?c3 ?c4 ?c5 ?_);case c1=>
  intro j u hj
  match j,hj with
  |0,hj=>simp at hj;subst hj;simp[Addr.add]
 case c2=>intro u hu;simp at hu;subst hu;rfl
 case c3=>unfold maxLen;have:=Hbl.out;omega
 case c4=>have:=Hbl.out;omega
 case c5=>have:=hb1.size;simp;omega
 intro v' w2 mI vH _;have hlt:B<w1.heap.size:=by
  rcases Nat.lt_or_ge B w1.heap.size with h' | h'
  ·exact h'
  ·simp[Array.getElem?_eq_none h'] at hbk
 have hb2:w2.heap[B]? = some (.cells #[.pointer (some ⟨B,0,none⟩),v] 94 (0,0)):=by
  rw[vH.block B (by simp;omega) (fun e=>hne e.symm),Lib.alloc_old w1 _ B hlt];exact hbk
 have d0:w2.cell? ⟨B,0,none⟩=some (.pointer (some ⟨B,0,none⟩)):=(by rw[Lib.cell_of_heap hb2];rfl);have d1:w2.cell? ⟨B,1,none⟩=some v:=(by rw[Lib.cell_of_heap hb2];rfl);have f1:w2.frozen? ⟨B,1,none⟩=false:=Lib.frozen_of_heap hb2 1;obtain ⟨g,cap,rfl⟩:∃g cap,v'=.slice (some ⟨g,0,none⟩) (bs.length+1) cap:=by
  rcases mI.2 with ⟨_,h0⟩|⟨g,cap,cur,fz,hv,_⟩
  ·omega
  ·exact ⟨g,cap,hv⟩
 have YF:=Lib.BuilderAtF.put (T:=94) (e:=5) hB hb2 (bs':=bs++[.int .u8 cv]) (by simpa using mI) (by decide);have ZI:Below B w (w2.setCell ⟨B,1,none⟩ (.slice (some ⟨g,0,none⟩) (bs.length+1) cap)):=((hb1.alloc (by have:=hb1.size;omega) _).grown vH (by have:=hb1.size;simp;omega) (fun k hk=>(aV.lt k hk).1)).setCell (p:=⟨B,1,none⟩) hB _;have hki:KeepsIt w (w2.setCell ⟨B,1,none⟩ (.slice (some ⟨g,0,none⟩) (bs.length+1) cap)):=((HK1.out.alloc _).grown vH (aV.alloc _)).setCell _ _;obtain ⟨aBR,aBS,Hki⟩:=aHI YF ZI hki;clear YF ZI hki mI vH aV hbk hb2 hlt hb1 hne HK1
 go_wp2
 go_ret;exact ⟨rfl,by show Lib.IsBuilderF _ _ B B (Lib.byteCells (l++[c])) _;rw[Hbc.out];exact Or.inr aBR.out,aBS.out,Hki.out⟩
theorem W9 {B:Nat} {l:List UInt8} {w:World} (h:Bui B l w) {k:Nat} {s:ByteArray} {pos:Nat} (hk:w.heap[k]? = some (.stringIter s pos)) (pos':Nat):Bui B l (w.iterAt k s pos'):=
 h.elim (fun x=>.inl (x.iterAt hk pos')) (fun x=>.inr (x.iterAt hk pos'))
theorem XA (c:UInt8) (l:List UInt8):exB (c :: l)=(97-c) :: exB l:=rfl
theorem GU (l:List UInt8):(⟨l.toArray⟩:ByteArray).extract 0 0=⟨#[]⟩:=by
 apply ByteArray.ext;rw[ByteArray.data_extract];simp
theorem KI {c:UInt8} {l cs:List UInt8}:cZ (c :: l) cs=(cs.contains c&&cZ l cs):=rfl
theorem Y7 {c:UInt8} (h:([48,49]:List UInt8).contains c=true):c=48∨c=49:=by
 simpa using h
theorem TQ (g : Nat) (eg : ∀ args w, (callFunc g args).run Tryz.prog w = .ok (.enter g args) w)
 (hf:∀(c:UInt8) (W:World),c=48∨c=49→Calls Tryz.prog g #[.int .i32 (c.toNat:Int)] W fun e w'=>e=.returned (.int .i32 ((97-c).toNat:Int))∧W=w')
 (c:UInt8) (l:List UInt8) (hm:cZ (c :: l) [48,49]=true) (hl:l.length≤1000) (w:World) :
 Calls Tryz.prog 271 #[.func (.func g) #[] #[],.string ⟨(c :: l).toArray⟩] w fun e w'=>e=.returned (.string ⟨(exB (c :: l)).toArray⟩)∧Bl w w':=by
 rw[KI,aIs] at hm;obtain ⟨hc,hm⟩:=hm;have hc2:=Y7 hc;obtain ⟨m,hm1⟩:=aH0 (l.length+1);have hsz:(⟨(c :: l).toArray⟩:ByteArray).size=m:=(by rw[Lib.size_mk,hm1];rfl);have hm2:m≤1001:=(by omega);have HMl:=aHH hm1;clear hm1 hl;obtain ⟨hfc,HF,HM⟩:=aHI (fun W=>hf c W hc2) hf hm;clear hf hm hc;have hne:((97-c).toNat:Int)≠(c.toNat:Int):=(by rcases hc2 with rfl|rfl<;>decide);have hr:(97-c).toNat<128:=(by rcases hc2 with rfl|rfl<;>decide);have aB7:c.toNat<128:=(by rcases hc2 with rfl|rfl<;>decide);have hc0:0<c.toNat:=(by rcases hc2 with rfl|rfl<;>decide);obtain ⟨r,hrr⟩:=aH0 (97-c:UInt8);rw[←hrr] at hne hr hfc;have HR:=aHH hrr;clear hrr hc2;have hbq:((r.toNat:Int)==(c.toNat:Int))=false:=(by rw[aIr];exact hne);have hbq2:((c.toNat:Int)==65533)=false:=(by rw[aIr];omega);have Hwr:=aHH (fun W hb hB=>DQ w.heap.size [] r hr W hb (by decide) hB);have Hrl:=aHH (KC c aB7);clear hne
 go_in
 go_wp2_with fail;obtain ⟨B,hB⟩:=aH0 w.heap.size;obtain ⟨w1,hw1⟩:=aH0 (((w.alloc (.cells #[.pointer none,.slice none 0 0] 94)).iter ⟨(c :: l).toArray⟩ 0));have hit:w1.heap[B+1]? = some (.stringIter ⟨(c :: l).toArray⟩ 0):=by
  rw[hw1,hB];have h:=heap_alloc_new (w.alloc (.cells #[.pointer none,.slice none 0 0] 94)) (.stringIter ⟨(c :: l).toArray⟩ 0);rw[World.size_alloc] at h;exact h
 have hbk:w1.heap[B]? = some (.cells #[.pointer none,.slice none 0 0] 94 (0,0)):=by
  rw[hw1,hB];exact (Blk.new w 94 #[.pointer none,.slice none 0 0]).alloc (.stringIter ⟨(c :: l).toArray⟩ 0)
 have hb1:Bl w w1:=(by rw[hw1];exact ((Bl.refl w).alloc _).alloc _);have hs1:B+2≤w1.heap.size:=by
  rw[hw1,hB];show w.heap.size+2≤((w.alloc _).alloc (.stringIter ⟨(c :: l).toArray⟩ 0)).heap.size;simp
 rw[←hw1,←hB];rw[←hB] at Hwr;have HB:=aHH hB;clear hw1 hB;have hih:0<(⟨(c :: l).toArray⟩:ByteArray).size:=(by rw[hsz];have:=HMl.out;omega);have hg0:(⟨(c :: l).toArray⟩:ByteArray)[0]'hih=c:=rfl;have ET:=fun ty=>Lib.run_next_ascii_at (P:=Tryz.prog) w1 (B+1) ⟨(c :: l).toArray⟩ 0 ty hit hih (by rw[hg0];exact aB7);have h2b:Bl w (w1.iterAt (B+1) ⟨(c :: l).toArray⟩ (0+1)):=Lib.below_iterAt hb1 (k:=B+1) (by rw[HB.out];omega) _ _;have h2k:(w1.iterAt (B+1) ⟨(c :: l).toArray⟩ (0+1)).heap[B]? = some (.cells #[.pointer none,.slice none 0 0] 94 (0,0)):=(Lib.iterAt_other w1 (B+1) B ⟨(c :: l).toArray⟩ (0+1) (by omega)).trans hbk;have h2s:B+2≤(w1.iterAt (B+1) ⟨(c :: l).toArray⟩ (0+1)).heap.size:=(by rw[Lib.iterAt_size];exact hs1);rw[hg0] at ET;generalize w1.iterAt (B+1) ⟨(c :: l).toArray⟩ (0+1)=w2 at ET h2b h2k h2s;have hnx:∀ty,(Instr.next (.pointer (some ⟨B+1,0,none⟩)) true ty).run Tryz.prog w1=.ok (.tuple #[.bool true,.int .i64 0,.int .i32 (c.toNat:Int)]) w2:=ET;obtain ⟨H2b,H2k,H2s⟩:=aHI h2b h2k h2s;clear ET h2b h2k h2s hit hbk hb1 hs1 hih hg0;refine wp_loop_rounds 1 ?_;rw[rounds_succ];go_wp2_with fail;refine (hfc.out _).mono ?_;rintro e w' ⟨rfl,rfl⟩;go_wp2_with fail;refine (Hrl.out _).mono ?_;rintro e w' ⟨rfl,rfl⟩;have hgr:=PT B (m+4) w2 H2k.out (by have:=H2s.out;omega) (by omega) (by omega);rw[show ((m+4:Nat):Int)=(m:Int)+4 by omega] at hgr;have Hgr:=aHH hgr;clear hgr;go_wp2_with fail;refine Hgr.out.mono ?_;rintro e w3 ⟨rfl,hu3,hb3⟩;have hx0:=GU (c :: l);have hw3:B+2≤w3.heap.size:=aII H2s.out hb3.size;have Hws:=aHH (aO B [] [] w3 hu3 (by decide) (by omega));have Hb3:=aHH (Bl.trans' H2b.out HB.out.symm hb3);clear hu3 hb3;go_wp2_with fail;refine Hws.out.mono ?_;rintro e w4 ⟨rfl,hu4,hb4⟩;have hw4:B+2≤w4.heap.size:=aII hw3 hb4.size;have aFy:=aHH (Hwr.out w4 hu4 (by omega));have Hb4:=aHH (Bl.trans' Hb3.out HB.out.symm hb4);clear hu4 hb4 Hb3 Hws Hwr hx0 hw3;have hr0:(0:Int)≤(r.toNat:Int):=(by omega);have hx1:(⟨(c :: l).toArray⟩:ByteArray).extract 1 m=⟨l.toArray⟩:=by
  rw[HMl.out];exact iA (c :: l) 1
 have hm1:(1:Int)≤(m:Int):=(by have:=HMl.out;omega);go_wp2_with fail;refine aFy.out.mono ?_;rintro e w5 ⟨⟨v5,rfl⟩,hu5,hb5⟩;have hw5:B+2≤w5.heap.size:=aII hw4 hb5.size;obtain ⟨aC0,Hu5,Hb5⟩:=aHI (zW B [r] w5 hu5 (by simp)) hu5 (Bl.trans' Hb4.out HB.out.symm hb5);clear hu5 hb5 Hb4 aFy hw4;go_wp2_with fail;refine aC0.out.mono ?_;rintro e w' ⟨cc,rfl,rfl⟩;obtain ⟨cz,hcz⟩:=aH0 (((cc+1:Nat):Int):Int);have hq0:(cz==0)=false:=(by rw[aIr];omega);rw[←hcz];clear hcz hx1 hm1 hnx aC0;have hsl:(⟨l.toArray⟩:ByteArray).size=l.length:=Lib.size_mk l;go_wp2_with fail;obtain ⟨K,hK⟩:=aH0 w5.heap.size;obtain ⟨w6,hw6⟩:=aH0 (w5.iter ⟨l.toArray⟩ 0);have hit:w6.heap[K]? = some (.stringIter ⟨l.toArray⟩ 0):=by
  rw[hw6,hK];exact heap_alloc_new w5 (.stringIter ⟨l.toArray⟩ 0)
 have hu6:Bui B (exB (c :: l.take 0)) w6:=by
  rw[hw6,XA,←HR.out];exact Lib.IsBuilderF.alloc Hu5.out (.stringIter ⟨l.toArray⟩ 0)
 have hb6:Bl w w6:=(by rw[hw6];exact Hb5.out.alloc _);have hs6:B+2≤w6.heap.size:=by
  rw[hw6];show B+2≤(w5.alloc (.stringIter ⟨l.toArray⟩ 0)).heap.size;simp;omega
 rw[←hw6,←hK];have hBK:B+2≤K:=(by omega);have ZQ:=aHH (And.intro hit (And.intro hu6 (And.intro hb6 hs6)));have HBK:=aHH hBK;clear hw6 hK hit hu6 hb6 hs6 hBK hw5 Hu5 Hb5;go_loopw [] (fun wi=>∃i:Nat,i≤l.length∧wi.heap[K]? = some (.stringIter ⟨l.toArray⟩ i)∧Bui B (exB (c :: l.take i)) wi∧Bl w wi∧B+2≤wi.heap.size) (fun wi=>l.length-wi.iterPos K);case atStart=>exact ⟨0,Nat.zero_le _,ZQ.out⟩
 case round=>
  rename World=>wi;obtain ⟨i,hi,hit,hui,hbi,hsi⟩:=hrel;have hBK:=HBK.out;by_cases hlt:i<l.length
  ·have hih:i<(⟨l.toArray⟩:ByteArray).size:=(by rw[hsl];exact hlt);have hgi:=Lib.getElem_mk l i hih;obtain ⟨d,hd⟩:=aH0 ((⟨l.toArray⟩:ByteArray)[i]'hih);rw[←hd] at hgi;have hdc:=aIl.1 (show (l.all fun b=>([48,49]:List UInt8).contains b)=true from HM.out) d (List.mem_of_getElem? hgi);have hd2:=Y7 hdc;have aDY:d.toNat<128:=(by rcases hd2 with rfl|rfl<;>decide);have ET:=fun ty=>Lib.run_next_ascii_at (P:=Tryz.prog) wi K ⟨l.toArray⟩ i ty hit hih (by rw[←hd];exact aDY);have h7b:Bl w (wi.iterAt K ⟨l.toArray⟩ (i+1)):=Lib.below_iterAt hbi (k:=K) (by have:=HB.out;omega) _ _;have h7u:Bui B (exB (c :: l.take i)) (wi.iterAt K ⟨l.toArray⟩ (i+1)):=W9 hui hit (i+1);have h7i:=Lib.iterAt_heap wi K ⟨l.toArray⟩ i (i+1) hit;have h7s:B+2≤(wi.iterAt K ⟨l.toArray⟩ (i+1)).heap.size:=(by rw[Lib.iterAt_size];exact hsi);rw[←hd] at ET;generalize wi.iterAt K ⟨l.toArray⟩ (i+1)=w7 at ET h7b h7u h7i h7s;have hnx:∀ty,(Instr.next (.pointer (some ⟨K,0,none⟩)) true ty).run Tryz.prog wi=.ok (.tuple #[.bool true,.int .i64 (i:Int),.int .i32 (d.toNat:Int)]) w7:=ET;have Hfd:=aHH (fun W=>HF.out d W hd2);obtain ⟨q,hq⟩:=aH0 (97-d:UInt8);have hq1:q.toNat<128:=(by rw[hq];rcases hd2 with rfl|rfl<;>decide);have hq2:0<q.toNat:=(by rw[hq];rcases hd2 with rfl|rfl<;>decide);have hex:exB (c :: l.take (i+1))=exB (c :: l.take i)++[q]:=by
    rw[aIJ,hgi,hq];unfold exB;simp
   have hxl:(exB (c :: l.take i)).length+1≤140737488355328:=by
    unfold exB;rw[aH6,aH8,aH7];have:=HMl.out;omega
   rw[←hq] at Hfd;have Hwb:=aHH (zX B _ q w7 h7u hxl (by omega));rw[←hex] at Hwb;obtain ⟨H7b,H7i,H7s,Hit⟩:=aHJ h7b h7i h7s hit;have hq3:(q.toNat:Int)<128:=(by omega);have hq4:(0:Int)≤(q.toNat:Int):=(by omega);clear ET h7b h7u h7i h7s hgi hd hdc hd2 hq hex hxl hit hui hbi hsi ZQ;go_wp2_with fail;refine (Hfd.out _).mono ?_;rintro e w' ⟨rfl,rfl⟩;go_wp2_with fail;refine Hwb.out.mono ?_;rintro e w8 ⟨rfl,hu8,hb8,hk8⟩;have Hst:=aHH (show w8.heap[K]? = some (.stringIter ⟨l.toArray⟩ (i+1))∧Bui B (exB (c :: l.take (i+1))) w8∧Bl w w8∧B+2≤w8.heap.size from ⟨hk8 _ _ _ H7i.out,hu8,Bl.trans' H7b.out HB.out.symm hb8,aII H7s.out hb8.size⟩);clear hu8 hb8 hk8;go_wp2_with fail;exact ⟨⟨i+1,hlt,Hst.out⟩,by simp only[World.iterPos,Hst.out.1,Hit.out];omega⟩
  ·obtain rfl:i=l.length:=(by omega);have hnx:∀ty,(Instr.next (.pointer (some ⟨K,0,none⟩)) true ty).run Tryz.prog wi=.ok (.tuple #[.bool false]) wi:=fun ty=>Lib.run_next_end_at wi K ⟨l.toArray⟩ l.length ty hit (by rw[hsl];omega);rw[aH9] at hui;have Hbs:=aHH (gG B _ wi hui (by omega));have Hbi:=aHH hbi;clear hui hbi hit ZQ;go_wp2_with fail;refine Hbs.out.mono ?_;rintro e w9 ⟨rfl,hb9⟩;have hb:=Bl.trans' Hbi.out HB.out.symm hb9;go_wp2_with fail;go_ret;exact ⟨rfl,hb⟩
end Go.Proofs.YtllefinciimffaaGreatDoor
