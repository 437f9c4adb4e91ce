import Derived.Test.YtllefinciimffaaGreatDoorMClaimFields11
set_option maxHeartbeats 20000000
set_option maxRecDepth 100000
namespace Go.Proofs.YtllefinciimffaaGreatDoor
open Go.RowKit
structure Bx where
 X:Int
 Y:Int
 W:Int
 H:Int
deriving DecidableEq
def Bx.cells (b:Bx):List Value:=[.int .i64 b.X,.int .i64 b.Y,.int .i64 b.W,.int .i64 b.H]
def dI (l:List Bx):List Value:=l.flatMap Bx.cells
def Bx.zero:Bx:=⟨0,0,0,0⟩
def Bx.inP (b:Bx) (W H:Int):Bool:=dG b.X b.Y b.W b.H W H
def Bx.over (a b:Bx):Bool:=decide (a.X<b.X+b.W)&&(decide (b.X<a.X+a.W)&&(decide (a.Y<b.Y+b.H)&&decide (b.Y<a.Y+a.H)))
theorem lS {α:Type} (f:α→List Value) (k:Nat) (hf:∀a,(f a).length=k) (l:List α):(l.flatMap f).length=l.length*k:=by
 induction l with
 |nil=>simp
 |cons a l ih=>rw[aIM,aH5,ih,hf,aH8,Nat.succ_mul,Nat.add_comm]
theorem TH {α:Type} (f:α→List Value) (k:Nat) (hf:∀a,(f a).length=k) {l:List α} {i:Nat} {a:α} (h:l[i]? = some a) (j:Nat) (hj:j<k):(l.flatMap f)[i*k+j]? = (f a)[j]?:=by
 induction l generalizing i with
 |nil=>simp at h
 |cons x l ih=>
  rw[aIM];rcases i with _|i
  ·simp only[aIq,Option.some.injEq] at h;subst h;rw[aIb (by rw[hf];omega)];simp
  ·have hk:(i+1)*k=i*k+k:=Nat.succ_mul i k;rw[aIa (by rw[hf];omega),hf,hk,show i*k+k+j-k=i*k+j by omega];exact ih (by simpa using h)
theorem iB {α:Type} (f:α→List Value) (k:Nat) (hf:∀a,(f a).length=k) {w:World} {L:Option Addr} {l:List α} {i:Nat} {a:α} (h:Reads w k L l.length (l.flatMap f)) (hi:l[i]? = some a) :
 ∃ad,L=some ad∧∀j v,j<k→(f a)[j]? = some v→w.cell? ((ad.add (i*k)).add j)=some v:=by
 have hlt:i<l.length:=(aH3.1 hi).1;obtain ⟨ad,e,hc⟩:=h.2 (by omega);refine ⟨ad,e,fun j v hj hv => ?_⟩;rw[dZ];exact hc _ _ (by rw[TH f k hf hi j hj];exact hv)
structure Anc where
 W:Int
 H:Int
 A:Option Addr
 m:Nat
 c:Nat
 bs:List Bool
 X:Int
 Y:Int
def Anc.cells (a:Anc):List Value:=[.int .i64 a.W,.int .i64 a.H,.slice a.A a.m a.c,.int .i64 a.X,.int .i64 a.Y]
def Anc.box (a:Anc):Bx:=⟨a.X,a.Y,a.W,a.H⟩
structure Fld where
 name:List UInt8
 kind:Int
 box:Bx
 M:Option Addr
 mc:Nat
 marks:List Bx
 most:Int
 needed:Bool
def Fld.cells (f:Fld):List Value:=[.string ⟨f.name.toArray⟩,.int .i64 f.kind,.int .i64 f.box.X,.int .i64 f.box.Y,.int .i64 f.box.W,.int .i64 f.box.H,.slice f.M f.marks.length f.mc,.int .i64 f.most,.bool f.needed]
structure Rul where
 kind:Int
 field:List UInt8
 other:List UInt8
 text:List UInt8
def Rul.cells (r:Rul):List Value:=[.int .i64 r.kind,.string ⟨r.field.toArray⟩,.string ⟨r.other.toArray⟩,.string ⟨r.text.toArray⟩]
def Anc.val (a:Anc):Value:=.agg #[a.W,a.H,.slice a.A a.m a.c,a.X,a.Y]
def Bx.val (b:Bx):Value:=.agg #[b.X,b.Y,b.W,b.H]
def Fld.val (f:Fld):Value:=.agg #[f.name,f.kind,f.box.X,f.box.Y,f.box.W,f.box.H,.slice f.M f.marks.length f.mc,f.most,.bool f.needed]
def Rul.val (r:Rul):Value:=.agg #[r.kind,r.field,r.other,r.text]
structure Bx.Ok (b:Bx):Prop where
 x:0≤b.X∧b.X≤4000
 y:0≤b.Y∧b.Y≤4000
 w:1≤b.W∧b.W≤4000
 h:1≤b.H∧b.H≤4000
theorem Bx.ok {b:Bx} {W H:Int} (hW:W≤4000) (hH:H≤4000) (h:b.inP W H=true):b.Ok:=by
 unfold Bx.inP dG at h;have h:=aIv h;exact ⟨by omega,by omega,by omega,by omega⟩
def AncsAt (w:World) (L:Option Addr) (l:List Anc):Prop:=Reads w 5 L l.length (l.flatMap Anc.cells)∧∀a∈l,Reads w 1 a.A a.m (a.bs.map .bool)
def BxsAt (w:World) (L:Option Addr) (l:List Bx):Prop:=Reads w 4 L l.length (l.flatMap Bx.cells)
def FldsAt (w:World) (L:Option Addr) (l:List Fld):Prop:=Reads w 9 L l.length (l.flatMap Fld.cells)∧∀f∈l,BxsAt w f.M f.marks∧f.marks.length≤f.mc∧f.marks.length≤9223372036854775807∧f.name.length≤9223372036854775807
def RulsAt (w:World) (L:Option Addr) (l:List Rul):Prop:=Reads w 4 L l.length (l.flatMap Rul.cells)∧∀r∈l,r.field.length≤9223372036854775807∧r.other.length≤9223372036854775807∧r.text.length≤9223372036854775807
section
variable {w w':World} {L:Option Addr}
theorem AncsAt.bl {l:List Anc} (h:AncsAt w L l) (hb:Bl w w'):AncsAt w' L l:=⟨h.1.bl hb,fun a ha=>(h.2 a ha).bl hb⟩
theorem BxsAt.bl {l:List Bx} (h:BxsAt w L l) (hb:Bl w w'):BxsAt w' L l:=Reads.bl h hb
theorem FldsAt.bl {l:List Fld} (h:FldsAt w L l) (hb:Bl w w'):FldsAt w' L l:=⟨h.1.bl hb,fun a ha=>⟨(h.2 a ha).1.bl hb,(h.2 a ha).2⟩⟩
theorem RulsAt.bl {l:List Rul} (h:RulsAt w L l) (hb:Bl w w'):RulsAt w' L l:=⟨h.1.bl hb,h.2⟩
theorem BxsAt.at_ {l:List Bx} {i:Nat} {b:Bx} (h:BxsAt w L l) (hi:l[i]? = some b):∃ad,L=some ad∧w.cell? (ad.add (i*4))=some (.int .i64 b.X)∧w.cell? ⟨(ad.add (i*4)).block,(ad.add (i*4)).off+1,none⟩=some (.int .i64 b.Y) ∧
 w.cell? ⟨(ad.add (i*4)).block,(ad.add (i*4)).off+2,none⟩=some (.int .i64 b.W)∧w.cell? ⟨(ad.add (i*4)).block,(ad.add (i*4)).off+3,none⟩=some (.int .i64 b.H):=by
 obtain ⟨ad,e,key⟩:=iB Bx.cells 4 (fun _=>rfl) h hi;have k0:=key 0 _ (by omega) rfl;have k1:=key 1 _ (by omega) rfl;have k2:=key 2 _ (by omega) rfl;have k3:=key 3 _ (by omega) rfl;rw[Addr.add_zero'] at k0;rw[Addr.add_succ'] at k1 k2 k3;exact ⟨ad,e,k0,k1,k2,k3⟩
theorem AncsAt.at_ {l:List Anc} {i:Nat} {a:Anc} (h:AncsAt w L l) (hi:l[i]? = some a):∃ad,L=some ad∧w.cell? (ad.add (i*5))=some (.int .i64 a.W)∧w.cell? ⟨(ad.add (i*5)).block,(ad.add (i*5)).off+1,none⟩=some (.int .i64 a.H) ∧
 w.cell? ⟨(ad.add (i*5)).block,(ad.add (i*5)).off+2,none⟩=some (.slice a.A a.m a.c)∧w.cell? ⟨(ad.add (i*5)).block,(ad.add (i*5)).off+3,none⟩=some (.int .i64 a.X)∧w.cell? ⟨(ad.add (i*5)).block,(ad.add (i*5)).off+4,none⟩=some (.int .i64 a.Y):=by
 obtain ⟨ad,e,key⟩:=iB Anc.cells 5 (fun _=>rfl) h.1 hi;have k0:=key 0 _ (by omega) rfl;have k1:=key 1 _ (by omega) rfl;have k2:=key 2 _ (by omega) rfl;have k3:=key 3 _ (by omega) rfl;have k4:=key 4 _ (by omega) rfl;rw[Addr.add_zero'] at k0;rw[Addr.add_succ'] at k1 k2 k3 k4;exact ⟨ad,e,k0,k1,k2,k3,k4⟩
theorem FldsAt.at_ {l:List Fld} {i:Nat} {f:Fld} (h:FldsAt w L l) (hi:l[i]? = some f):∃ad,L=some ad∧w.cell? (ad.add (i*9))=some (.string ⟨f.name.toArray⟩)∧w.cell? ⟨(ad.add (i*9)).block,(ad.add (i*9)).off+1,none⟩=some (.int .i64 f.kind) ∧
 w.cell? ⟨(ad.add (i*9)).block,(ad.add (i*9)).off+2,none⟩=some (.int .i64 f.box.X)∧w.cell? ⟨(ad.add (i*9)).block,(ad.add (i*9)).off+3,none⟩=some (.int .i64 f.box.Y)∧w.cell? ⟨(ad.add (i*9)).block,(ad.add (i*9)).off+4,none⟩=some (.int .i64 f.box.W)∧w.cell? ⟨(ad.add (i*9)).block,(ad.add (i*9)).off+5,none⟩=some (.int .i64 f.box.H) ∧
 w.cell? ⟨(ad.add (i*9)).block,(ad.add (i*9)).off+6,none⟩=some (.slice f.M f.marks.length f.mc)∧w.cell? ⟨(ad.add (i*9)).block,(ad.add (i*9)).off+7,none⟩=some (.int .i64 f.most)∧w.cell? ⟨(ad.add (i*9)).block,(ad.add (i*9)).off+8,none⟩=some (.bool f.needed):=by
 obtain ⟨ad,e,key⟩:=iB Fld.cells 9 (fun _=>rfl) h.1 hi;have k0:=key 0 _ (by omega) rfl;have k1:=key 1 _ (by omega) rfl;have k2:=key 2 _ (by omega) rfl;have k3:=key 3 _ (by omega) rfl;have k4:=key 4 _ (by omega) rfl;have k5:=key 5 _ (by omega) rfl;have k6:=key 6 _ (by omega) rfl;have k7:=key 7 _ (by omega) rfl;have k8:=key 8 _ (by omega) rfl;rw[Addr.add_zero'] at k0;rw[Addr.add_succ'] at k1 k2 k3 k4 k5 k6 k7 k8;exact ⟨ad,e,k0,k1,k2,k3,k4,k5,k6,k7,k8⟩
theorem RulsAt.at_ {l:List Rul} {i:Nat} {r:Rul} (h:RulsAt w L l) (hi:l[i]? = some r):∃ad,L=some ad∧w.cell? (ad.add (i*4))=some (.int .i64 r.kind)∧w.cell? ⟨(ad.add (i*4)).block,(ad.add (i*4)).off+1,none⟩=some (.string ⟨r.field.toArray⟩) ∧
 w.cell? ⟨(ad.add (i*4)).block,(ad.add (i*4)).off+2,none⟩=some (.string ⟨r.other.toArray⟩)∧w.cell? ⟨(ad.add (i*4)).block,(ad.add (i*4)).off+3,none⟩=some (.string ⟨r.text.toArray⟩):=by
 obtain ⟨ad,e,key⟩:=iB Rul.cells 4 (fun _=>rfl) h.1 hi;have k0:=key 0 _ (by omega) rfl;have k1:=key 1 _ (by omega) rfl;have k2:=key 2 _ (by omega) rfl;have k3:=key 3 _ (by omega) rfl;rw[Addr.add_zero'] at k0;rw[Addr.add_succ'] at k1 k2 k3;exact ⟨ad,e,k0,k1,k2,k3⟩
end
def cC (k:Int):Bool:=decide (k=3)||decide (k=4)
def fQ (W H:Int) (a:Anc):Int:=aB [aF a.W a.H a.m,aE (!decide (true∈a.bs)) 10,aE (!a.box.inP W H) 13]
def dJ (W H:Int) (l:List Bx):Int:=aE (l.any fun b => !b.inP W H) 13
def oD (W H:Int) (tw:Bool) (f:Fld):Int:=
 aB [aE (!cG f.name) 5,aE tw 6,aE (!inB f.kind 1 4) 1,(if cC f.kind then aE (!decide (f.box=Bx.zero)) 2 else aE (!f.box.inP W H) 13),
  aE (cC f.kind != decide (0<f.marks.length)) 2,aE (decide (20<f.marks.length)) 4,dJ W H f.marks,aE (!inB f.most 0 1000) 3,aE (!decide (f.kind=1)&&!decide (f.most=0)) 2]
def n9 (W H:Int) (prev:List (List UInt8)) (f:Fld):Int:=oD W H (decide (f.name∈prev)) f
def dT (W H : Int) : List Anc → Int
 |[]=>0
 |a :: l=>if fQ W H a=0 then dT W H l else fQ W H a
def dB (W H : Int) : List (List UInt8) → List Fld → Int
 |_,[]=>0
 |prev,f :: l=>if n9 W H prev f=0 then dB W H (prev++[f.name]) l else n9 W H prev f
def gH (f:Fld):List Bx:=(if cC f.kind then [] else [f.box])++f.marks
def gK (la:List Anc) (fs:List Fld):List Bx:=la.map Anc.box++fs.flatMap gH
def kE : List Bx → List Bx → Bool
 |_,[]=>false
 |prev,b :: l=>(prev.any fun p=>b.over p)||kE (prev++[b]) l
def JF (k:Int):Bool:=decide (k=4)||decide (k=5)
def J8 (k:Int):Bool:=decide (k=3)||decide (k=6)
def mW (t:List UInt8):Bool:=(cL t).all fun x => !x.isEmpty&&rN x
def uP (s:List UInt8):Option Nat:=match Lib.atoi s with
 |some v=>if s.length≤2∧0≤v∧Lib.itoa v=s then some v.toNat else none
 |none=>none
def fR (fs:List Fld) (name:List UInt8):Option Int:=(fs.find? fun f=>decide (f.name=name)).map Fld.kind
def eX (fs:List Fld) (r:Rul):Int:=
 aB [aE (!inB r.kind 1 6) 1,aE (decide (fR fs r.field=none)||(JF r.kind&&decide (fR fs r.other=none))) 10,
  aE ((!decide (r.kind=1)&&(cC ((fR fs r.field).getD 0) != decide (r.kind=6)))||(JF r.kind&&cC ((fR fs r.other).getD 0))) 1,
  aE ((!JF r.kind&&!r.other.isEmpty)||((!J8 r.kind&&!r.text.isEmpty)||((decide (r.kind=3)&&!mW r.text)||(decide (r.kind=6)&&(uP r.text).isNone)))) 2]
def dU (fs : List Fld) : List Rul → Int
 |[]=>0
 |r :: l=>if eX fs r=0 then dU fs l else eX fs r
def fA (nm:Bool) (W H reach dark:Int) (n:Nat):Int:=aB [aE (!nm) 5,aM W H,aE (!inB reach 0 40||!inB dark 1 1000) 3,aE (decide (10<n)) 4]
def mF (nm:Bool) (W H reach dark:Int) (la:List Anc) (fs:List Fld) (rs:List Rul):Int:=
 aB [fA nm W H reach dark la.length,dT W H la,aE (decide (fs.length=0)) 9,aE (decide (50<fs.length)) 4,dB W H [] fs,aE (kE [] (gK la fs)) 11,aE (decide (50<rs.length)) 4,dU fs rs]
structure Frm where
 name:List UInt8
 W:Int
 H:Int
 reach:Int
 dark:Int
 AL:Option Addr
 ac:Nat
 la:List Anc
 FL:Option Addr
 fc:Nat
 lf:List Fld
 RL:Option Addr
 rc:Nat
 lr:List Rul
def Frm.cells (f:Frm):List Value:=[.string ⟨f.name.toArray⟩,.int .i64 f.W,.int .i64 f.H,.int .i64 f.reach,.int .i64 f.dark,.slice f.AL f.la.length f.ac,.slice f.FL f.lf.length f.fc,.slice f.RL f.lr.length f.rc]
def Frm.val (f:Frm):Value:=.agg #[f.name,f.W,f.H,f.reach,f.dark,.slice f.AL f.la.length f.ac,.slice f.FL f.lf.length f.fc,.slice f.RL f.lr.length f.rc]
structure FrmAt (w:World) (f:Frm):Prop where
 ancs:AncsAt w f.AL f.la
 flds:FldsAt w f.FL f.lf
 ruls:RulsAt w f.RL f.lr
 nm:f.name.length≤9223372036854775807
 an:f.la.length≤f.ac∧f.la.length≤9223372036854775807
 fn:f.lf.length≤f.fc∧f.lf.length≤9223372036854775807
 rn:f.lr.length≤f.rc∧f.lr.length≤9223372036854775807
theorem FrmAt.bl {w w':World} {f:Frm} (h:FrmAt w f) (hb:Bl w w'):FrmAt w' f:=⟨h.ancs.bl hb,h.flds.bl hb,h.ruls.bl hb,h.nm,h.an,h.fn,h.rn⟩
def Frm.err (f:Frm):Int:=mF (cG f.name) f.W f.H f.reach f.dark f.la f.lf f.lr
def Frm.small (f:Frm) (n:Nat):Prop:=∀r∈f.lr,r.text.length≤n
structure Vlu where
 field:List UInt8
 text:List UInt8
 M:Option Addr
 mc:Nat
 marks:List Int
 sure:Int
def Vlu.cells (v:Vlu):List Value:=[.string ⟨v.field.toArray⟩,.string ⟨v.text.toArray⟩,.slice v.M v.marks.length v.mc,.int .i64 v.sure]
def VlusAt (w:World) (L:Option Addr) (l:List Vlu):Prop:=Reads w 4 L l.length (l.flatMap Vlu.cells)∧∀v∈l,Reads w 1 v.M v.marks.length (v.marks.map (.int .i64))∧v.field.length≤9223372036854775807∧v.text.length≤9223372036854775807∧v.marks.length≤9223372036854775807
theorem VlusAt.bl {w w':World} {L:Option Addr} {l:List Vlu} (h:VlusAt w L l) (hb:Bl w w'):VlusAt w' L l:=⟨h.1.bl hb,fun a ha=>⟨(h.2 a ha).1.bl hb,(h.2 a ha).2⟩⟩
theorem VlusAt.at_ {w:World} {L:Option Addr} {l:List Vlu} {i:Nat} {r:Vlu} (h:VlusAt w L l) (hi:l[i]? = some r):∃ad,L=some ad∧w.cell? (ad.add (i*4))=some (.string ⟨r.field.toArray⟩)∧w.cell? ⟨(ad.add (i*4)).block,(ad.add (i*4)).off+1,none⟩=some (.string ⟨r.text.toArray⟩) ∧
 w.cell? ⟨(ad.add (i*4)).block,(ad.add (i*4)).off+2,none⟩=some (.slice r.M r.marks.length r.mc)∧w.cell? ⟨(ad.add (i*4)).block,(ad.add (i*4)).off+3,none⟩=some (.int .i64 r.sure):=by
 obtain ⟨ad,e,key⟩:=iB Vlu.cells 4 (fun _=>rfl) h.1 hi;have k0:=key 0 _ (by omega) rfl;have k1:=key 1 _ (by omega) rfl;have k2:=key 2 _ (by omega) rfl;have k3:=key 3 _ (by omega) rfl;rw[Addr.add_zero'] at k0;rw[Addr.add_succ'] at k1 k2 k3;exact ⟨ad,e,k0,k1,k2,k3⟩
def okA (a:Anc) (W H:Int) (r j:Nat):Bool:=dG (a.X+vP r j) (a.Y+vQ r j) a.W a.H W H
def aBc (a:Anc) (cs:List Bool) (W r j:Nat):Nat:=AQ a.bs (fS a.W.toNat a.H.toNat (iU cs W (a.X+vP r j).toNat (a.Y+vQ r j).toNat)) a.W.toNat a.H.toNat 0 0 (a.W.toNat*a.H.toNat)
theorem aAj (a:Anc) (cs:List Bool) (W r j:Nat):aBc a cs W r j≤a.W.toNat*a.H.toNat:=C6 _ _ _ _ _ _ _
def BD (r:Nat):Nat:=(2*r+1)*(2*r+1)
def dD (f:Frm) (cs:List Bool) (a:Anc):Int × Int × Int:=mD (okA a f.W f.H f.reach.toNat) (aBc a cs f.W.toNat f.reach.toNat) f.reach.toNat (BD f.reach.toNat)
theorem TI {a:Anc} {W H:Int} (r:Nat) (h:a.box.inP W H=true):∃j,j<(2*r+1)*(2*r+1)∧okA a W H r j=true:=by
 refine ⟨r*(2*r+1)+r,d8 (by omega) (by omega),?_⟩;unfold okA;rw[JN r r r (by omega),JO r r r (by omega),Int.sub_self,Int.add_zero,Int.add_zero];exact h
theorem GF {f:Frm} {cs:List Bool} {a:Anc} (h:a.box.inP f.W f.H=true) (hr:f.reach.toNat≤40):0≤(dD f cs a).2.2∧(dD f cs a).2.2≤(a.W.toNat*a.H.toNat:Nat)∧(-40≤(dD f cs a).1∧(dD f cs a).1≤40)∧(-40≤(dD f cs a).2.1∧(dD f cs a).2.1≤40):=by
 have st:=vR (okA a f.W f.H f.reach.toNat) (aBc a cs f.W.toNat f.reach.toNat) f.reach.toNat (BD f.reach.toNat);have bd:=st.bd (Nat.le_refl _) hr;obtain ⟨j,hj,hk⟩:=TI f.reach.toNat h;unfold dD;refine ⟨?_,?_,bd.1,bd.2⟩
 ·rcases st with ⟨h1,-⟩|⟨b,-,-,-,e⟩
  ·rw[h1 j hj] at hk;cases hk
  ·rw[e];omega
 ·rcases st with ⟨h1,-⟩|⟨b,-,-,-,e⟩
  ·rw[h1 j hj] at hk;cases hk
  ·rw[e];have:=aAj a cs f.W.toNat f.reach.toNat b;omega
end Go.Proofs.YtllefinciimffaaGreatDoor
namespace Go.Proofs.YtllefinciimffaaGreatDoor
theorem bT {l:List Int}:aB (0 :: l)=aB l:=by
 cases l<;>rfl
theorem aJ {e:Int} {l:List Int} (h:e≠0):aB (e :: l)=e:=by
 unfold aB;rw[if_neg h]
theorem cV {e:Int} {l:List Int} (h:e=0):aB (e :: l)=aB l:=by rw[h];exact bT
theorem fF (e:Int):aE false e=0:=rfl
theorem r0 {α:Type} {l:List α} {i:Nat} {a:α} (h:l[i]? = some a):l.drop i=a :: l.drop (i+1):=by
 have hlt:=(aH3.1 h).1;rw[aIE hlt];rw[aH2 hlt] at h;rw[aIw h]
theorem eN {α:Type} {l:List α} {i:Nat} {a:α} (h:l[i]? = some a):l.take (i+1)=l.take i++[a]:=by rw[aIJ,h];rfl
theorem lT {W H:Int} {l:List Anc} {i:Nat} {a:Anc} (h:l[i]? = some a):dT W H (l.drop i)=if fQ W H a=0 then dT W H (l.drop (i+1)) else fQ W H a:=by
 rw[r0 h];rfl
theorem lU {fs:List Fld} {l:List Rul} {i:Nat} {a:Rul} (h:l[i]? = some a):dU fs (l.drop i)=if eX fs a=0 then dU fs (l.drop (i+1)) else eX fs a:=by
 rw[r0 h];rfl
theorem oU {W H:Int} {l:List Fld} {i:Nat} {a:Fld} (h:l[i]? = some a):dB W H ((l.take i).map Fld.name) (l.drop i)=if n9 W H ((l.take i).map Fld.name) a=0 then dB W H ((l.take (i+1)).map Fld.name) (l.drop (i+1)) else n9 W H ((l.take i).map Fld.name) a:=by
 rw[r0 h,eN h,aIp];rfl
theorem pB {l:List Bx} {i:Nat} {b:Bx} (h:l[i]? = some b):kE (l.take i) (l.drop i)=(((l.take i).any fun p=>b.over p)||kE (l.take (i+1)) (l.drop (i+1))):=by
 rw[r0 h,eN h];rfl
theorem GG {W H:Int} {a:Anc} (h:fQ W H a=0):aF a.W a.H a.m=0∧true∈a.bs∧a.box.inP W H=true:=by
 unfold fQ at h;by_cases h1:aF a.W a.H a.m=0
 ·rw[cV h1] at h;by_cases h2:true∈a.bs
  ·rw[aIu h2] at h;cases h3:a.box.inP W H with
   |true=>exact ⟨h1,h2,rfl⟩
   |false=>rw[h3] at h;exact absurd h (by decide)
  ·rw[aIt h2] at h;exact absurd h (by rw[aJ (by decide)];decide)
 ·rw[aJ h1] at h;exact absurd h h1
theorem BE {W H:Int} {l:List Anc} (h:dT W H l=0):∀a∈l,fQ W H a=0:=by
 induction l with
 |nil=>intro a ha;cases ha
 |cons x l ih=>
  unfold dT at h;by_cases h1:fQ W H x=0
  ·rw[if_pos h1] at h;intro a ha;rcases aIk.1 ha with rfl|ha
   ·exact h1
   ·exact ih h a ha
  ·rw[if_neg h1] at h;exact absurd h h1
theorem DM {W H:Int} {tw:Bool} {f:Fld} (h:oD W H tw f=0):(∀b∈gH f,b.inP W H=true)∧cG f.name=true∧tw=false∧(1≤f.kind∧f.kind≤4)∧f.marks.length≤20∧(cC f.kind=decide (0<f.marks.length))∧(cC f.kind=false→f.box.inP W H=true):=by
 unfold oD at h;have hn:cG f.name=true:=by
  cases hc:cG f.name with
  |true=>rfl
  |false=>rw[hc] at h;exact absurd h (by rw[aJ (by decide)];decide)
 rw[hn,cV (show aE (!true) 5=0 from rfl)] at h;have ht:tw=false:=by
  cases hc:tw with
  |false=>rfl
  |true=>rw[hc] at h;exact absurd h (by rw[aJ (by decide)];decide)
 rw[ht,cV (show aE false 6=0 from rfl)] at h;have hk:inB f.kind 1 4=true:=by
  cases hc:inB f.kind 1 4 with
  |true=>rfl
  |false=>rw[hc] at h;exact absurd h (by rw[aJ (by decide)];decide)
 rw[hk,cV (show aE (!true) 1=0 from rfl)] at h;have aCU:(if cC f.kind then aE (!decide (f.box=Bx.zero)) 2 else aE (!f.box.inP W H) 13)=0:=by
  apply Classical.byContradiction;intro hne;rw[aJ hne] at h;exact hne h
 rw[cV aCU] at h;have hm:cC f.kind=decide (0<f.marks.length):=by
  cases hc:(cC f.kind != decide (0<f.marks.length)) with
  |false=>simpa using hc
  |true=>rw[hc] at h;exact absurd h (by rw[aJ (by decide)];decide)
 rw[cV (by rw[hm];simp[aE])] at h;have h20:f.marks.length≤20:=by
  apply Classical.byContradiction;intro hc;rw[aIu (by omega)] at h;exact absurd h (by rw[aJ (by decide)];decide)
 rw[aIt (by omega),cV (show aE false 4=0 from rfl)] at h;have hpl:∀b∈f.marks,b.inP W H=true:=fun b hb=>by
  cases hc:b.inP W H with
  |true=>rfl
  |false=>
   have:dJ W H f.marks=13:=by
    unfold dJ;rw[show (f.marks.any fun b => !b.inP W H)=true from aIm.2 ⟨b,hb,by rw[hc];rfl⟩];rfl
   rw[this] at h;exact absurd h (by rw[aJ (by decide)];decide)
 have hb1:cC f.kind=false→f.box.inP W H=true:=fun hf=>by
  rw[hf] at aCU;cases hc:f.box.inP W H with
  |true=>rfl
  |false=>rw[hc] at aCU;exact absurd (show (13:Int)=0 from aCU) (by decide)
 refine ⟨fun b hb => ?_,hn,ht,aQ.1 hk,h20,hm,hb1⟩;unfold gH at hb;rcases aIj.1 hb with hb|hb
 ·cases hc:cC f.kind with
  |true=>rw[hc] at hb;simp at hb
  |false=>rw[hc] at hb;simp at hb;subst hb;exact hb1 hc
 ·exact hpl b hb
theorem lX {W H:Int} {l:List Fld}:∀{prev:List (List UInt8)},dB W H prev l=0→∀f∈l,∃pv,n9 W H pv f=0:=by
 induction l with
 |nil=>intro prev _ f hf;cases hf
 |cons x l ih=>
  intro prev h f hf;unfold dB at h;by_cases h1:n9 W H prev x=0
  ·rw[if_pos h1] at h;rcases aIk.1 hf with rfl|hf
   ·exact ⟨prev,h1⟩
   ·exact ih h f hf
  ·rw[if_neg h1] at h;exact absurd h h1
theorem MZ {W H:Int} {la:List Anc} {fs:List Fld} (ha:dT W H la=0) (hf:dB W H [] fs=0):∀b∈gK la fs,b.inP W H=true:=by
 intro b hb;unfold gK at hb;rcases aIj.1 hb with hb|hb
 ·obtain ⟨a,ha2,rfl⟩:=aIK.1 hb;exact (GG (BE ha a ha2)).2.2
 ·obtain ⟨f,hf2,hb⟩:=List.mem_flatMap.1 hb;obtain ⟨pv,h⟩:=lX hf f hf2;exact (DM h).1 b hb
def bU (la:List Anc) (fs:List Fld) (i:Nat):List Bx:=gK la (fs.take i)
theorem uQ {la:List Anc} {fs:List Fld} {i:Nat} {f:Fld} (h:fs[i]? = some f):bU la fs (i+1)=bU la fs i++gH f:=by
 unfold bU gK;rw[eN h,aIL,aIi];simp
theorem GH {l:List Bx}:kE (l.take l.length) (l.drop l.length)=false:=by rw[List.drop_length];rfl
end Go.Proofs.YtllefinciimffaaGreatDoor
namespace Go.Proofs.YtllefinciimffaaGreatDoor
open Go.RowKit
theorem jH (k:Int) (w:World):Calls Tryz.prog 76 #[k] w fun e w'=>e=.returned (.bool (cC k))∧w=w':=by
 unfold cC;by_cases h1:k=3<;>by_cases h2:k=4
 all_goals
  go_in
  go_wp2
  go_ret;exact ⟨by simp[*],rfl⟩
theorem fC (k:Int) (w:World):Calls Tryz.prog 117 #[k] w fun e w'=>e=.returned (.bool (cC k))∧w=w':=by
 unfold cC;by_cases h1:k=3<;>by_cases h2:k=4
 all_goals
  go_in
  go_wp2
  go_ret;exact ⟨by simp[*],rfl⟩
theorem DN (k:Int) (w:World):Calls Tryz.prog 46 #[k] w fun e w'=>e=.returned (.bool (JF k))∧w=w':=by
 unfold JF;by_cases h1:k=4<;>by_cases h2:k=5
 all_goals
  go_in
  go_wp2
  go_ret;exact ⟨by simp[*],rfl⟩
theorem GI (k:Int) (w:World):Calls Tryz.prog 47 #[k] w fun e w'=>e=.returned (.bool (J8 k))∧w=w':=by
 unfold J8;by_cases h1:k=3<;>by_cases h2:k=6
 all_goals
  go_in
  go_wp2
  go_ret;exact ⟨by simp[*],rfl⟩
theorem nU (a:Anc) (w:World):Calls Tryz.prog 107 #[a.val] w fun e w'=>e=.returned a.box.val∧Bl w w':=by
 unfold Anc.val Bx.val Anc.box;let w1:=((w).alloc (.cells #[a.W,a.H,.slice a.A a.m a.c,a.X,a.Y] 85)).alloc (.cells #[.int .i64 0,.int .i64 0,.int .i64 0,.int .i64 0] 58);obtain ⟨w1b,w11,w12⟩:=aHP (x:=w1) w _ _ _ _ rfl;have k1:=w11.all5;have k2:=w12.all4
 go_in
 go_wp2_with fail;refine aIx (v:=.agg #[a.X,a.Y,a.W,a.H]) (by simp[results,Tryz.results107,go_sem]) rfl ⟨rfl,?_⟩
 repeat' (first|exact Bl.refl _|refine Bl.setCell ?_ (by simp) _|refine Bl.alloc ?_ _)
theorem J9 (a b:Bx) (w:World) (ha:a.Ok) (hb:b.Ok):Calls Tryz.prog 111 #[a.val,b.val] w fun e w'=>e=.returned (.bool (a.over b))∧Bl w w':=by
 unfold Bx.val Bx.over;obtain ⟨⟨a1,a2⟩,⟨a3,a4⟩,⟨a5,a6⟩,⟨a7,a8⟩⟩:=ha;obtain ⟨⟨b1,b2⟩,⟨b3,b4⟩,⟨b5,b6⟩,⟨b7,b8⟩⟩:=hb;obtain ⟨aX,aY,aW,aH⟩:=a;obtain ⟨bX,bY,bW,bH⟩:=b;simp only at *;let w1:=((w).alloc (.cells #[aX,aY,aW,aH] 58)).alloc (.cells #[bX,bY,bW,bH] 58);obtain ⟨w1b,w11,w12⟩:=aHP (x:=w1) w _ _ _ _ rfl;have k1:=w11.all4;have k2:=w12.all4;have W1b:=aHH w1b;by_cases h1:aX<bX+bW
 ·by_cases h2:bX<aX+aW
  ·by_cases h3:aY<bY+bH
   ·by_cases h4:bY<aY+aH
    all_goals
     go_in
     go_wp2_with fail;go_ret;exact ⟨by first|(simp[*];done)|(simp;intros;omega),W1b.out⟩
   ·go_in
    go_wp2_with fail;go_ret;exact ⟨by first|(simp[*];done)|(simp;intros;omega),W1b.out⟩
  ·go_in
   go_wp2_with fail;go_ret;exact ⟨by first|(simp[*];done)|(simp;intros;omega),W1b.out⟩
 ·go_in
  go_wp2_with fail;go_ret;exact ⟨by first|(simp[*];done)|(simp;intros;omega),W1b.out⟩
theorem GJ (a b:Bx) (w:World) (ha:a.Ok) (hb:b.Ok):Calls Tryz.prog 57 #[a.val,b.val] w fun e w'=>e=.returned (.bool (a.over b))∧Bl w w':=by
 unfold Bx.val Bx.over;obtain ⟨⟨a1,a2⟩,⟨a3,a4⟩,⟨a5,a6⟩,⟨a7,a8⟩⟩:=ha;obtain ⟨⟨b1,b2⟩,⟨b3,b4⟩,⟨b5,b6⟩,⟨b7,b8⟩⟩:=hb;obtain ⟨aX,aY,aW,aH⟩:=a;obtain ⟨bX,bY,bW,bH⟩:=b;simp only at *;let w1:=((w).alloc (.cells #[aX,aY,aW,aH] 58)).alloc (.cells #[bX,bY,bW,bH] 58);obtain ⟨w1b,w11,w12⟩:=aHP (x:=w1) w _ _ _ _ rfl;have k1:=w11.all4;have k2:=w12.all4;have W1b:=aHH w1b;by_cases h1:aX<bX+bW
 ·by_cases h2:bX<aX+aW
  ·by_cases h3:aY<bY+bH
   ·by_cases h4:bY<aY+aH
    all_goals
     go_in
     go_wp2_with fail;go_ret;exact ⟨by first|(simp[*];done)|(simp;intros;omega),W1b.out⟩
   ·go_in
    go_wp2_with fail;go_ret;exact ⟨by first|(simp[*];done)|(simp;intros;omega),W1b.out⟩
  ·go_in
   go_wp2_with fail;go_ret;exact ⟨by first|(simp[*];done)|(simp;intros;omega),W1b.out⟩
 ·go_in
  go_wp2_with fail;go_ret;exact ⟨by first|(simp[*];done)|(simp;intros;omega),W1b.out⟩
def Vlu.val (v:Vlu):Value:=.agg #[v.field,v.text,.slice v.M v.marks.length v.mc,v.sure]
def TestsG {α:Type} (f:α→Value) (P:Program) (k:FuncId) (cap:Array Value) (w:World) (ls:List α) (p:α→Bool):Prop:=
 (∀args w,(callFunc k args).run P w=.ok (.enter k args) w)∧∀wx l,Bl w wx→l∈ls→Calls P k (#[f l]++cap) wx fun e w'=>e=.returned (.bool (p l))∧Bl wx w'
theorem TestsG.bl {α:Type} {f:α→Value} {P:Program} {k:FuncId} {cap:Array Value} {w w':World} {ls:List α} {p:α→Bool} (h:TestsG f P k cap w ls p) (hb:Bl w w'):TestsG f P k cap w' ls p:=⟨h.1,fun wx l hx hl=>h.2 wx l (hb.trans hx) hl⟩
def FirstG {α:Type} (ls:List α) (p:α→Bool) (i:Int):Prop:=
 (i = -1∧∀l∈ls,p l=false)∨∃(j:Nat) (l:α),i=(j:Int)∧ls[j]? = some l∧p l=true∧∀j' l',j'<j→ls[j']? = some l'→p l'=false
theorem FirstG.some_iff {α:Type} {ls:List α} {p:α→Bool} {i:Int} (h:FirstG ls p i):0≤i↔∃l∈ls,p l=true:=by
 rcases h with ⟨rfl,h⟩|⟨j,l,rfl,hl,hp,_⟩
 ·constructor
  ·intro h2;omega
  ·rintro ⟨l,hl,hp⟩;rw[h l hl] at hp;cases hp
 ·exact ⟨fun _=>⟨l,List.mem_of_getElem? hl,hp⟩,fun _=>Int.natCast_nonneg j⟩
theorem KA (L:Option Addr) (c:Nat) (ls:List Bx) (k:FuncId) (cap:Array Value) (p:Bx→Bool) (w:World) (hL:BxsAt w L ls) (hk:TestsG Bx.val Tryz.prog k cap w ls p) (hn:ls.length≤9223372036854775807) :
 Calls Tryz.prog 162 #[.slice L ls.length c,.func (.func k) #[] cap] w fun e w'=>∃i:Int,e=.returned i∧FirstG ls p i∧Bl w w':=by
 have ZF:=hk.1;have HL:=aHH hL;have HK:=aHH hk;clear hL hk
 go_in
 go_wp2_with fail;go_loopw [8] (fun u wr=>∃i:Nat,i≤ls.length∧u=.int .i64 i∧Bl w wr∧∀j l,j<i→ls[j]? = some l→p l=false) (fun u _=>ls.length-(RowKit.intOf u).toNat);case atStart=>exact ⟨0,Nat.zero_le _,rfl,Bl.refl _,fun j l hj=>absurd hj (Nat.not_lt_zero _)⟩
 case round=>
  obtain ⟨i,hi,rfl,hbr,hno⟩:=hrel;have HNo:=aHH hno;clear hno;by_cases hlt:i<ls.length
  ·have hg:ls[i]? = some ls[i]:=aH2 hlt;obtain ⟨l,hl⟩:=aH0 (ls[i]);rw[←hl] at hg;obtain ⟨ad,rfl,k1,k2,k3,k4⟩:=(HL.out.bl hbr).at_ hg;have cI:=HK.out.2 wr l hbr (List.mem_of_getElem? hg);obtain ⟨fP,HG,HBr⟩:=aHI cI hg hbr;clear cI hg hl hbr;go_wp2_with fail;refine fP.out.mono ?_;rintro e w1 ⟨rfl,hb1⟩;have HB1:=aHH (HBr.out.trans hb1);clear hb1;cases hp:p l
   ·have HP:=aHH hp;clear hp;go_wp2_with fail;exact ⟨⟨i+1,hlt,by go_num,HB1.out,fun j l' hj hl'=>by
     rcases Nat.lt_succ_iff_lt_or_eq.1 hj with h|rfl
     ·exact HNo.out j l' h hl'
     ·rw[HG.out] at hl';obtain rfl:=aIw hl';exact HP.out⟩,by simp[RowKit.intOf];omega⟩
   ·have HP:=aHH hp;clear hp;go_wp2_with fail;go_ret;exact ⟨_,rfl,Or.inr ⟨i,l,rfl,HG.out,HP.out,fun j' l' hj hl'=>HNo.out j' l' hj hl'⟩,HB1.out⟩
  ·obtain rfl:i=ls.length:=(by omega);go_wp2_with fail;go_ret;exact ⟨_,rfl,Or.inl ⟨rfl,fun l hl=>by
    obtain ⟨j,hj⟩:=List.getElem?_of_mem hl;exact HNo.out j l (aH3.1 hj).1 hj⟩,hbr⟩
theorem zR (L:Option Addr) (c:Nat) (ls:List Bx) (k:FuncId) (cap:Array Value) (p:Bx→Bool) (w:World) (hL:BxsAt w L ls) (hk:TestsG Bx.val Tryz.prog k cap w ls p) (hn:ls.length≤9223372036854775807) :
 Calls Tryz.prog 109 #[.slice L ls.length c,.func (.func k) #[] cap] w fun e w'=>e=.returned (.bool (decide (∃l∈ls,p l=true)))∧Bl w w':=by
 have Hc:=aHH (KA L c ls k cap p w hL hk hn);clear hL hk
 go_in
 go_wp2_with fail;refine Hc.out.mono ?_;rintro e w1 ⟨i,rfl,hi,hb⟩;have Hi:=aHH hi.some_iff;clear hi;go_wp2_with fail;go_ret;exact ⟨aS (decide_eq_decide.2 Hi.out),hb⟩
theorem oW (L:Option Addr) (c:Nat) (ls:List Fld) (k:FuncId) (cap:Array Value) (p:Fld→Bool) (w:World) (hL:FldsAt w L ls) (hk:TestsG Fld.val Tryz.prog k cap w ls p) (hn:ls.length≤9223372036854775807) :
 Calls Tryz.prog 83 #[.slice L ls.length c,.func (.func k) #[] cap] w fun e w'=>∃i:Int,e=.returned i∧FirstG ls p i∧Bl w w':=by
 have ZF:=hk.1;have HL:=aHH hL;have HK:=aHH hk;clear hL hk
 go_in
 go_wp2_with fail;go_loopw [8] (fun u wr=>∃i:Nat,i≤ls.length∧u=.int .i64 i∧Bl w wr∧∀j l,j<i→ls[j]? = some l→p l=false) (fun u _=>ls.length-(RowKit.intOf u).toNat);case atStart=>exact ⟨0,Nat.zero_le _,rfl,Bl.refl _,fun j l hj=>absurd hj (Nat.not_lt_zero _)⟩
 case round=>
  obtain ⟨i,hi,rfl,hbr,hno⟩:=hrel;have HNo:=aHH hno;clear hno;by_cases hlt:i<ls.length
  ·have hg:ls[i]? = some ls[i]:=aH2 hlt;obtain ⟨l,hl⟩:=aH0 (ls[i]);rw[←hl] at hg;obtain ⟨ad,rfl,k1,k2,k3,k4,k5,k6,k7,k8,k9⟩:=(HL.out.bl hbr).at_ hg;have cI:=HK.out.2 wr l hbr (List.mem_of_getElem? hg);obtain ⟨fP,HG,HBr⟩:=aHI cI hg hbr;clear cI hg hl hbr;go_wp2_with fail;refine fP.out.mono ?_;rintro e w1 ⟨rfl,hb1⟩;have HB1:=aHH (HBr.out.trans hb1);clear hb1;cases hp:p l
   ·have HP:=aHH hp;clear hp;go_wp2_with fail;exact ⟨⟨i+1,hlt,by go_num,HB1.out,fun j l' hj hl'=>by
     rcases Nat.lt_succ_iff_lt_or_eq.1 hj with h|rfl
     ·exact HNo.out j l' h hl'
     ·rw[HG.out] at hl';obtain rfl:=aIw hl';exact HP.out⟩,by simp[RowKit.intOf];omega⟩
   ·have HP:=aHH hp;clear hp;go_wp2_with fail;go_ret;exact ⟨_,rfl,Or.inr ⟨i,l,rfl,HG.out,HP.out,fun j' l' hj hl'=>HNo.out j' l' hj hl'⟩,HB1.out⟩
  ·obtain rfl:i=ls.length:=(by omega);go_wp2_with fail;go_ret;exact ⟨_,rfl,Or.inl ⟨rfl,fun l hl=>by
    obtain ⟨j,hj⟩:=List.getElem?_of_mem hl;exact HNo.out j l (aH3.1 hj).1 hj⟩,hbr⟩
theorem oX (L:Option Addr) (c:Nat) (ls:List Fld) (k:FuncId) (cap:Array Value) (p:Fld→Bool) (w:World) (hL:FldsAt w L ls) (hk:TestsG Fld.val Tryz.prog k cap w ls p) (hn:ls.length≤9223372036854775807) :
 Calls Tryz.prog 25 #[.slice L ls.length c,.func (.func k) #[] cap] w fun e w'=>e=.returned (.bool (decide (∃l∈ls,p l=true)))∧Bl w w':=by
 have Hc:=aHH (oW L c ls k cap p w hL hk hn);clear hL hk
 go_in
 go_wp2_with fail;refine Hc.out.mono ?_;rintro e w1 ⟨i,rfl,hi,hb⟩;have Hi:=aHH hi.some_iff;clear hi;go_wp2_with fail;go_ret;exact ⟨aS (decide_eq_decide.2 Hi.out),hb⟩
theorem Blk.all9 {w:World} {g:Nat} {t:TypeId} {a b c d e f h i j:Value} (k:Blk w g t #[a,b,c,d,e,f,h,i,j]):w.cell? ⟨g,0,none⟩=some a∧w.cell? ⟨g,1,none⟩=some b∧w.cell? ⟨g,2,none⟩=some c∧w.cell? ⟨g,3,none⟩=some d∧w.cell? ⟨g,4,none⟩=some e∧w.cell? ⟨g,5,none⟩=some f∧w.cell? ⟨g,6,none⟩=some h∧w.cell? ⟨g,7,none⟩=some i∧w.cell? ⟨g,8,none⟩=some j∧∀i,w.frozen? ⟨g,i,none⟩=false:=
 ⟨k.cell 0,k.cell 1,k.cell 2,k.cell 3,k.cell 4,k.cell 5,k.cell 6,k.cell 7,k.cell 8,k.frozen⟩
theorem Blk.all8 {w:World} {g:Nat} {t:TypeId} {a b c d e f h i:Value} (k:Blk w g t #[a,b,c,d,e,f,h,i]):w.cell? ⟨g,0,none⟩=some a∧w.cell? ⟨g,1,none⟩=some b∧w.cell? ⟨g,2,none⟩=some c∧w.cell? ⟨g,3,none⟩=some d∧w.cell? ⟨g,4,none⟩=some e∧w.cell? ⟨g,5,none⟩=some f∧w.cell? ⟨g,6,none⟩=some h∧w.cell? ⟨g,7,none⟩=some i∧∀i,w.frozen? ⟨g,i,none⟩=false:=
 ⟨k.cell 0,k.cell 1,k.cell 2,k.cell 3,k.cell 4,k.cell 5,k.cell 6,k.cell 7,k.frozen⟩
def gB (nm:List UInt8) (x:Fld):Bool:=decide (x.name=nm)
theorem GK (b:Nat) (nm:List UInt8) (x:Fld) (w:World) (hb:Blk w b 9 #[nm]) :
 Calls Tryz.prog 134 #[x.val,.pointer (some ⟨b,0,none⟩)] w fun e w'=>e=.returned (.bool (gB nm x))∧Bl w w':=by
 have k1:=hb.all1;have hlt:=hb.lt;unfold Fld.val gB;by_cases he:x.name=nm
 ·rw[aIu he]
  go_in
  go_wp2_with fail;go_ret;exact ⟨by simp[he],(Bl.refl _).alloc _⟩
 ·rw[aIt he]
  go_in
  go_wp2_with fail;go_ret;exact ⟨by simp[he],(Bl.refl _).alloc _⟩
theorem zS (b:Nat) (nm:List UInt8) (ls:List Fld) (w:World) (hb:Blk w b 9 #[nm]):TestsG Fld.val Tryz.prog 134 #[.pointer (some ⟨b,0,none⟩)] w ls (gB nm):=
 ⟨fT Tryz.func134 (by kernel_rfl) rfl,fun wy y hy _=>GK b nm y wy (hb.bl hy)⟩
theorem xW (f:Frm) (nm:List UInt8) (w:World) (hF:FrmAt w f):Calls Tryz.prog 75 #[f.val,nm] w fun e w'=>∃i:Int,e=.returned i∧FirstG f.lf (gB nm) i∧Bl w w':=by
 let w1:=((w).alloc (.cells #[f.name,f.W,f.H,f.reach,f.dark,.slice f.AL f.la.length f.ac,.slice f.FL f.lf.length f.fc,.slice f.RL f.lr.length f.rc] 26)).alloc (.cells #[nm] 9);obtain ⟨w1b,w11,w12⟩:=aHP (x:=w1) w _ _ _ _ rfl;have hix:=oW f.FL f.fc f.lf 134 #[.pointer (some ⟨w.heap.size+1,0,none⟩)] (gB nm) w1 (hF.flds.bl w1b) (zS _ _ _ _ w12) hF.fn.2;have Hix:=aHH hix;have k1:=w11.all8;have k2:=w12.all1;unfold Frm.val;clear hix hF
 go_in
 go_wp2_with fail;refine Hix.out.mono ?_;rintro e w2 ⟨i,rfl,hi,hb⟩;have Hi:=aHH hi;clear hi;go_wp2_with fail;go_ret;exact ⟨i,rfl,Hi.out,w1b.trans hb⟩
theorem GL (b:Nat) (nm:List UInt8) (x:Fld) (w:World) (hb:Blk w b 9 #[nm]) :
 Calls Tryz.prog 84 #[x.val,.pointer (some ⟨b,0,none⟩)] w fun e w'=>e=.returned (.bool (gB nm x))∧Bl w w':=by
 have k1:=hb.all1;have hlt:=hb.lt;unfold Fld.val gB;by_cases he:x.name=nm
 ·rw[aIu he]
  go_in
  go_wp2_with fail;go_ret;exact ⟨by simp[he],(Bl.refl _).alloc _⟩
 ·rw[aIt he]
  go_in
  go_wp2_with fail;go_ret;exact ⟨by simp[he],(Bl.refl _).alloc _⟩
theorem zT (b:Nat) (nm:List UInt8) (ls:List Fld) (w:World) (hb:Blk w b 9 #[nm]):TestsG Fld.val Tryz.prog 84 #[.pointer (some ⟨b,0,none⟩)] w ls (gB nm):=
 ⟨fT Tryz.func84 (by kernel_rfl) rfl,fun wy y hy _=>GL b nm y wy (hb.bl hy)⟩
theorem nV (f:Frm) (nm:List UInt8) (w:World) (hF:FrmAt w f):Calls Tryz.prog 19 #[f.val,nm] w fun e w'=>∃i:Int,e=.returned i∧FirstG f.lf (gB nm) i∧Bl w w':=by
 let w1:=((w).alloc (.cells #[f.name,f.W,f.H,f.reach,f.dark,.slice f.AL f.la.length f.ac,.slice f.FL f.lf.length f.fc,.slice f.RL f.lr.length f.rc] 26)).alloc (.cells #[nm] 9);obtain ⟨w1b,w11,w12⟩:=aHP (x:=w1) w _ _ _ _ rfl;have hix:=oW f.FL f.fc f.lf 84 #[.pointer (some ⟨w.heap.size+1,0,none⟩)] (gB nm) w1 (hF.flds.bl w1b) (zT _ _ _ _ w12) hF.fn.2;have Hix:=aHH hix;have k1:=w11.all8;have k2:=w12.all1;unfold Frm.val;clear hix hF
 go_in
 go_wp2_with fail;refine Hix.out.mono ?_;rintro e w2 ⟨i,rfl,hi,hb⟩;have Hi:=aHH hi;clear hi;go_wp2_with fail;go_ret;exact ⟨i,rfl,Hi.out,w1b.trans hb⟩
theorem PL (g:Nat) (a b:Bx) (w:World) (hg:Blk w g 58 #[a.X,a.Y,a.W,a.H]) (ha:a.Ok) (hb:b.Ok) :
 Calls Tryz.prog 110 #[b.val,.pointer (some ⟨g,0,none⟩)] w fun e w'=>e=.returned (.bool (a.over b))∧Bl w w':=by
 have hov:=fun wx=>J9 a b wx ha hb;have Hov:=aHH hov;have hlt:=hg.lt;unfold Bx.val;let w1:=(w).alloc (.cells #[b.X,b.Y,b.W,b.H] 58);obtain ⟨w1b,w11⟩:=aHO (x:=w1) w _ _ rfl;have k1:=hg.all4;have k2:=w11.all4;clear hov ha hb
 go_in
 go_wp2_with fail;refine (Hov.out _).mono ?_;rintro e w2 ⟨rfl,hb2⟩;go_wp2_with fail;go_ret;exact ⟨rfl,w1b.trans hb2⟩
theorem GM (g:Nat) (a:Bx) (ls:List Bx) (w:World) (hg:Blk w g 58 #[a.X,a.Y,a.W,a.H]) (ha:a.Ok) (hl:∀b∈ls,b.Ok):TestsG Bx.val Tryz.prog 110 #[.pointer (some ⟨g,0,none⟩)] w ls a.over:=
 ⟨fT Tryz.func110 (by kernel_rfl) rfl,fun wy y hy hm=>PL g a y wy (hg.bl hy) ha (hl y hm)⟩
theorem M0 {w w':World} {b1 b2:Nat} {e1 e2:TypeId} {s1 s2 n1 n2:Nat} {v1 v2:Value} {xs ys:List Value} (h:w.ownsRow b1 e1 s1 v1 n1 xs) (k:w.ownsRow b2 e2 s2 v2 n2 ys) (hne:e1≠e2) (hg:w.grownBy w' v2.ownBlock):w'.ownsRow b1 e1 s1 v1 n1 xs:=by
 refine ⟨h.1,?_⟩;rcases h.2 with h2|⟨g,cap,cur,hv,hb,hh,r⟩
 ·exact .inl h2
 ·have hlt:g<w.heap.size:=(aIy.1 hh).1;refine .inr ⟨g,cap,cur,hv,hb,(hg.block g hlt ?_).trans hh,r⟩;rcases k.2 with ⟨rfl,-⟩|⟨g2,cap2,cur2,rfl,-,hg2,-⟩
  ·intro h;cases h
  ·intro e;injection e with e;subst e;rw[hh] at hg2;injection hg2 with hg2;injection hg2 with _ hg2;exact hne hg2
abbrev VP:=List UInt8 × List UInt8 × List Int × Int
def Vlu.plain (v:Vlu):VP:=(v.field,v.text,v.marks,v.sure)
structure OwnVals (w:World) (B:Nat) (v:Value) (l:List Vlu):Prop where
 row:w.ownsRow B 69 4 v l.length (l.flatMap Vlu.cells)
 marks:∀x∈l,∃B',w.ownsRow B' 3 1 (.slice x.M x.marks.length x.mc) x.marks.length (x.marks.map (.int .i64))
 texts:∀x∈l,x.field.length≤9223372036854775807∧x.text.length≤9223372036854775807∧x.marks.length≤9223372036854775807
theorem OwnVals.nil (w:World) (B:Nat):OwnVals w B (.slice none 0 0) []:=⟨World.ownsRow_nil _ _ _ _,(fun x h=>by cases h),(fun x h=>by cases h)⟩
theorem OwnVals.bl {w w':World} {B:Nat} {v:Value} {l:List Vlu} (h:OwnVals w B v l) (hb:Bl w w'):OwnVals w' B v l:=
 ⟨cX h.row hb,fun x hx=>let ⟨B',hr⟩:=h.marks x hx;⟨B',cX hr hb⟩,h.texts⟩
theorem OwnVals.snoc {w w' : World} {B : Nat} {v v' : Value} {l : List Vlu} {x : Vlu} (h : OwnVals w B v l) (hg : w.grownBy w' v.ownBlock) (hr : w'.ownsRow B 69 4 v' (l.length + 1) (l.flatMap Vlu.cells ++ x.cells))
 (hm:∃B',w.ownsRow B' 3 1 (.slice x.M x.marks.length x.mc) x.marks.length (x.marks.map (.int .i64))) (ht:x.field.length≤9223372036854775807∧x.text.length≤9223372036854775807∧x.marks.length≤9223372036854775807):OwnVals w' B v' (l++[x]):=by
 have e:(l++[x]).flatMap Vlu.cells=l.flatMap Vlu.cells++x.cells:=(by rw[aIL];simp);refine ⟨by rw[e,aH5];exact hr,fun y hy => ?_,fun y hy => ?_⟩
 ·rcases aIj.1 hy with hy|hy
  ·obtain ⟨B',ho⟩:=h.marks y hy;exact ⟨B',M0 ho h.row (by decide) hg⟩
  ·rw[aIn.1 hy];obtain ⟨B',ho⟩:=hm;exact ⟨B',M0 ho h.row (by decide) hg⟩
 ·rcases aIj.1 hy with hy|hy
  ·exact h.texts y hy
  ·rw[aIn.1 hy];exact ht
theorem OwnVals.at_ {w:World} {B:Nat} {v:Value} {l:List Vlu} (h:OwnVals w B v l):∃A c,v=.slice A l.length c∧VlusAt w A l:=by
 obtain ⟨A,c,e,hr⟩:=bL h.row;refine ⟨A,c,e,hr,fun x hx=>⟨?_,h.texts x hx⟩⟩;obtain ⟨B',ho⟩:=h.marks x hx;obtain ⟨A2,c2,e2,hr2⟩:=bL ho;injection e2 with e2;rw[e2];exact hr2
theorem BF {l:List Vlu} {x:Vlu} {ps:List VP} {p:VP} (h:l.map Vlu.plain=ps) (hx:x.plain=p):(l++[x]).map Vlu.plain=ps++[p]:=by rw[aIp,h];simp[hx]
end Go.Proofs.YtllefinciimffaaGreatDoor
