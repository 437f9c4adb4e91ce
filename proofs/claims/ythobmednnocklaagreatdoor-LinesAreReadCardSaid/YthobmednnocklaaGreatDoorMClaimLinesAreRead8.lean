/- bedref2.Nearest with any two function values; bedref2.FoundOf, ScoreOf. -/
import Derived.Test.YthobmednnocklaaGreatDoorMClaimLinesAreRead2
import Derived.Test.YthobmednnocklaaGreatDoorMClaimLinesAreRead4
import Derived.Test.YthobmednnocklaaGreatDoorMClaimLinesAreRead3
import Derived.Test.YthobmednnocklaaGreatDoorMClaimLinesAreRead7
import Derived.Test.YthobmednnocklaaGreatDoorMClaimLinesAreRead0
import Derived.Test.YthobmednnocklaaGreatDoorMClaimLinesAreRead1
import Derived.Lib.IndexMore
import Derived.Lib.Strings
import Derived.Lib.Atoi
import Derived.Lib.ItoaNum
import Derived.Lib.CutLaws
import Derived.Lib.SlTrimSet
import Derived.Laws.EntriesVeiled

namespace Go.Proofs.YthobmednnocklaaGreatDoor
open Go.RowKit

/-! ### boxes -/
structure Bx where
 X : Int
 Y : Int
 W : Int
 H : Int
deriving DecidableEq
def Bx.cells (b : Bx) : List Value := [.int .i64 b.X, .int .i64 b.Y, .int .i64 b.W, .int .i64 b.H]
def Bx.zero : Bx := ⟨0, 0, 0, 0⟩
def Bx.inP (b : Bx) (W H : Int) : Bool := inPageB b.X b.Y b.W b.H W H
/-- Two boxes have a pixel in common. -/
def Bx.over (a b : Bx) : Bool := decide (a.X < b.X + b.W) && (decide (b.X < a.X + a.W) && (decide (a.Y < b.Y + b.H) && decide (b.Y < a.Y + a.H)))

/-! ### lists of structs in memory -/
theorem flat_at {α : Type} (f : α → List Value) (k : Nat) (hf : ∀ a, (f a).length = k) {l : List α} {i : Nat} {a : α} (h : l[i]? = some a) (j : Nat) (hj : j < k) : (l.flatMap f)[i * k + j]? = (f a)[j]? := by
 induction l generalizing i with
 | nil => simp at h
 | cons x l ih =>
  rw [List.flatMap_cons]
  rcases i with _ | i
  · simp only [List.getElem?_cons_zero, Option.some.injEq] at h
    subst h
    rw [List.getElem?_append_left (by rw [hf]; omega)]
    simp
  · have hk : (i + 1) * k = i * k + k := Nat.succ_mul i k
    rw [List.getElem?_append_right (by rw [hf]; omega), hf, hk, show i * k + k + j - k = i * k + j by omega]
    exact ih (by simpa using h)
/-- The cells of one element. -/
theorem reads_flat {α : Type} (f : α → List Value) (k : Nat) (hf : ∀ a, (f a).length = k) {w : World} {L : Option Addr} {l : List α} {i : Nat} {a : α} (h : Reads w k L l.length (l.flatMap f)) (hi : l[i]? = some a) :
 ∃ ad, L = some ad ∧ ∀ j v, j < k → (f a)[j]? = some v → w.cell? ((ad.add (i * k)).add j) = some v := by
 have hlt : i < l.length := (List.getElem?_eq_some_iff.1 hi).1
 obtain ⟨ad, e, hc⟩ := h.2 (by omega)
 refine ⟨ad, e, fun j v hj hv => ?_⟩
 rw [add_of_add]
 exact hc _ _ (by rw [flat_at f k hf hi j hj]; exact hv)

/-! ### anchors, fields, rules -/
structure Anc where
 W : Int
 H : Int
 A : Option Addr
 m : Nat
 c : Nat
 bs : List Bool
 X : Int
 Y : Int
def Anc.cells (a : Anc) : List Value := [.int .i64 a.W, .int .i64 a.H, .slice a.A a.m a.c, .int .i64 a.X, .int .i64 a.Y]
def Anc.box (a : Anc) : Bx := ⟨a.X, a.Y, a.W, a.H⟩
structure Fld where
 name : List UInt8
 kind : Int
 box : Bx
 M : Option Addr
 mc : Nat
 marks : List Bx
 most : Int
 needed : Bool
def Fld.cells (f : Fld) : List Value := [.string ⟨f.name.toArray⟩, .int .i64 f.kind, .int .i64 f.box.X, .int .i64 f.box.Y, .int .i64 f.box.W, .int .i64 f.box.H, .slice f.M f.marks.length f.mc, .int .i64 f.most, .bool f.needed]
structure Rul where
 kind : Int
 field : List UInt8
 other : List UInt8
 text : List UInt8
def Rul.cells (r : Rul) : List Value := [.int .i64 r.kind, .string ⟨r.field.toArray⟩, .string ⟨r.other.toArray⟩, .string ⟨r.text.toArray⟩]
def Anc.val (a : Anc) : Value := .agg #[.int .i64 a.W, .int .i64 a.H, .slice a.A a.m a.c, .int .i64 a.X, .int .i64 a.Y]
def Bx.val (b : Bx) : Value := .agg #[.int .i64 b.X, .int .i64 b.Y, .int .i64 b.W, .int .i64 b.H]
def Fld.val (f : Fld) : Value := .agg #[.string ⟨f.name.toArray⟩, .int .i64 f.kind, .int .i64 f.box.X, .int .i64 f.box.Y, .int .i64 f.box.W, .int .i64 f.box.H, .slice f.M f.marks.length f.mc, .int .i64 f.most, .bool f.needed]
def Rul.val (r : Rul) : Value := .agg #[.int .i64 r.kind, .string ⟨r.field.toArray⟩, .string ⟨r.other.toArray⟩, .string ⟨r.text.toArray⟩]
/-- A box that is small enough to be reckoned with. -/
structure Bx.Ok (b : Bx) : Prop where
 x : 0 ≤ b.X ∧ b.X ≤ 4000
 y : 0 ≤ b.Y ∧ b.Y ≤ 4000
 w : 1 ≤ b.W ∧ b.W ≤ 4000
 h : 1 ≤ b.H ∧ b.H ≤ 4000
theorem Bx.ok {b : Bx} {W H : Int} (hW : W ≤ 4000) (hH : H ≤ 4000) (h : b.inP W H = true) : b.Ok := by
 unfold Bx.inP inPageB at h
 have h := of_decide_eq_true h
 exact ⟨by omega, by omega, by omega, by omega⟩
def AncsAt (w : World) (L : Option Addr) (l : List Anc) : Prop := Reads w 5 L l.length (l.flatMap Anc.cells) ∧ ∀ a ∈ l, Reads w 1 a.A a.m (a.bs.map .bool)
def BxsAt (w : World) (L : Option Addr) (l : List Bx) : Prop := Reads w 4 L l.length (l.flatMap Bx.cells)
def FldsAt (w : World) (L : Option Addr) (l : List Fld) : Prop := Reads w 9 L l.length (l.flatMap Fld.cells) ∧ ∀ f ∈ l, BxsAt w f.M f.marks ∧ f.marks.length ≤ f.mc ∧ f.marks.length ≤ 9223372036854775807 ∧ f.name.length ≤ 9223372036854775807
def RulsAt (w : World) (L : Option Addr) (l : List Rul) : Prop := Reads w 4 L l.length (l.flatMap Rul.cells) ∧ ∀ r ∈ l, r.field.length ≤ 9223372036854775807 ∧ r.other.length ≤ 9223372036854775807 ∧ r.text.length ≤ 9223372036854775807
section
variable {w w' : World} {L : Option Addr}
theorem AncsAt.bl {l : List Anc} (h : AncsAt w L l) (hb : Bl w w') : AncsAt w' L l := ⟨h.1.bl hb, fun a ha => (h.2 a ha).bl hb⟩
theorem BxsAt.bl {l : List Bx} (h : BxsAt w L l) (hb : Bl w w') : BxsAt w' L l := Reads.bl h hb
theorem FldsAt.bl {l : List Fld} (h : FldsAt w L l) (hb : Bl w w') : FldsAt w' L l := ⟨h.1.bl hb, fun a ha => ⟨(h.2 a ha).1.bl hb, (h.2 a ha).2⟩⟩
theorem RulsAt.bl {l : List Rul} (h : RulsAt w L l) (hb : Bl w w') : RulsAt w' L l := ⟨h.1.bl hb, h.2⟩
theorem BxsAt.at_ {l : List Bx} {i : Nat} {b : Bx} (h : BxsAt w L l) (hi : l[i]? = some b) : ∃ ad, L = some ad ∧ w.cell? (ad.add (i * 4)) = some (.int .i64 b.X) ∧ w.cell? ⟨(ad.add (i * 4)).block, (ad.add (i * 4)).off + 1, none⟩ = some (.int .i64 b.Y) ∧
 w.cell? ⟨(ad.add (i * 4)).block, (ad.add (i * 4)).off + 2, none⟩ = some (.int .i64 b.W) ∧ w.cell? ⟨(ad.add (i * 4)).block, (ad.add (i * 4)).off + 3, none⟩ = some (.int .i64 b.H) := by
 obtain ⟨ad, e, key⟩ := reads_flat Bx.cells 4 (fun _ => rfl) h hi
 have k0 := key 0 _ (by omega) rfl
 have k1 := key 1 _ (by omega) rfl
 have k2 := key 2 _ (by omega) rfl
 have k3 := key 3 _ (by omega) rfl
 rw [Addr.add_zero'] at k0
 rw [Addr.add_succ'] at k1 k2 k3
 exact ⟨ad, e, k0, k1, k2, k3⟩
theorem AncsAt.at_ {l : List Anc} {i : Nat} {a : Anc} (h : AncsAt w L l) (hi : l[i]? = some a) : ∃ ad, L = some ad ∧ w.cell? (ad.add (i * 5)) = some (.int .i64 a.W) ∧ w.cell? ⟨(ad.add (i * 5)).block, (ad.add (i * 5)).off + 1, none⟩ = some (.int .i64 a.H) ∧
 w.cell? ⟨(ad.add (i * 5)).block, (ad.add (i * 5)).off + 2, none⟩ = some (.slice a.A a.m a.c) ∧ w.cell? ⟨(ad.add (i * 5)).block, (ad.add (i * 5)).off + 3, none⟩ = some (.int .i64 a.X) ∧ w.cell? ⟨(ad.add (i * 5)).block, (ad.add (i * 5)).off + 4, none⟩ = some (.int .i64 a.Y) := by
 obtain ⟨ad, e, key⟩ := reads_flat Anc.cells 5 (fun _ => rfl) h.1 hi
 have k0 := key 0 _ (by omega) rfl
 have k1 := key 1 _ (by omega) rfl
 have k2 := key 2 _ (by omega) rfl
 have k3 := key 3 _ (by omega) rfl
 have k4 := key 4 _ (by omega) rfl
 rw [Addr.add_zero'] at k0
 rw [Addr.add_succ'] at k1 k2 k3 k4
 exact ⟨ad, e, k0, k1, k2, k3, k4⟩
theorem FldsAt.at_ {l : List Fld} {i : Nat} {f : Fld} (h : FldsAt w L l) (hi : l[i]? = some f) : ∃ ad, L = some ad ∧ w.cell? (ad.add (i * 9)) = some (.string ⟨f.name.toArray⟩) ∧ w.cell? ⟨(ad.add (i * 9)).block, (ad.add (i * 9)).off + 1, none⟩ = some (.int .i64 f.kind) ∧
 w.cell? ⟨(ad.add (i * 9)).block, (ad.add (i * 9)).off + 2, none⟩ = some (.int .i64 f.box.X) ∧ w.cell? ⟨(ad.add (i * 9)).block, (ad.add (i * 9)).off + 3, none⟩ = some (.int .i64 f.box.Y) ∧ w.cell? ⟨(ad.add (i * 9)).block, (ad.add (i * 9)).off + 4, none⟩ = some (.int .i64 f.box.W) ∧ w.cell? ⟨(ad.add (i * 9)).block, (ad.add (i * 9)).off + 5, none⟩ = some (.int .i64 f.box.H) ∧
 w.cell? ⟨(ad.add (i * 9)).block, (ad.add (i * 9)).off + 6, none⟩ = some (.slice f.M f.marks.length f.mc) ∧ w.cell? ⟨(ad.add (i * 9)).block, (ad.add (i * 9)).off + 7, none⟩ = some (.int .i64 f.most) ∧ w.cell? ⟨(ad.add (i * 9)).block, (ad.add (i * 9)).off + 8, none⟩ = some (.bool f.needed) := by
 obtain ⟨ad, e, key⟩ := reads_flat Fld.cells 9 (fun _ => rfl) h.1 hi
 have k0 := key 0 _ (by omega) rfl
 have k1 := key 1 _ (by omega) rfl
 have k2 := key 2 _ (by omega) rfl
 have k3 := key 3 _ (by omega) rfl
 have k4 := key 4 _ (by omega) rfl
 have k5 := key 5 _ (by omega) rfl
 have k6 := key 6 _ (by omega) rfl
 have k7 := key 7 _ (by omega) rfl
 have k8 := key 8 _ (by omega) rfl
 rw [Addr.add_zero'] at k0
 rw [Addr.add_succ'] at k1 k2 k3 k4 k5 k6 k7 k8
 exact ⟨ad, e, k0, k1, k2, k3, k4, k5, k6, k7, k8⟩
theorem RulsAt.at_ {l : List Rul} {i : Nat} {r : Rul} (h : RulsAt w L l) (hi : l[i]? = some r) : ∃ ad, L = some ad ∧ w.cell? (ad.add (i * 4)) = some (.int .i64 r.kind) ∧ w.cell? ⟨(ad.add (i * 4)).block, (ad.add (i * 4)).off + 1, none⟩ = some (.string ⟨r.field.toArray⟩) ∧
 w.cell? ⟨(ad.add (i * 4)).block, (ad.add (i * 4)).off + 2, none⟩ = some (.string ⟨r.other.toArray⟩) ∧ w.cell? ⟨(ad.add (i * 4)).block, (ad.add (i * 4)).off + 3, none⟩ = some (.string ⟨r.text.toArray⟩) := by
 obtain ⟨ad, e, key⟩ := reads_flat Rul.cells 4 (fun _ => rfl) h.1 hi
 have k0 := key 0 _ (by omega) rfl
 have k1 := key 1 _ (by omega) rfl
 have k2 := key 2 _ (by omega) rfl
 have k3 := key 3 _ (by omega) rfl
 rw [Addr.add_zero'] at k0
 rw [Addr.add_succ'] at k1 k2 k3
 exact ⟨ad, e, k0, k1, k2, k3⟩
end

/-! ### what is wrong -/
def marksB (k : Int) : Bool := decide (k = 3) || decide (k = 4)
def ancErr (W H : Int) (a : Anc) : Int := firstNZ [pageErr a.W a.H a.m, whenI (!decide (true ∈ a.bs)) 10, whenI (!a.box.inP W H) 13]
def placesErr (W H : Int) (l : List Bx) : Int := whenI (l.any fun b => !b.inP W H) 13
def fldE (W H : Int) (tw : Bool) (f : Fld) : Int :=
 firstNZ [whenI (!nameB f.name) 5, whenI tw 6, whenI (!inB f.kind 1 4) 1, (if marksB f.kind then whenI (!decide (f.box = Bx.zero)) 2 else whenI (!f.box.inP W H) 13),
  whenI (marksB f.kind != decide (0 < f.marks.length)) 2, whenI (decide (20 < f.marks.length)) 4, placesErr W H f.marks, whenI (!inB f.most 0 1000) 3, whenI (!decide (f.kind = 1) && !decide (f.most = 0)) 2]
def fldErr (W H : Int) (prev : List (List UInt8)) (f : Fld) : Int := fldE W H (decide (f.name ∈ prev)) f
def ancsErr (W H : Int) : List Anc → Int
 | [] => 0
 | a :: l => if ancErr W H a = 0 then ancsErr W H l else ancErr W H a
def fldsErr (W H : Int) : List (List UInt8) → List Fld → Int
 | _, [] => 0
 | prev, f :: l => if fldErr W H prev f = 0 then fldsErr W H (prev ++ [f.name]) l else fldErr W H prev f
/-- The boxes of a field, and of a form. -/
def fldBoxes (f : Fld) : List Bx := (if marksB f.kind then [] else [f.box]) ++ f.marks
def boxesB (la : List Anc) (fs : List Fld) : List Bx := la.map Anc.box ++ fs.flatMap fldBoxes
/-- Two of the boxes overlap. -/
def overB : List Bx → List Bx → Bool
 | _, [] => false
 | prev, b :: l => (prev.any fun p => b.over p) || overB (prev ++ [b]) l
def twoB (k : Int) : Bool := decide (k = 4) || decide (k = 5)
def textK (k : Int) : Bool := decide (k = 3) || decide (k = 6)
def wordsB (t : List UInt8) : Bool := (wordsOf t).all fun x => !x.isEmpty && printB x
/-- A number of at most two digits. -/
def int2 (s : List UInt8) : Option Nat := match Lib.atoi s with
 | some v => if s.length ≤ 2 ∧ 0 ≤ v ∧ Lib.itoa v = s then some v.toNat else none
 | none => none
def kindOf (fs : List Fld) (name : List UInt8) : Option Int := (fs.find? fun f => decide (f.name = name)).map Fld.kind
def rulErr (fs : List Fld) (r : Rul) : Int :=
 firstNZ [whenI (!inB r.kind 1 6) 1, whenI (decide (kindOf fs r.field = none) || (twoB r.kind && decide (kindOf fs r.other = none))) 10,
  whenI ((!decide (r.kind = 1) && (marksB ((kindOf fs r.field).getD 0) != decide (r.kind = 6))) || (twoB r.kind && marksB ((kindOf fs r.other).getD 0))) 1,
  whenI ((!twoB r.kind && !r.other.isEmpty) || ((!textK r.kind && !r.text.isEmpty) || ((decide (r.kind = 3) && !wordsB r.text) || (decide (r.kind = 6) && (int2 r.text).isNone)))) 2]
def rulsErr (fs : List Fld) : List Rul → Int
 | [] => 0
 | r :: l => if rulErr fs r = 0 then rulsErr fs l else rulErr fs r
def formHead (nm : Bool) (W H reach dark : Int) (n : Nat) : Int := firstNZ [whenI (!nm) 5, sizeErr W H, whenI (!inB reach 0 40 || !inB dark 1 1000) 3, whenI (decide (10 < n)) 4]
def formErr (nm : Bool) (W H reach dark : Int) (la : List Anc) (fs : List Fld) (rs : List Rul) : Int :=
 firstNZ [formHead nm W H reach dark la.length, ancsErr W H la, whenI (decide (fs.length = 0)) 9, whenI (decide (50 < fs.length)) 4, fldsErr W H [] fs, whenI (overB [] (boxesB la fs)) 11, whenI (decide (50 < rs.length)) 4, rulsErr fs rs]
/-! ### whole forms, and values -/
structure Frm where
 name : List UInt8
 W : Int
 H : Int
 reach : Int
 dark : Int
 AL : Option Addr
 ac : Nat
 la : List Anc
 FL : Option Addr
 fc : Nat
 lf : List Fld
 RL : Option Addr
 rc : Nat
 lr : List Rul
def Frm.cells (f : Frm) : List Value := [.string ⟨f.name.toArray⟩, .int .i64 f.W, .int .i64 f.H, .int .i64 f.reach, .int .i64 f.dark, .slice f.AL f.la.length f.ac, .slice f.FL f.lf.length f.fc, .slice f.RL f.lr.length f.rc]
def Frm.val (f : Frm) : Value := .agg #[.string ⟨f.name.toArray⟩, .int .i64 f.W, .int .i64 f.H, .int .i64 f.reach, .int .i64 f.dark, .slice f.AL f.la.length f.ac, .slice f.FL f.lf.length f.fc, .slice f.RL f.lr.length f.rc]
structure FrmAt (w : World) (f : Frm) : Prop where
 ancs : AncsAt w f.AL f.la
 flds : FldsAt w f.FL f.lf
 ruls : RulsAt w f.RL f.lr
 nm : f.name.length ≤ 9223372036854775807
 an : f.la.length ≤ f.ac ∧ f.la.length ≤ 9223372036854775807
 fn : f.lf.length ≤ f.fc ∧ f.lf.length ≤ 9223372036854775807
 rn : f.lr.length ≤ f.rc ∧ f.lr.length ≤ 9223372036854775807
theorem FrmAt.bl {w w' : World} {f : Frm} (h : FrmAt w f) (hb : Bl w w') : FrmAt w' f := ⟨h.ancs.bl hb, h.flds.bl hb, h.ruls.bl hb, h.nm, h.an, h.fn, h.rn⟩
def Frm.err (f : Frm) : Int := formErr (nameB f.name) f.W f.H f.reach f.dark f.la f.lf f.lr
/-- A form whose rules' texts are no longer than n. -/
def Frm.small (f : Frm) (n : Nat) : Prop := ∀ r ∈ f.lr, r.text.length ≤ n
structure Vlu where
 field : List UInt8
 text : List UInt8
 M : Option Addr
 mc : Nat
 marks : List Int
 sure : Int
def Vlu.cells (v : Vlu) : List Value := [.string ⟨v.field.toArray⟩, .string ⟨v.text.toArray⟩, .slice v.M v.marks.length v.mc, .int .i64 v.sure]
def VlusAt (w : World) (L : Option Addr) (l : List Vlu) : Prop := Reads w 4 L l.length (l.flatMap Vlu.cells) ∧ ∀ v ∈ l, Reads w 1 v.M v.marks.length (v.marks.map (.int .i64)) ∧ v.field.length ≤ 9223372036854775807 ∧ v.text.length ≤ 9223372036854775807 ∧ v.marks.length ≤ 9223372036854775807
theorem VlusAt.bl {w w' : World} {L : Option Addr} {l : List Vlu} (h : VlusAt w L l) (hb : Bl w w') : VlusAt w' L l := ⟨h.1.bl hb, fun a ha => ⟨(h.2 a ha).1.bl hb, (h.2 a ha).2⟩⟩
theorem VlusAt.at_ {w : World} {L : Option Addr} {l : List Vlu} {i : Nat} {r : Vlu} (h : VlusAt w L l) (hi : l[i]? = some r) : ∃ ad, L = some ad ∧ w.cell? (ad.add (i * 4)) = some (.string ⟨r.field.toArray⟩) ∧ w.cell? ⟨(ad.add (i * 4)).block, (ad.add (i * 4)).off + 1, none⟩ = some (.string ⟨r.text.toArray⟩) ∧
 w.cell? ⟨(ad.add (i * 4)).block, (ad.add (i * 4)).off + 2, none⟩ = some (.slice r.M r.marks.length r.mc) ∧ w.cell? ⟨(ad.add (i * 4)).block, (ad.add (i * 4)).off + 3, none⟩ = some (.int .i64 r.sure) := by
 obtain ⟨ad, e, key⟩ := reads_flat Vlu.cells 4 (fun _ => rfl) h.1 hi
 have k0 := key 0 _ (by omega) rfl
 have k1 := key 1 _ (by omega) rfl
 have k2 := key 2 _ (by omega) rfl
 have k3 := key 3 _ (by omega) rfl
 rw [Addr.add_zero'] at k0
 rw [Addr.add_succ'] at k1 k2 k3
 exact ⟨ad, e, k0, k1, k2, k3⟩
end Go.Proofs.YthobmednnocklaaGreatDoor


/-! slices.IndexFunc, slices.ContainsFunc at boxes, fields and values. -/
namespace Go.Proofs.YthobmednnocklaaGreatDoor
open Go.RowKit

def Vlu.val (v : Vlu) : Value := .agg #[.string ⟨v.field.toArray⟩, .string ⟨v.text.toArray⟩, .slice v.M v.marks.length v.mc, .int .i64 v.sure]
/-- A function value that tests elements. -/
def TestsG {α : Type} (f : α → Value) (P : Program) (k : FuncId) (cap : Array Value) (w : World) (ls : List α) (p : α → Bool) : Prop :=
 (∀ args w, (callFunc k args).run P w = .ok (.enter k args) w) ∧ ∀ wx l, Bl w wx → l ∈ ls → Calls P k (#[f l] ++ cap) wx fun e w' => e = .returned (.bool (p l)) ∧ Bl wx w'
theorem TestsG.bl {α : Type} {f : α → Value} {P : Program} {k : FuncId} {cap : Array Value} {w w' : World} {ls : List α} {p : α → Bool} (h : TestsG f P k cap w ls p) (hb : Bl w w') : TestsG f P k cap w' ls p := ⟨h.1, fun wx l hx hl => h.2 wx l (hb.trans hx) hl⟩
/-- The first element that is met. -/
def FirstG {α : Type} (ls : List α) (p : α → Bool) (i : Int) : Prop :=
 (i = -1 ∧ ∀ l ∈ ls, p l = false) ∨ ∃ (j : Nat) (l : α), i = (j : Int) ∧ ls[j]? = some l ∧ p l = true ∧ ∀ j' l', j' < j → ls[j']? = some l' → p l' = false
theorem FirstG.some_iff {α : Type} {ls : List α} {p : α → Bool} {i : Int} (h : FirstG ls p i) : 0 ≤ i ↔ ∃ l ∈ ls, p l = true := by
 rcases h with ⟨rfl, h⟩ | ⟨j, l, rfl, hl, hp, _⟩
 · constructor
   · intro h2; omega
   · rintro ⟨l, hl, hp⟩; rw [h l hl] at hp; cases hp
 · exact ⟨fun _ => ⟨l, List.mem_of_getElem? hl, hp⟩, fun _ => Int.natCast_nonneg j⟩

end Go.Proofs.YthobmednnocklaaGreatDoor


/-! Desks: gaps, sheets that are none, and the split of no sheets. -/
namespace Go.Proofs.YthobmednnocklaaGreatDoor
open Go.RowKit Go.Shelf

/-! ### slices.ContainsFunc at ints -/
/-- A function value that answers p for the numbers of a list. -/
def TestsN (P : Program) (k : FuncId) (cap : Array Value) (w : World) (zs : List Int) (p : Int → Bool) : Prop :=
 (∀ args w, (callFunc k args).run P w = .ok (.enter k args) w) ∧ ∀ (wx : World) (z : Int), Bl w wx → z ∈ zs → Calls P k (#[.int .i64 z] ++ cap) wx fun e w' => e = .returned (.bool (p z)) ∧ Bl wx w'
theorem TestsN.bl {P : Program} {k : FuncId} {cap : Array Value} {w w' : World} {zs : List Int} {p : Int → Bool} (h : TestsN P k cap w zs p) (hb : Bl w w') : TestsN P k cap w' zs p :=
 ⟨h.1, fun wx z hx hz => h.2 wx z (hb.trans hx) hz⟩
theorem any_take_succ {p : Int → Bool} {zs : List Int} {i : Nat} {z : Int} (h : zs[i]? = some z) (h0 : (zs.take i).any p = false) : (zs.take (i + 1)).any p = p z := by
 rw [List.take_add_one, h]
 simp [List.any_append, h0]
theorem any_of_take {p : Int → Bool} {zs : List Int} {i : Nat} (h : (zs.take i).any p = true) : zs.any p = true := by
 obtain ⟨x, hx, hp⟩ := List.any_eq_true.1 h
 exact List.any_eq_true.2 ⟨x, List.mem_of_mem_take hx, hp⟩
set_option maxRecDepth 100000 in
set_option maxHeartbeats 2000000 in
theorem indexN_any (A : Option Addr) (c : Nat) (zs : List Int) (p : Int → Bool) (k : FuncId) (cap : Array Value) (w : World) (hr : Reads w 1 A zs.length (zs.map (.int .i64))) (hl : zs.length ≤ 1048576) (hk : TestsN Tryz.prog k cap w zs p) :
 Calls Tryz.prog 304 #[.slice A zs.length c, .func (.func k) #[] cap] w fun e w' => ∃ i : Int, e = .returned (.int .i64 i) ∧ (-1 ≤ i ∧ i ≤ 1048576) ∧ decide (0 ≤ i) = zs.any p ∧ Bl w w' := by
 have hent := hk.1
 have HR := Lib.hid hr; have HK := Lib.hid hk
 clear hr hk
 go_enter Tryz.func304, Tryz.ntmps304
 go_wp2_with fail
 go_loopw [8] (fun u wr => ∃ i : Nat, i ≤ zs.length ∧ u = .int .i64 i ∧ Bl w wr ∧ Hid ((zs.take i).any p = false)) (fun u _ => zs.length - (RowKit.intOf u).toNat)
 case atStart => exact ⟨0, Nat.zero_le _, rfl, Bl.refl _, Lib.hid (by simp)⟩
 case round =>
  obtain ⟨i, hi, rfl, hb, hn⟩ := hrel
  by_cases hlt : i < zs.length
  · have hg : zs[i]? = some zs[i] := List.getElem?_eq_getElem hlt
    obtain ⟨z, hz⟩ : ∃ z, z = zs[i] := ⟨_, rfl⟩
    rw [← hz] at hg
    obtain ⟨ad, u, rfl, hu, hc⟩ := (HR.out.bl hb).at_ hlt
    have hu1 : u = .int .i64 z := by
     rw [List.getElem?_map, hg] at hu
     exact (Option.some.inj hu).symm
    subst hu1
    have hst := any_take_succ (p := p) hg hn.out
    have hcall := HK.out.2 wr z hb (List.mem_of_getElem? hg)
    have Hcall := Lib.hid hcall; have Hst := Lib.hid hst; have Hb := Lib.hid hb
    clear hg hz hu hst hcall hn hb
    cases hp : p z with
    | true =>
     rw [hp] at Hcall Hst
     go_wp2_with fail
     refine Hcall.out.mono ?_
     rintro e w2 ⟨rfl, hb2⟩
     go_wp2_with fail
     go_ret
     exact ⟨_, rfl, by omega, by rw [any_of_take Hst.out]; exact decide_eq_true (by omega), Hb.out.trans hb2⟩
    | false =>
     rw [hp] at Hcall Hst
     go_wp2_with fail
     refine Hcall.out.mono ?_
     rintro e w2 ⟨rfl, hb2⟩
     go_wp2_with fail
     exact ⟨⟨i + 1, hlt, by go_num, Hb.out.trans hb2, Hst⟩, by simp [RowKit.intOf]; omega⟩
  · obtain rfl : i = zs.length := by omega
    have HX := Lib.hid (show zs.any p = false by have := hn.out; rwa [List.take_length] at this)
    go_wp2_with fail
    go_ret
    exact ⟨-1, rfl, by omega, by rw [HX.out]; rfl, hb⟩
set_option maxRecDepth 100000 in
set_option maxHeartbeats 1000000 in
theorem containsN_any (A : Option Addr) (c : Nat) (zs : List Int) (p : Int → Bool) (k : FuncId) (cap : Array Value) (w : World) (hr : Reads w 1 A zs.length (zs.map (.int .i64))) (hl : zs.length ≤ 1048576) (hk : TestsN Tryz.prog k cap w zs p) :
 Calls Tryz.prog 243 #[.slice A zs.length c, .func (.func k) #[] cap] w fun e w' => e = .returned (.bool (zs.any p)) ∧ Bl w w' := by
 have hcall := Lib.hid (indexN_any A c zs p k cap w hr hl hk)
 clear hr hk
 go_enter Tryz.func243, Tryz.ntmps243
 go_wp2_with (go_at_call 304; refine hcall.out.mono ?_; rintro e w2 ⟨i, rfl, hi, hd, hb2⟩; have Hd := Lib.hid hd; clear hd)
 go_ret
 exact ⟨by rw [← Hd.out]; rfl, hb2⟩

/-! ### part.badGap -/
def badGapB (n : Int) : Bool := decide (n < 1) || decide (4000 < n)
theorem badGap1_any (n : Int) (w : World) : Calls Tryz.prog 244 #[.int .i64 n] w fun e w' => e = .returned (.bool (badGapB n)) ∧ Bl w w' := by
 obtain ⟨B, hB⟩ : ∃ b, b = badGapB n := ⟨_, rfl⟩
 rw [← hB]
 unfold badGapB at hB
 by_cases h1 : n < 1
 · have HX := Lib.hid (show B = true by rw [hB, decide_eq_true h1]; rfl)
   clear hB
   go_enter Tryz.func244, Tryz.ntmps244
   go_wp2_with fail
   go_ret
   exact ⟨by rw [HX.out]; rfl, Bl.refl _⟩
 · by_cases h2 : 4000 < n
   · have HX := Lib.hid (show B = true by rw [hB, decide_eq_true h2, Bool.or_true])
     clear hB
     go_enter Tryz.func244, Tryz.ntmps244
     go_wp2_with fail
     go_ret
     exact ⟨by rw [HX.out]; rfl, Bl.refl _⟩
   · have HX := Lib.hid (show B = false by rw [hB, decide_eq_false h1, decide_eq_false h2]; rfl)
     clear hB
     go_enter Tryz.func244, Tryz.ntmps244
     go_wp2_with fail
     go_ret
     exact ⟨by rw [HX.out]; rfl, Bl.refl _⟩
theorem badGap_any (A : Option Addr) (c : Nat) (zs : List Int) (w : World) (hr : Reads w 1 A zs.length (zs.map (.int .i64))) (hl : zs.length ≤ 1048576) :
 Calls Tryz.prog 159 #[.slice A zs.length c] w fun e w' => e = .returned (.bool (zs.any badGapB)) ∧ Bl w w' := by
 have hcall := Lib.hid (containsN_any A c zs badGapB 244 #[] w hr hl ⟨enters Tryz.func244 (by kernel_rfl) rfl, fun wx z _ _ => badGap1_any z wx⟩)
 clear hr
 go_enter Tryz.func159, Tryz.ntmps159
 go_wp2_with (go_at_call 243; refine hcall.out.mono ?_; rintro e w2 ⟨rfl, hb2⟩)
 go_ret
 exact ⟨rfl, hb2⟩

/-! ### sort.Split of no sheets -/
set_option maxRecDepth 100000 in
theorem checkSheets_none (w : World) : Calls Tryz.prog 167 #[.slice none 0 0] w fun e w' => e = .returned (.int .i64 0) ∧ Bl w w' := by
 go_enter Tryz.func167, Tryz.ntmps167
 go_wp2_with fail
 refine wp_loop_rounds 1 ?_
 rw [rounds_succ]
 go_wp2_with fail
 go_ret
 exact ⟨rfl, Bl.refl _⟩
set_option maxRecDepth 100000 in
theorem isCode_none (w : World) : Calls Tryz.prog 168 #[.string ⟨#[]⟩] w fun e w' => e = .returned (.bool true) ∧ Bl w w' := by
 go_enter Tryz.func168, Tryz.ntmps168
 go_wp2_with fail
 refine wp_loop_rounds 1 ?_
 rw [rounds_succ]
 go_wp2_with fail
 go_ret
 exact ⟨rfl, Bl.refl _⟩
set_option maxRecDepth 100000 in
theorem checkRules_none (w : World) : Calls Tryz.prog 169 #[.slice none 0 0] w fun e w' => e = .returned (.int .i64 0) ∧ Bl w w' := by
 go_enter Tryz.func169, Tryz.ntmps169
 go_wp2_with fail
 refine wp_loop_rounds 1 ?_
 rw [rounds_succ]
 go_wp2_with fail
 go_ret
 exact ⟨rfl, Bl.refl _⟩
set_option maxRecDepth 100000 in
set_option maxHeartbeats 2000000 in
theorem splitNone_any (w : World) : Calls Tryz.prog 93 #[.slice none 0 0, .agg #[.string ⟨#[]⟩, .bool false, .int .i64 0, .int .i64 (-1), .int .i64 0, .slice none 0 0]] w fun e w' => e = .returned (.tuple #[.slice none 0 0, .slice none 0 0, .int .i64 0]) ∧ Bl w w' := by
 let w1 := (w).alloc (.cells #[.string ⟨#[]⟩, .bool false, .int .i64 0, .int .i64 (-1), .int .i64 0, .slice none 0 0] 99)
 have w1b : Bl w w1 := (Bl.refl w).alloc _
 have w11 : Blk w1 (w.heap.size) 99 #[.string ⟨#[]⟩, .bool false, .int .i64 0, .int .i64 (-1), .int .i64 0, .slice none 0 0] := by
  have h0 := Blk.new (w) 99 #[.string ⟨#[]⟩, .bool false, .int .i64 0, .int .i64 (-1), .int .i64 0, .slice none 0 0]
  exact h0
 have k1 := w11.all6
 go_enter Tryz.func93, Tryz.ntmps93
 go_upto_region 2 with (go_at_call 167; refine (checkSheets_none _).mono ?_; rintro e w2 ⟨rfl, hb2⟩)
 have k1 := (w11.bl hb2).all6
 have HW1b := Lib.hid w1b; have Hb2 := Lib.hid hb2
 clear hb2 w1b
 go_upto_region 8 with (go_at_call 168; refine (isCode_none _).mono ?_; rintro e w3 ⟨rfl, hb3⟩; have k1 := (w11.bl (Hb2.out.trans hb3)).all6)
 have Hb3 := Lib.hid (Hb2.out.trans hb3)
 clear hb3
 go_upto_region 9 with (go_at_call 169; refine (checkRules_none _).mono ?_; rintro e w4 ⟨rfl, hb4⟩)
 have Hb4 := Lib.hid (Hb3.out.trans hb4)
 have k1 := (w11.bl Hb4.out).all6
 clear hb4
 go_wp2_with fail
 refine wp_loop_rounds 1 ?_
 rw [rounds_succ]
 have hw5 : Bl w4 ((w4.alloc (.cells #[.slice none 0 0] 164)).alloc (.cells #[.bool false] 4)) := ((Bl.refl _).alloc _).alloc _
 have k5 := Blk.new w4 164 #[.slice none 0 0]
 have k6 := (k5.bl ((Bl.refl _).alloc (.cells #[.bool false] 4))).all1
 have Hb5 := Lib.hid (HW1b.out.trans (Hb4.out.trans hw5))
 clear k5 hw5 k1
 go_wp2_with fail
 go_ret3
 exact ⟨rfl, Hb5.out⟩
end Go.Proofs.YthobmednnocklaaGreatDoor


/-! The plain law of forms.Best: where anchors are found, how far a page is from a form, the form that a page fits best. -/
namespace Go.Proofs.YthobmednnocklaaGreatDoor
open Go.RowKit

def places (r : Nat) : Nat := (2 * r + 1) * (2 * r + 1)
/-! ### sums -/
/-! ### the best of several forms -/
/-! ### errors of several forms -/
end Go.Proofs.YthobmednnocklaaGreatDoor


/-! Plain facts on what is wrong with a form: step by step, as both programs look. -/
namespace Go.Proofs.YthobmednnocklaaGreatDoor

theorem firstNZ_0 {l : List Int} : firstNZ (0 :: l) = firstNZ l := by
 cases l <;> rfl
theorem firstNZ_stop {e : Int} {l : List Int} (h : e ≠ 0) : firstNZ (e :: l) = e := by
 unfold firstNZ
 rw [if_neg h]
theorem firstNZ_eq {e : Int} {l : List Int} (h : e = 0) : firstNZ (e :: l) = firstNZ l := by rw [h]; exact firstNZ_0
theorem ancErr_ok {W H : Int} {a : Anc} (h : ancErr W H a = 0) : pageErr a.W a.H a.m = 0 ∧ true ∈ a.bs ∧ a.box.inP W H = true := by
 unfold ancErr at h
 by_cases h1 : pageErr a.W a.H a.m = 0
 · rw [firstNZ_eq h1] at h
   by_cases h2 : true ∈ a.bs
   · rw [decide_eq_true h2] at h
     cases h3 : a.box.inP W H with
     | true => exact ⟨h1, h2, rfl⟩
     | false => rw [h3] at h; exact absurd h (by decide)
   · rw [decide_eq_false h2] at h
     exact absurd h (by rw [firstNZ_stop (by decide)]; decide)
 · rw [firstNZ_stop h1] at h
   exact absurd h h1
end Go.Proofs.YthobmednnocklaaGreatDoor


/-! bedref2.Nearest with any two function values; bedref2.FoundOf, ScoreOf. -/
namespace Go.Proofs.YthobmednnocklaaGreatDoor
open Go.RowKit

/-- What of a form and a page is leaned on. -/
structure Fits (f : Frm) (W H r : Nat) : Prop where
 fW : f.W = (W : Int)
 fH : f.H = (H : Int)
 fr : f.reach = (r : Int)
 hW : 1 ≤ W ∧ W ≤ 4000
 hH : 1 ≤ H ∧ H ≤ 4000
 hWH : W * H ≤ 1048576
 hr : r ≤ 40
 hla : f.la.length ≤ 10
 anc : ∀ a ∈ f.la, ancErr W H a = 0
/-- What is known of each anchor. -/
theorem Fits.at_ {f : Frm} {W H r : Nat} (h : Fits f W H r) {a : Anc} (ha : a ∈ f.la) : ∃ BW BH : Nat, a.W = (BW : Int) ∧ a.H = (BH : Int) ∧ a.m = BW * BH ∧ a.box.inP f.W f.H = true ∧ 1 ≤ BW * BH ∧ BW * BH ≤ 1048576 ∧ BW ≤ 4000 ∧ BH ≤ 4000 := by
 obtain ⟨h1, -, h3⟩ := ancErr_ok (h.anc a ha)
 have hs : sizeErr a.W a.H = 0 := by
  apply Classical.byContradiction
  intro hne
  unfold pageErr at h1
  rw [if_neg hne] at h1
  exact hne h1
 have hz := sizeErr_zero hs
 obtain ⟨BW, BH, q1, q2, q3, -, -, -⟩ := page_nat h1
 rw [q1, q2] at hz
 have e := Int.natCast_mul BW BH
 refine ⟨BW, BH, q1, q2, q3, by rw [h.fW, h.fH]; exact h3, Nat.mul_pos (by omega) (by omega), by omega, by omega, by omega⟩
end Go.Proofs.YthobmednnocklaaGreatDoor
