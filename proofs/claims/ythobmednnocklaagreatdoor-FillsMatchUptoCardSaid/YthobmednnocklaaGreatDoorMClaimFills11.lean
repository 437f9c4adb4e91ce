/- The plain law of forms.Best: where anchors are found, how far a page is from a form, the form that a page fits best. -/
import Derived.Test.YthobmednnocklaaGreatDoorMClaimFills1
import Derived.Test.YthobmednnocklaaGreatDoorMClaimFills4
import Derived.Test.YthobmednnocklaaGreatDoorMClaimFills3
import Derived.Test.YthobmednnocklaaGreatDoorMClaimFills9
import Derived.Test.YthobmednnocklaaGreatDoorMClaimFills2
import Derived.Lib.IndexMore
import Derived.Lib.Strings
import Derived.Lib.CutLaws
import Derived.Lib.SlTrimSet

namespace Go.Proofs.YthobmednnocklaaGreatDoor
open Go.RowKit

/-! ### boxes -/
structure Bx where
 X : Int
 Y : Int
 W : Int
 H : Int
deriving DecidableEq
def Bx.cells (b : Bx) : List Value := [.int .i64 b.X, .int .i64 b.Y, .int .i64 b.W, .int .i64 b.H]
def bxCells (l : List Bx) : List Value := l.flatMap Bx.cells
def Bx.zero : Bx := ⟨0, 0, 0, 0⟩
def Bx.inP (b : Bx) (W H : Int) : Bool := inPageB b.X b.Y b.W b.H W H
/-- Two boxes have a pixel in common. -/
def Bx.over (a b : Bx) : Bool := decide (a.X < b.X + b.W) && (decide (b.X < a.X + a.W) && (decide (a.Y < b.Y + b.H) && decide (b.Y < a.Y + a.H)))

/-! ### lists of structs in memory -/
theorem flat_len {α : Type} (f : α → List Value) (k : Nat) (hf : ∀ a, (f a).length = k) (l : List α) : (l.flatMap f).length = l.length * k := by
 induction l with
 | nil => simp
 | cons a l ih => rw [List.flatMap_cons, List.length_append, ih, hf, List.length_cons, Nat.succ_mul, Nat.add_comm]
theorem flat_at {α : Type} (f : α → List Value) (k : Nat) (hf : ∀ a, (f a).length = k) {l : List α} {i : Nat} {a : α} (h : l[i]? = some a) (j : Nat) (hj : j < k) : (l.flatMap f)[i * k + j]? = (f a)[j]? := by
 induction l generalizing i with
 | nil => simp at h
 | cons x l ih =>
  rw [List.flatMap_cons]
  rcases i with _ | i
  · simp only [List.getElem?_cons_zero, Option.some.injEq] at h
    subst h
    rw [List.getElem?_append_left (by rw [hf]; omega)]
    simp
  · have hk : (i + 1) * k = i * k + k := Nat.succ_mul i k
    rw [List.getElem?_append_right (by rw [hf]; omega), hf, hk, show i * k + k + j - k = i * k + j by omega]
    exact ih (by simpa using h)
/-- The cells of one element. -/
theorem reads_flat {α : Type} (f : α → List Value) (k : Nat) (hf : ∀ a, (f a).length = k) {w : World} {L : Option Addr} {l : List α} {i : Nat} {a : α} (h : Reads w k L l.length (l.flatMap f)) (hi : l[i]? = some a) :
 ∃ ad, L = some ad ∧ ∀ j v, j < k → (f a)[j]? = some v → w.cell? ((ad.add (i * k)).add j) = some v := by
 have hlt : i < l.length := (List.getElem?_eq_some_iff.1 hi).1
 obtain ⟨ad, e, hc⟩ := h.2 (by omega)
 refine ⟨ad, e, fun j v hj hv => ?_⟩
 rw [add_of_add]
 exact hc _ _ (by rw [flat_at f k hf hi j hj]; exact hv)

/-! ### anchors, fields, rules -/
structure Anc where
 W : Int
 H : Int
 A : Option Addr
 m : Nat
 c : Nat
 bs : List Bool
 X : Int
 Y : Int
def Anc.cells (a : Anc) : List Value := [.int .i64 a.W, .int .i64 a.H, .slice a.A a.m a.c, .int .i64 a.X, .int .i64 a.Y]
def Anc.box (a : Anc) : Bx := ⟨a.X, a.Y, a.W, a.H⟩
structure Fld where
 name : List UInt8
 kind : Int
 box : Bx
 M : Option Addr
 mc : Nat
 marks : List Bx
 most : Int
 needed : Bool
def Fld.cells (f : Fld) : List Value := [.string ⟨f.name.toArray⟩, .int .i64 f.kind, .int .i64 f.box.X, .int .i64 f.box.Y, .int .i64 f.box.W, .int .i64 f.box.H, .slice f.M f.marks.length f.mc, .int .i64 f.most, .bool f.needed]
structure Rul where
 kind : Int
 field : List UInt8
 other : List UInt8
 text : List UInt8
def Rul.cells (r : Rul) : List Value := [.int .i64 r.kind, .string ⟨r.field.toArray⟩, .string ⟨r.other.toArray⟩, .string ⟨r.text.toArray⟩]
def Anc.val (a : Anc) : Value := .agg #[.int .i64 a.W, .int .i64 a.H, .slice a.A a.m a.c, .int .i64 a.X, .int .i64 a.Y]
def Bx.val (b : Bx) : Value := .agg #[.int .i64 b.X, .int .i64 b.Y, .int .i64 b.W, .int .i64 b.H]
def Fld.val (f : Fld) : Value := .agg #[.string ⟨f.name.toArray⟩, .int .i64 f.kind, .int .i64 f.box.X, .int .i64 f.box.Y, .int .i64 f.box.W, .int .i64 f.box.H, .slice f.M f.marks.length f.mc, .int .i64 f.most, .bool f.needed]
def Rul.val (r : Rul) : Value := .agg #[.int .i64 r.kind, .string ⟨r.field.toArray⟩, .string ⟨r.other.toArray⟩, .string ⟨r.text.toArray⟩]
/-- A box that is small enough to be reckoned with. -/
structure Bx.Ok (b : Bx) : Prop where
 x : 0 ≤ b.X ∧ b.X ≤ 4000
 y : 0 ≤ b.Y ∧ b.Y ≤ 4000
 w : 1 ≤ b.W ∧ b.W ≤ 4000
 h : 1 ≤ b.H ∧ b.H ≤ 4000
theorem Bx.ok {b : Bx} {W H : Int} (hW : W ≤ 4000) (hH : H ≤ 4000) (h : b.inP W H = true) : b.Ok := by
 unfold Bx.inP inPageB at h
 have h := of_decide_eq_true h
 exact ⟨by omega, by omega, by omega, by omega⟩
def AncsAt (w : World) (L : Option Addr) (l : List Anc) : Prop := Reads w 5 L l.length (l.flatMap Anc.cells) ∧ ∀ a ∈ l, Reads w 1 a.A a.m (a.bs.map .bool)
def BxsAt (w : World) (L : Option Addr) (l : List Bx) : Prop := Reads w 4 L l.length (l.flatMap Bx.cells)
def FldsAt (w : World) (L : Option Addr) (l : List Fld) : Prop := Reads w 9 L l.length (l.flatMap Fld.cells) ∧ ∀ f ∈ l, BxsAt w f.M f.marks ∧ f.marks.length ≤ f.mc ∧ f.marks.length ≤ 9223372036854775807 ∧ f.name.length ≤ 9223372036854775807
def RulsAt (w : World) (L : Option Addr) (l : List Rul) : Prop := Reads w 4 L l.length (l.flatMap Rul.cells) ∧ ∀ r ∈ l, r.field.length ≤ 9223372036854775807 ∧ r.other.length ≤ 9223372036854775807 ∧ r.text.length ≤ 9223372036854775807
section
variable {w w' : World} {L : Option Addr}
theorem AncsAt.bl {l : List Anc} (h : AncsAt w L l) (hb : Bl w w') : AncsAt w' L l := ⟨h.1.bl hb, fun a ha => (h.2 a ha).bl hb⟩
theorem BxsAt.bl {l : List Bx} (h : BxsAt w L l) (hb : Bl w w') : BxsAt w' L l := Reads.bl h hb
theorem FldsAt.bl {l : List Fld} (h : FldsAt w L l) (hb : Bl w w') : FldsAt w' L l := ⟨h.1.bl hb, fun a ha => ⟨(h.2 a ha).1.bl hb, (h.2 a ha).2⟩⟩
theorem RulsAt.bl {l : List Rul} (h : RulsAt w L l) (hb : Bl w w') : RulsAt w' L l := ⟨h.1.bl hb, h.2⟩
theorem BxsAt.at_ {l : List Bx} {i : Nat} {b : Bx} (h : BxsAt w L l) (hi : l[i]? = some b) : ∃ ad, L = some ad ∧ w.cell? (ad.add (i * 4)) = some (.int .i64 b.X) ∧ w.cell? ⟨(ad.add (i * 4)).block, (ad.add (i * 4)).off + 1, none⟩ = some (.int .i64 b.Y) ∧
 w.cell? ⟨(ad.add (i * 4)).block, (ad.add (i * 4)).off + 2, none⟩ = some (.int .i64 b.W) ∧ w.cell? ⟨(ad.add (i * 4)).block, (ad.add (i * 4)).off + 3, none⟩ = some (.int .i64 b.H) := by
 obtain ⟨ad, e, key⟩ := reads_flat Bx.cells 4 (fun _ => rfl) h hi
 have k0 := key 0 _ (by omega) rfl
 have k1 := key 1 _ (by omega) rfl
 have k2 := key 2 _ (by omega) rfl
 have k3 := key 3 _ (by omega) rfl
 rw [Addr.add_zero'] at k0
 rw [Addr.add_succ'] at k1 k2 k3
 exact ⟨ad, e, k0, k1, k2, k3⟩
theorem AncsAt.at_ {l : List Anc} {i : Nat} {a : Anc} (h : AncsAt w L l) (hi : l[i]? = some a) : ∃ ad, L = some ad ∧ w.cell? (ad.add (i * 5)) = some (.int .i64 a.W) ∧ w.cell? ⟨(ad.add (i * 5)).block, (ad.add (i * 5)).off + 1, none⟩ = some (.int .i64 a.H) ∧
 w.cell? ⟨(ad.add (i * 5)).block, (ad.add (i * 5)).off + 2, none⟩ = some (.slice a.A a.m a.c) ∧ w.cell? ⟨(ad.add (i * 5)).block, (ad.add (i * 5)).off + 3, none⟩ = some (.int .i64 a.X) ∧ w.cell? ⟨(ad.add (i * 5)).block, (ad.add (i * 5)).off + 4, none⟩ = some (.int .i64 a.Y) := by
 obtain ⟨ad, e, key⟩ := reads_flat Anc.cells 5 (fun _ => rfl) h.1 hi
 have k0 := key 0 _ (by omega) rfl
 have k1 := key 1 _ (by omega) rfl
 have k2 := key 2 _ (by omega) rfl
 have k3 := key 3 _ (by omega) rfl
 have k4 := key 4 _ (by omega) rfl
 rw [Addr.add_zero'] at k0
 rw [Addr.add_succ'] at k1 k2 k3 k4
 exact ⟨ad, e, k0, k1, k2, k3, k4⟩
theorem FldsAt.at_ {l : List Fld} {i : Nat} {f : Fld} (h : FldsAt w L l) (hi : l[i]? = some f) : ∃ ad, L = some ad ∧ w.cell? (ad.add (i * 9)) = some (.string ⟨f.name.toArray⟩) ∧ w.cell? ⟨(ad.add (i * 9)).block, (ad.add (i * 9)).off + 1, none⟩ = some (.int .i64 f.kind) ∧
 w.cell? ⟨(ad.add (i * 9)).block, (ad.add (i * 9)).off + 2, none⟩ = some (.int .i64 f.box.X) ∧ w.cell? ⟨(ad.add (i * 9)).block, (ad.add (i * 9)).off + 3, none⟩ = some (.int .i64 f.box.Y) ∧ w.cell? ⟨(ad.add (i * 9)).block, (ad.add (i * 9)).off + 4, none⟩ = some (.int .i64 f.box.W) ∧ w.cell? ⟨(ad.add (i * 9)).block, (ad.add (i * 9)).off + 5, none⟩ = some (.int .i64 f.box.H) ∧
 w.cell? ⟨(ad.add (i * 9)).block, (ad.add (i * 9)).off + 6, none⟩ = some (.slice f.M f.marks.length f.mc) ∧ w.cell? ⟨(ad.add (i * 9)).block, (ad.add (i * 9)).off + 7, none⟩ = some (.int .i64 f.most) ∧ w.cell? ⟨(ad.add (i * 9)).block, (ad.add (i * 9)).off + 8, none⟩ = some (.bool f.needed) := by
 obtain ⟨ad, e, key⟩ := reads_flat Fld.cells 9 (fun _ => rfl) h.1 hi
 have k0 := key 0 _ (by omega) rfl
 have k1 := key 1 _ (by omega) rfl
 have k2 := key 2 _ (by omega) rfl
 have k3 := key 3 _ (by omega) rfl
 have k4 := key 4 _ (by omega) rfl
 have k5 := key 5 _ (by omega) rfl
 have k6 := key 6 _ (by omega) rfl
 have k7 := key 7 _ (by omega) rfl
 have k8 := key 8 _ (by omega) rfl
 rw [Addr.add_zero'] at k0
 rw [Addr.add_succ'] at k1 k2 k3 k4 k5 k6 k7 k8
 exact ⟨ad, e, k0, k1, k2, k3, k4, k5, k6, k7, k8⟩
theorem RulsAt.at_ {l : List Rul} {i : Nat} {r : Rul} (h : RulsAt w L l) (hi : l[i]? = some r) : ∃ ad, L = some ad ∧ w.cell? (ad.add (i * 4)) = some (.int .i64 r.kind) ∧ w.cell? ⟨(ad.add (i * 4)).block, (ad.add (i * 4)).off + 1, none⟩ = some (.string ⟨r.field.toArray⟩) ∧
 w.cell? ⟨(ad.add (i * 4)).block, (ad.add (i * 4)).off + 2, none⟩ = some (.string ⟨r.other.toArray⟩) ∧ w.cell? ⟨(ad.add (i * 4)).block, (ad.add (i * 4)).off + 3, none⟩ = some (.string ⟨r.text.toArray⟩) := by
 obtain ⟨ad, e, key⟩ := reads_flat Rul.cells 4 (fun _ => rfl) h.1 hi
 have k0 := key 0 _ (by omega) rfl
 have k1 := key 1 _ (by omega) rfl
 have k2 := key 2 _ (by omega) rfl
 have k3 := key 3 _ (by omega) rfl
 rw [Addr.add_zero'] at k0
 rw [Addr.add_succ'] at k1 k2 k3
 exact ⟨ad, e, k0, k1, k2, k3⟩
end

/-! ### what is wrong -/
def marksB (k : Int) : Bool := decide (k = 3) || decide (k = 4)
def ancErr (W H : Int) (a : Anc) : Int := firstNZ [pageErr a.W a.H a.m, whenI (!decide (true ∈ a.bs)) 10, whenI (!a.box.inP W H) 13]
def placesErr (W H : Int) (l : List Bx) : Int := whenI (l.any fun b => !b.inP W H) 13
def fldE (W H : Int) (tw : Bool) (f : Fld) : Int :=
 firstNZ [whenI (!nameB f.name) 5, whenI tw 6, whenI (!inB f.kind 1 4) 1, (if marksB f.kind then whenI (!decide (f.box = Bx.zero)) 2 else whenI (!f.box.inP W H) 13),
  whenI (marksB f.kind != decide (0 < f.marks.length)) 2, whenI (decide (20 < f.marks.length)) 4, placesErr W H f.marks, whenI (!inB f.most 0 1000) 3, whenI (!decide (f.kind = 1) && !decide (f.most = 0)) 2]
def fldErr (W H : Int) (prev : List (List UInt8)) (f : Fld) : Int := fldE W H (decide (f.name ∈ prev)) f
def ancsErr (W H : Int) : List Anc → Int
 | [] => 0
 | a :: l => if ancErr W H a = 0 then ancsErr W H l else ancErr W H a
def fldsErr (W H : Int) : List (List UInt8) → List Fld → Int
 | _, [] => 0
 | prev, f :: l => if fldErr W H prev f = 0 then fldsErr W H (prev ++ [f.name]) l else fldErr W H prev f
/-- The boxes of a field, and of a form. -/
def fldBoxes (f : Fld) : List Bx := (if marksB f.kind then [] else [f.box]) ++ f.marks
def boxesB (la : List Anc) (fs : List Fld) : List Bx := la.map Anc.box ++ fs.flatMap fldBoxes
/-- Two of the boxes overlap. -/
def overB : List Bx → List Bx → Bool
 | _, [] => false
 | prev, b :: l => (prev.any fun p => b.over p) || overB (prev ++ [b]) l
def twoB (k : Int) : Bool := decide (k = 4) || decide (k = 5)
def textK (k : Int) : Bool := decide (k = 3) || decide (k = 6)
def wordsB (t : List UInt8) : Bool := (wordsOf t).all fun x => !x.isEmpty && printB x
/-- A number of at most two digits. -/
def int2 (s : List UInt8) : Option Nat := match Lib.atoi s with
 | some v => if s.length ≤ 2 ∧ 0 ≤ v ∧ Lib.itoa v = s then some v.toNat else none
 | none => none
def kindOf (fs : List Fld) (name : List UInt8) : Option Int := (fs.find? fun f => decide (f.name = name)).map Fld.kind
def rulErr (fs : List Fld) (r : Rul) : Int :=
 firstNZ [whenI (!inB r.kind 1 6) 1, whenI (decide (kindOf fs r.field = none) || (twoB r.kind && decide (kindOf fs r.other = none))) 10,
  whenI ((!decide (r.kind = 1) && (marksB ((kindOf fs r.field).getD 0) != decide (r.kind = 6))) || (twoB r.kind && marksB ((kindOf fs r.other).getD 0))) 1,
  whenI ((!twoB r.kind && !r.other.isEmpty) || ((!textK r.kind && !r.text.isEmpty) || ((decide (r.kind = 3) && !wordsB r.text) || (decide (r.kind = 6) && (int2 r.text).isNone)))) 2]
def rulsErr (fs : List Fld) : List Rul → Int
 | [] => 0
 | r :: l => if rulErr fs r = 0 then rulsErr fs l else rulErr fs r
def formHead (nm : Bool) (W H reach dark : Int) (n : Nat) : Int := firstNZ [whenI (!nm) 5, sizeErr W H, whenI (!inB reach 0 40 || !inB dark 1 1000) 3, whenI (decide (10 < n)) 4]
def formErr (nm : Bool) (W H reach dark : Int) (la : List Anc) (fs : List Fld) (rs : List Rul) : Int :=
 firstNZ [formHead nm W H reach dark la.length, ancsErr W H la, whenI (decide (fs.length = 0)) 9, whenI (decide (50 < fs.length)) 4, fldsErr W H [] fs, whenI (overB [] (boxesB la fs)) 11, whenI (decide (50 < rs.length)) 4, rulsErr fs rs]
/-! ### whole forms, and values -/
structure Frm where
 name : List UInt8
 W : Int
 H : Int
 reach : Int
 dark : Int
 AL : Option Addr
 ac : Nat
 la : List Anc
 FL : Option Addr
 fc : Nat
 lf : List Fld
 RL : Option Addr
 rc : Nat
 lr : List Rul
def Frm.cells (f : Frm) : List Value := [.string ⟨f.name.toArray⟩, .int .i64 f.W, .int .i64 f.H, .int .i64 f.reach, .int .i64 f.dark, .slice f.AL f.la.length f.ac, .slice f.FL f.lf.length f.fc, .slice f.RL f.lr.length f.rc]
def Frm.val (f : Frm) : Value := .agg #[.string ⟨f.name.toArray⟩, .int .i64 f.W, .int .i64 f.H, .int .i64 f.reach, .int .i64 f.dark, .slice f.AL f.la.length f.ac, .slice f.FL f.lf.length f.fc, .slice f.RL f.lr.length f.rc]
structure FrmAt (w : World) (f : Frm) : Prop where
 ancs : AncsAt w f.AL f.la
 flds : FldsAt w f.FL f.lf
 ruls : RulsAt w f.RL f.lr
 nm : f.name.length ≤ 9223372036854775807
 an : f.la.length ≤ f.ac ∧ f.la.length ≤ 9223372036854775807
 fn : f.lf.length ≤ f.fc ∧ f.lf.length ≤ 9223372036854775807
 rn : f.lr.length ≤ f.rc ∧ f.lr.length ≤ 9223372036854775807
theorem FrmAt.bl {w w' : World} {f : Frm} (h : FrmAt w f) (hb : Bl w w') : FrmAt w' f := ⟨h.ancs.bl hb, h.flds.bl hb, h.ruls.bl hb, h.nm, h.an, h.fn, h.rn⟩
def Frm.err (f : Frm) : Int := formErr (nameB f.name) f.W f.H f.reach f.dark f.la f.lf f.lr
/-- A form whose rules' texts are no longer than n. -/
def Frm.small (f : Frm) (n : Nat) : Prop := ∀ r ∈ f.lr, r.text.length ≤ n
structure Vlu where
 field : List UInt8
 text : List UInt8
 M : Option Addr
 mc : Nat
 marks : List Int
 sure : Int
def Vlu.cells (v : Vlu) : List Value := [.string ⟨v.field.toArray⟩, .string ⟨v.text.toArray⟩, .slice v.M v.marks.length v.mc, .int .i64 v.sure]
def VlusAt (w : World) (L : Option Addr) (l : List Vlu) : Prop := Reads w 4 L l.length (l.flatMap Vlu.cells) ∧ ∀ v ∈ l, Reads w 1 v.M v.marks.length (v.marks.map (.int .i64)) ∧ v.field.length ≤ 9223372036854775807 ∧ v.text.length ≤ 9223372036854775807 ∧ v.marks.length ≤ 9223372036854775807
theorem VlusAt.bl {w w' : World} {L : Option Addr} {l : List Vlu} (h : VlusAt w L l) (hb : Bl w w') : VlusAt w' L l := ⟨h.1.bl hb, fun a ha => ⟨(h.2 a ha).1.bl hb, (h.2 a ha).2⟩⟩
theorem VlusAt.at_ {w : World} {L : Option Addr} {l : List Vlu} {i : Nat} {r : Vlu} (h : VlusAt w L l) (hi : l[i]? = some r) : ∃ ad, L = some ad ∧ w.cell? (ad.add (i * 4)) = some (.string ⟨r.field.toArray⟩) ∧ w.cell? ⟨(ad.add (i * 4)).block, (ad.add (i * 4)).off + 1, none⟩ = some (.string ⟨r.text.toArray⟩) ∧
 w.cell? ⟨(ad.add (i * 4)).block, (ad.add (i * 4)).off + 2, none⟩ = some (.slice r.M r.marks.length r.mc) ∧ w.cell? ⟨(ad.add (i * 4)).block, (ad.add (i * 4)).off + 3, none⟩ = some (.int .i64 r.sure) := by
 obtain ⟨ad, e, key⟩ := reads_flat Vlu.cells 4 (fun _ => rfl) h.1 hi
 have k0 := key 0 _ (by omega) rfl
 have k1 := key 1 _ (by omega) rfl
 have k2 := key 2 _ (by omega) rfl
 have k3 := key 3 _ (by omega) rfl
 rw [Addr.add_zero'] at k0
 rw [Addr.add_succ'] at k1 k2 k3
 exact ⟨ad, e, k0, k1, k2, k3⟩
end Go.Proofs.YthobmednnocklaaGreatDoor


/-! Plain facts on what is wrong with a form: step by step, as both programs look. -/
namespace Go.Proofs.YthobmednnocklaaGreatDoor

theorem firstNZ_0 {l : List Int} : firstNZ (0 :: l) = firstNZ l := by
 cases l <;> rfl
theorem firstNZ_stop {e : Int} {l : List Int} (h : e ≠ 0) : firstNZ (e :: l) = e := by
 unfold firstNZ
 rw [if_neg h]
theorem firstNZ_eq {e : Int} {l : List Int} (h : e = 0) : firstNZ (e :: l) = firstNZ l := by rw [h]; exact firstNZ_0
theorem whenI_false (e : Int) : whenI false e = 0 := rfl
theorem drop_cons {α : Type} {l : List α} {i : Nat} {a : α} (h : l[i]? = some a) : l.drop i = a :: l.drop (i + 1) := by
 have hlt := (List.getElem?_eq_some_iff.1 h).1
 rw [List.drop_eq_getElem_cons hlt]
 rw [List.getElem?_eq_getElem hlt] at h
 rw [Option.some.inj h]
theorem take_snoc {α : Type} {l : List α} {i : Nat} {a : α} (h : l[i]? = some a) : l.take (i + 1) = l.take i ++ [a] := by rw [List.take_add_one, h]; rfl
theorem ancsErr_from {W H : Int} {l : List Anc} {i : Nat} {a : Anc} (h : l[i]? = some a) : ancsErr W H (l.drop i) = if ancErr W H a = 0 then ancsErr W H (l.drop (i + 1)) else ancErr W H a := by
 rw [drop_cons h]; rfl
theorem rulsErr_from {fs : List Fld} {l : List Rul} {i : Nat} {a : Rul} (h : l[i]? = some a) : rulsErr fs (l.drop i) = if rulErr fs a = 0 then rulsErr fs (l.drop (i + 1)) else rulErr fs a := by
 rw [drop_cons h]; rfl
theorem fldsErr_from {W H : Int} {l : List Fld} {i : Nat} {a : Fld} (h : l[i]? = some a) : fldsErr W H ((l.take i).map Fld.name) (l.drop i) = if fldErr W H ((l.take i).map Fld.name) a = 0 then fldsErr W H ((l.take (i + 1)).map Fld.name) (l.drop (i + 1)) else fldErr W H ((l.take i).map Fld.name) a := by
 rw [drop_cons h, take_snoc h, List.map_append]; rfl
theorem overB_from {l : List Bx} {i : Nat} {b : Bx} (h : l[i]? = some b) : overB (l.take i) (l.drop i) = (((l.take i).any fun p => b.over p) || overB (l.take (i + 1)) (l.drop (i + 1))) := by
 rw [drop_cons h, take_snoc h]; rfl
theorem ancErr_ok {W H : Int} {a : Anc} (h : ancErr W H a = 0) : pageErr a.W a.H a.m = 0 ∧ true ∈ a.bs ∧ a.box.inP W H = true := by
 unfold ancErr at h
 by_cases h1 : pageErr a.W a.H a.m = 0
 · rw [firstNZ_eq h1] at h
   by_cases h2 : true ∈ a.bs
   · rw [decide_eq_true h2] at h
     cases h3 : a.box.inP W H with
     | true => exact ⟨h1, h2, rfl⟩
     | false => rw [h3] at h; exact absurd h (by decide)
   · rw [decide_eq_false h2] at h
     exact absurd h (by rw [firstNZ_stop (by decide)]; decide)
 · rw [firstNZ_stop h1] at h
   exact absurd h h1
theorem ancsErr_ok {W H : Int} {l : List Anc} (h : ancsErr W H l = 0) : ∀ a ∈ l, ancErr W H a = 0 := by
 induction l with
 | nil => intro a ha; cases ha
 | cons x l ih =>
  unfold ancsErr at h
  by_cases h1 : ancErr W H x = 0
  · rw [if_pos h1] at h
    intro a ha
    rcases List.mem_cons.1 ha with rfl | ha
    · exact h1
    · exact ih h a ha
  · rw [if_neg h1] at h
    exact absurd h h1
theorem fldE_ok {W H : Int} {tw : Bool} {f : Fld} (h : fldE W H tw f = 0) : (∀ b ∈ fldBoxes f, b.inP W H = true) ∧ nameB f.name = true ∧ tw = false ∧ (1 ≤ f.kind ∧ f.kind ≤ 4) ∧ f.marks.length ≤ 20 ∧ (marksB f.kind = decide (0 < f.marks.length)) ∧ (marksB f.kind = false → f.box.inP W H = true) := by
 unfold fldE at h
 have hn : nameB f.name = true := by
  cases hc : nameB f.name with
  | true => rfl
  | false => rw [hc] at h; exact absurd h (by rw [firstNZ_stop (by decide)]; decide)
 rw [hn, firstNZ_eq (show whenI (!true) 5 = 0 from rfl)] at h
 have ht : tw = false := by
  cases hc : tw with
  | false => rfl
  | true => rw [hc] at h; exact absurd h (by rw [firstNZ_stop (by decide)]; decide)
 rw [ht, firstNZ_eq (show whenI false 6 = 0 from rfl)] at h
 have hk : inB f.kind 1 4 = true := by
  cases hc : inB f.kind 1 4 with
  | true => rfl
  | false => rw [hc] at h; exact absurd h (by rw [firstNZ_stop (by decide)]; decide)
 rw [hk, firstNZ_eq (show whenI (!true) 1 = 0 from rfl)] at h
 have hbox : (if marksB f.kind then whenI (!decide (f.box = Bx.zero)) 2 else whenI (!f.box.inP W H) 13) = 0 := by
  apply Classical.byContradiction
  intro hne
  rw [firstNZ_stop hne] at h
  exact hne h
 rw [firstNZ_eq hbox] at h
 have hm : marksB f.kind = decide (0 < f.marks.length) := by
  cases hc : (marksB f.kind != decide (0 < f.marks.length)) with
  | false => simpa using hc
  | true => rw [hc] at h; exact absurd h (by rw [firstNZ_stop (by decide)]; decide)
 rw [firstNZ_eq (by rw [hm]; simp [whenI])] at h
 have h20 : f.marks.length ≤ 20 := by
  apply Classical.byContradiction
  intro hc
  rw [decide_eq_true (by omega)] at h
  exact absurd h (by rw [firstNZ_stop (by decide)]; decide)
 rw [decide_eq_false (by omega), firstNZ_eq (show whenI false 4 = 0 from rfl)] at h
 have hpl : ∀ b ∈ f.marks, b.inP W H = true := fun b hb => by
  cases hc : b.inP W H with
  | true => rfl
  | false =>
   have : placesErr W H f.marks = 13 := by
    unfold placesErr
    rw [show (f.marks.any fun b => !b.inP W H) = true from List.any_eq_true.2 ⟨b, hb, by rw [hc]; rfl⟩]
    rfl
   rw [this] at h
   exact absurd h (by rw [firstNZ_stop (by decide)]; decide)
 have hb1 : marksB f.kind = false → f.box.inP W H = true := fun hf => by
  rw [hf] at hbox
  cases hc : f.box.inP W H with
  | true => rfl
  | false => rw [hc] at hbox; exact absurd (show (13 : Int) = 0 from hbox) (by decide)
 refine ⟨fun b hb => ?_, hn, ht, inB_true.1 hk, h20, hm, hb1⟩
 unfold fldBoxes at hb
 rcases List.mem_append.1 hb with hb | hb
 · cases hc : marksB f.kind with
   | true => rw [hc] at hb; simp at hb
   | false =>
    rw [hc] at hb
    simp at hb
    subst hb
    exact hb1 hc
 · exact hpl b hb
theorem fldsErr_each {W H : Int} {l : List Fld} : ∀ {prev : List (List UInt8)}, fldsErr W H prev l = 0 → ∀ f ∈ l, ∃ pv, fldErr W H pv f = 0 := by
 induction l with
 | nil => intro prev _ f hf; cases hf
 | cons x l ih =>
  intro prev h f hf
  unfold fldsErr at h
  by_cases h1 : fldErr W H prev x = 0
  · rw [if_pos h1] at h
    rcases List.mem_cons.1 hf with rfl | hf
    · exact ⟨prev, h1⟩
    · exact ih h f hf
  · rw [if_neg h1] at h
    exact absurd h h1
theorem boxes_ok {W H : Int} {la : List Anc} {fs : List Fld} (ha : ancsErr W H la = 0) (hf : fldsErr W H [] fs = 0) : ∀ b ∈ boxesB la fs, b.inP W H = true := by
 intro b hb
 unfold boxesB at hb
 rcases List.mem_append.1 hb with hb | hb
 · obtain ⟨a, ha2, rfl⟩ := List.mem_map.1 hb
   exact (ancErr_ok (ancsErr_ok ha a ha2)).2.2
 · obtain ⟨f, hf2, hb⟩ := List.mem_flatMap.1 hb
   obtain ⟨pv, h⟩ := fldsErr_each hf f hf2
   exact (fldE_ok h).1 b hb
/-- The boxes of the first fields. -/
def boxesTo (la : List Anc) (fs : List Fld) (i : Nat) : List Bx := boxesB la (fs.take i)
theorem boxesTo_succ {la : List Anc} {fs : List Fld} {i : Nat} {f : Fld} (h : fs[i]? = some f) : boxesTo la fs (i + 1) = boxesTo la fs i ++ fldBoxes f := by
 unfold boxesTo boxesB
 rw [take_snoc h, List.flatMap_append, List.append_assoc]
 simp
theorem overB_end {l : List Bx} : overB (l.take l.length) (l.drop l.length) = false := by rw [List.drop_length]; rfl
end Go.Proofs.YthobmednnocklaaGreatDoor


/-! forms and bedref2: the small functions on kinds and boxes. -/
namespace Go.Proofs.YthobmednnocklaaGreatDoor
open Go.RowKit

set_option maxHeartbeats 400000 in
theorem hasMarks_any (k : Int) (w : World) : Calls Tryz.prog 121 #[.int .i64 k] w fun e w' => e = .returned (.bool (marksB k)) ∧ w = w' := by
 unfold marksB
 by_cases h1 : k = 3 <;> by_cases h2 : k = 4
 all_goals
  go_enter Tryz.func121, Tryz.ntmps121
  go_wp2
  go_ret
  exact ⟨by simp [*], rfl⟩
set_option maxHeartbeats 400000 in
theorem marksR_any (k : Int) (w : World) : Calls Tryz.prog 79 #[.int .i64 k] w fun e w' => e = .returned (.bool (marksB k)) ∧ w = w' := by
 unfold marksB
 by_cases h1 : k = 3 <;> by_cases h2 : k = 4
 all_goals
  go_enter Tryz.func79, Tryz.ntmps79
  go_wp2
  go_ret
  exact ⟨by simp [*], rfl⟩
set_option maxHeartbeats 400000 in
theorem usesOther_any (k : Int) (w : World) : Calls Tryz.prog 201 #[.int .i64 k] w fun e w' => e = .returned (.bool (twoB k)) ∧ w = w' := by
 unfold twoB
 by_cases h1 : k = 4 <;> by_cases h2 : k = 5
 all_goals
  go_enter Tryz.func201, Tryz.ntmps201
  go_wp2
  go_ret
  exact ⟨by simp [*], rfl⟩
set_option maxHeartbeats 400000 in
theorem usesText_any (k : Int) (w : World) : Calls Tryz.prog 203 #[.int .i64 k] w fun e w' => e = .returned (.bool (textK k)) ∧ w = w' := by
 unfold textK
 by_cases h1 : k = 3 <;> by_cases h2 : k = 6
 all_goals
  go_enter Tryz.func203, Tryz.ntmps203
  go_wp2
  go_ret
  exact ⟨by simp [*], rfl⟩
set_option maxRecDepth 100000 in
set_option maxHeartbeats 400000 in
theorem anchorBox_any (a : Anc) (w : World) : Calls Tryz.prog 119 #[a.val] w fun e w' => e = .returned a.box.val ∧ Bl w w' := by
 unfold Anc.val Bx.val Anc.box
 let w1 := ((w).alloc (.cells #[.int .i64 a.W, .int .i64 a.H, .slice a.A a.m a.c, .int .i64 a.X, .int .i64 a.Y] 141)).alloc (.cells #[.int .i64 0, .int .i64 0, .int .i64 0, .int .i64 0] 26)
 have w1b : Bl w w1 := ((Bl.refl w).alloc _).alloc _
 have w11 : Blk w1 (w.heap.size) 141 #[.int .i64 a.W, .int .i64 a.H, .slice a.A a.m a.c, .int .i64 a.X, .int .i64 a.Y] := by
  have h0 := Blk.new (w) 141 #[.int .i64 a.W, .int .i64 a.H, .slice a.A a.m a.c, .int .i64 a.X, .int .i64 a.Y]
  exact (h0.alloc _)
 have w12 : Blk w1 (w.heap.size + 1) 26 #[.int .i64 0, .int .i64 0, .int .i64 0, .int .i64 0] := by
  have h0 := Blk.new ((w).alloc (.cells #[.int .i64 a.W, .int .i64 a.H, .slice a.A a.m a.c, .int .i64 a.X, .int .i64 a.Y] 141)) 26 #[.int .i64 0, .int .i64 0, .int .i64 0, .int .i64 0]
  simp only [World.size_alloc] at h0
  exact h0
 have k1 := w11.all5
 have k2 := w12.all4
 go_enter Tryz.func119, Tryz.ntmps119
 go_wp2_with fail
 refine bodyPost_ret (v := .agg #[.int .i64 a.X, .int .i64 a.Y, .int .i64 a.W, .int .i64 a.H]) (by simp [results, Tryz.results119, go_sem]) rfl ⟨rfl, ?_⟩
 repeat' (first | exact Bl.refl _ | refine Bl.setCell ?_ (by simp) _ | refine Bl.alloc ?_ _)
set_option maxRecDepth 100000 in
set_option maxHeartbeats 2000000 in
theorem overlap_any (a b : Bx) (w : World) (ha : a.Ok) (hb : b.Ok) : Calls Tryz.prog 124 #[a.val, b.val] w fun e w' => e = .returned (.bool (a.over b)) ∧ Bl w w' := by
 unfold Bx.val Bx.over
 obtain ⟨⟨a1, a2⟩, ⟨a3, a4⟩, ⟨a5, a6⟩, ⟨a7, a8⟩⟩ := ha
 obtain ⟨⟨b1, b2⟩, ⟨b3, b4⟩, ⟨b5, b6⟩, ⟨b7, b8⟩⟩ := hb
 obtain ⟨aX, aY, aW, aH⟩ := a
 obtain ⟨bX, bY, bW, bH⟩ := b
 simp only at *
 let w1 := ((w).alloc (.cells #[.int .i64 aX, .int .i64 aY, .int .i64 aW, .int .i64 aH] 26)).alloc (.cells #[.int .i64 bX, .int .i64 bY, .int .i64 bW, .int .i64 bH] 26)
 have w1b : Bl w w1 := ((Bl.refl w).alloc _).alloc _
 have w11 : Blk w1 (w.heap.size) 26 #[.int .i64 aX, .int .i64 aY, .int .i64 aW, .int .i64 aH] := by
  have h0 := Blk.new (w) 26 #[.int .i64 aX, .int .i64 aY, .int .i64 aW, .int .i64 aH]
  exact (h0.alloc _)
 have w12 : Blk w1 (w.heap.size + 1) 26 #[.int .i64 bX, .int .i64 bY, .int .i64 bW, .int .i64 bH] := by
  have h0 := Blk.new ((w).alloc (.cells #[.int .i64 aX, .int .i64 aY, .int .i64 aW, .int .i64 aH] 26)) 26 #[.int .i64 bX, .int .i64 bY, .int .i64 bW, .int .i64 bH]
  simp only [World.size_alloc] at h0
  exact h0
 have k1 := w11.all4
 have k2 := w12.all4
 have W1b := Lib.hid w1b
 by_cases h1 : aX < bX + bW
 · by_cases h2 : bX < aX + aW
   · by_cases h3 : aY < bY + bH
     · by_cases h4 : bY < aY + aH
       all_goals
        go_enter Tryz.func124, Tryz.ntmps124
        go_wp2_with fail
        go_ret
        exact ⟨by first | (simp [*]; done) | (simp; intros; omega), W1b.out⟩
     · go_enter Tryz.func124, Tryz.ntmps124
       go_wp2_with fail
       go_ret
       exact ⟨by first | (simp [*]; done) | (simp; intros; omega), W1b.out⟩
   · go_enter Tryz.func124, Tryz.ntmps124
     go_wp2_with fail
     go_ret
     exact ⟨by first | (simp [*]; done) | (simp; intros; omega), W1b.out⟩
 · go_enter Tryz.func124, Tryz.ntmps124
   go_wp2_with fail
   go_ret
   exact ⟨by first | (simp [*]; done) | (simp; intros; omega), W1b.out⟩
set_option maxRecDepth 100000 in
set_option maxHeartbeats 2000000 in
theorem overlapR_any (a b : Bx) (w : World) (ha : a.Ok) (hb : b.Ok) : Calls Tryz.prog 72 #[a.val, b.val] w fun e w' => e = .returned (.bool (a.over b)) ∧ Bl w w' := by
 unfold Bx.val Bx.over
 obtain ⟨⟨a1, a2⟩, ⟨a3, a4⟩, ⟨a5, a6⟩, ⟨a7, a8⟩⟩ := ha
 obtain ⟨⟨b1, b2⟩, ⟨b3, b4⟩, ⟨b5, b6⟩, ⟨b7, b8⟩⟩ := hb
 obtain ⟨aX, aY, aW, aH⟩ := a
 obtain ⟨bX, bY, bW, bH⟩ := b
 simp only at *
 let w1 := ((w).alloc (.cells #[.int .i64 aX, .int .i64 aY, .int .i64 aW, .int .i64 aH] 26)).alloc (.cells #[.int .i64 bX, .int .i64 bY, .int .i64 bW, .int .i64 bH] 26)
 have w1b : Bl w w1 := ((Bl.refl w).alloc _).alloc _
 have w11 : Blk w1 (w.heap.size) 26 #[.int .i64 aX, .int .i64 aY, .int .i64 aW, .int .i64 aH] := by
  have h0 := Blk.new (w) 26 #[.int .i64 aX, .int .i64 aY, .int .i64 aW, .int .i64 aH]
  exact (h0.alloc _)
 have w12 : Blk w1 (w.heap.size + 1) 26 #[.int .i64 bX, .int .i64 bY, .int .i64 bW, .int .i64 bH] := by
  have h0 := Blk.new ((w).alloc (.cells #[.int .i64 aX, .int .i64 aY, .int .i64 aW, .int .i64 aH] 26)) 26 #[.int .i64 bX, .int .i64 bY, .int .i64 bW, .int .i64 bH]
  simp only [World.size_alloc] at h0
  exact h0
 have k1 := w11.all4
 have k2 := w12.all4
 have W1b := Lib.hid w1b
 by_cases h1 : aX < bX + bW
 · by_cases h2 : bX < aX + aW
   · by_cases h3 : aY < bY + bH
     · by_cases h4 : bY < aY + aH
       all_goals
        go_enter Tryz.func72, Tryz.ntmps72
        go_wp2_with fail
        go_ret
        exact ⟨by first | (simp [*]; done) | (simp; intros; omega), W1b.out⟩
     · go_enter Tryz.func72, Tryz.ntmps72
       go_wp2_with fail
       go_ret
       exact ⟨by first | (simp [*]; done) | (simp; intros; omega), W1b.out⟩
   · go_enter Tryz.func72, Tryz.ntmps72
     go_wp2_with fail
     go_ret
     exact ⟨by first | (simp [*]; done) | (simp; intros; omega), W1b.out⟩
 · go_enter Tryz.func72, Tryz.ntmps72
   go_wp2_with fail
   go_ret
   exact ⟨by first | (simp [*]; done) | (simp; intros; omega), W1b.out⟩
end Go.Proofs.YthobmednnocklaaGreatDoor


/-! slices.IndexFunc, slices.ContainsFunc at boxes, fields and values. -/
namespace Go.Proofs.YthobmednnocklaaGreatDoor
open Go.RowKit

def Vlu.val (v : Vlu) : Value := .agg #[.string ⟨v.field.toArray⟩, .string ⟨v.text.toArray⟩, .slice v.M v.marks.length v.mc, .int .i64 v.sure]
/-- A function value that tests elements. -/
def TestsG {α : Type} (f : α → Value) (P : Program) (k : FuncId) (cap : Array Value) (w : World) (ls : List α) (p : α → Bool) : Prop :=
 (∀ args w, (callFunc k args).run P w = .ok (.enter k args) w) ∧ ∀ wx l, Bl w wx → l ∈ ls → Calls P k (#[f l] ++ cap) wx fun e w' => e = .returned (.bool (p l)) ∧ Bl wx w'
theorem TestsG.bl {α : Type} {f : α → Value} {P : Program} {k : FuncId} {cap : Array Value} {w w' : World} {ls : List α} {p : α → Bool} (h : TestsG f P k cap w ls p) (hb : Bl w w') : TestsG f P k cap w' ls p := ⟨h.1, fun wx l hx hl => h.2 wx l (hb.trans hx) hl⟩
/-- The first element that is met. -/
def FirstG {α : Type} (ls : List α) (p : α → Bool) (i : Int) : Prop :=
 (i = -1 ∧ ∀ l ∈ ls, p l = false) ∨ ∃ (j : Nat) (l : α), i = (j : Int) ∧ ls[j]? = some l ∧ p l = true ∧ ∀ j' l', j' < j → ls[j']? = some l' → p l' = false
theorem FirstG.some_iff {α : Type} {ls : List α} {p : α → Bool} {i : Int} (h : FirstG ls p i) : 0 ≤ i ↔ ∃ l ∈ ls, p l = true := by
 rcases h with ⟨rfl, h⟩ | ⟨j, l, rfl, hl, hp, _⟩
 · constructor
   · intro h2; omega
   · rintro ⟨l, hl, hp⟩; rw [h l hl] at hp; cases hp
 · exact ⟨fun _ => ⟨l, List.mem_of_getElem? hl, hp⟩, fun _ => Int.natCast_nonneg j⟩

set_option maxRecDepth 100000 in
set_option maxHeartbeats 1000000 in
theorem bxIndex_any (L : Option Addr) (c : Nat) (ls : List Bx) (k : FuncId) (cap : Array Value) (p : Bx → Bool) (w : World) (hL : BxsAt w L ls) (hk : TestsG Bx.val Tryz.prog k cap w ls p) (hn : ls.length ≤ 9223372036854775807) :
 Calls Tryz.prog 200 #[.slice L ls.length c, .func (.func k) #[] cap] w fun e w' => ∃ i : Int, e = .returned (.int .i64 i) ∧ FirstG ls p i ∧ Bl w w' := by
 have hent := hk.1
 have HL := Lib.hid hL; have HK := Lib.hid hk
 clear hL hk
 go_enter Tryz.func200, Tryz.ntmps200
 go_wp2_with fail
 go_loopw [8] (fun u wr => ∃ i : Nat, i ≤ ls.length ∧ u = .int .i64 i ∧ Bl w wr ∧ ∀ j l, j < i → ls[j]? = some l → p l = false) (fun u _ => ls.length - (RowKit.intOf u).toNat)
 case atStart => exact ⟨0, Nat.zero_le _, rfl, Bl.refl _, fun j l hj => absurd hj (Nat.not_lt_zero _)⟩
 case round =>
  obtain ⟨i, hi, rfl, hbr, hno⟩ := hrel
  have HNo := Lib.hid hno
  clear hno
  by_cases hlt : i < ls.length
  · have hg : ls[i]? = some ls[i] := List.getElem?_eq_getElem hlt
    obtain ⟨l, hl⟩ : ∃ l, l = ls[i] := ⟨_, rfl⟩
    rw [← hl] at hg
    obtain ⟨ad, rfl, k1, k2, k3, k4⟩ := (HL.out.bl hbr).at_ hg
    have hcall := HK.out.2 wr l hbr (List.mem_of_getElem? hg)
    have Hcall := Lib.hid hcall; have HG := Lib.hid hg; have HBr := Lib.hid hbr
    clear hcall hg hl hbr
    go_wp2_with fail
    refine Hcall.out.mono ?_
    rintro e w1 ⟨rfl, hb1⟩
    have HB1 := Lib.hid (HBr.out.trans hb1)
    clear hb1
    cases hp : p l
    · have HP := Lib.hid hp
      clear hp
      go_wp2_with fail
      exact ⟨⟨i + 1, hlt, by go_num, HB1.out, fun j l' hj hl' => by
       rcases Nat.lt_succ_iff_lt_or_eq.1 hj with h | rfl
       · exact HNo.out j l' h hl'
       · rw [HG.out] at hl'
         obtain rfl := Option.some.inj hl'
         exact HP.out⟩, by simp [RowKit.intOf]; omega⟩
    · have HP := Lib.hid hp
      clear hp
      go_wp2_with fail
      go_ret
      exact ⟨_, rfl, Or.inr ⟨i, l, rfl, HG.out, HP.out, fun j' l' hj hl' => HNo.out j' l' hj hl'⟩, HB1.out⟩
  · obtain rfl : i = ls.length := by omega
    go_wp2_with fail
    go_ret
    exact ⟨_, rfl, Or.inl ⟨rfl, fun l hl => by
     obtain ⟨j, hj⟩ := List.getElem?_of_mem hl
     exact HNo.out j l (List.getElem?_eq_some_iff.1 hj).1 hj⟩, hbr⟩
set_option maxHeartbeats 1000000 in
theorem bxContains_any (L : Option Addr) (c : Nat) (ls : List Bx) (k : FuncId) (cap : Array Value) (p : Bx → Bool) (w : World) (hL : BxsAt w L ls) (hk : TestsG Bx.val Tryz.prog k cap w ls p) (hn : ls.length ≤ 9223372036854775807) :
 Calls Tryz.prog 122 #[.slice L ls.length c, .func (.func k) #[] cap] w fun e w' => e = .returned (.bool (decide (∃ l ∈ ls, p l = true))) ∧ Bl w w' := by
 have Hc := Lib.hid (bxIndex_any L c ls k cap p w hL hk hn)
 clear hL hk
 go_enter Tryz.func122, Tryz.ntmps122
 go_wp2_with fail
 refine Hc.out.mono ?_
 rintro e w1 ⟨i, rfl, hi, hb⟩
 have Hi := Lib.hid hi.some_iff
 clear hi
 go_wp2_with fail
 go_ret
 exact ⟨ret_bool (decide_eq_decide.2 Hi.out), hb⟩

set_option maxRecDepth 100000 in
set_option maxHeartbeats 1000000 in
theorem fldIndex_any (L : Option Addr) (c : Nat) (ls : List Fld) (k : FuncId) (cap : Array Value) (p : Fld → Bool) (w : World) (hL : FldsAt w L ls) (hk : TestsG Fld.val Tryz.prog k cap w ls p) (hn : ls.length ≤ 9223372036854775807) :
 Calls Tryz.prog 126 #[.slice L ls.length c, .func (.func k) #[] cap] w fun e w' => ∃ i : Int, e = .returned (.int .i64 i) ∧ FirstG ls p i ∧ Bl w w' := by
 have hent := hk.1
 have HL := Lib.hid hL; have HK := Lib.hid hk
 clear hL hk
 go_enter Tryz.func126, Tryz.ntmps126
 go_wp2_with fail
 go_loopw [8] (fun u wr => ∃ i : Nat, i ≤ ls.length ∧ u = .int .i64 i ∧ Bl w wr ∧ ∀ j l, j < i → ls[j]? = some l → p l = false) (fun u _ => ls.length - (RowKit.intOf u).toNat)
 case atStart => exact ⟨0, Nat.zero_le _, rfl, Bl.refl _, fun j l hj => absurd hj (Nat.not_lt_zero _)⟩
 case round =>
  obtain ⟨i, hi, rfl, hbr, hno⟩ := hrel
  have HNo := Lib.hid hno
  clear hno
  by_cases hlt : i < ls.length
  · have hg : ls[i]? = some ls[i] := List.getElem?_eq_getElem hlt
    obtain ⟨l, hl⟩ : ∃ l, l = ls[i] := ⟨_, rfl⟩
    rw [← hl] at hg
    obtain ⟨ad, rfl, k1, k2, k3, k4, k5, k6, k7, k8, k9⟩ := (HL.out.bl hbr).at_ hg
    have hcall := HK.out.2 wr l hbr (List.mem_of_getElem? hg)
    have Hcall := Lib.hid hcall; have HG := Lib.hid hg; have HBr := Lib.hid hbr
    clear hcall hg hl hbr
    go_wp2_with fail
    refine Hcall.out.mono ?_
    rintro e w1 ⟨rfl, hb1⟩
    have HB1 := Lib.hid (HBr.out.trans hb1)
    clear hb1
    cases hp : p l
    · have HP := Lib.hid hp
      clear hp
      go_wp2_with fail
      exact ⟨⟨i + 1, hlt, by go_num, HB1.out, fun j l' hj hl' => by
       rcases Nat.lt_succ_iff_lt_or_eq.1 hj with h | rfl
       · exact HNo.out j l' h hl'
       · rw [HG.out] at hl'
         obtain rfl := Option.some.inj hl'
         exact HP.out⟩, by simp [RowKit.intOf]; omega⟩
    · have HP := Lib.hid hp
      clear hp
      go_wp2_with fail
      go_ret
      exact ⟨_, rfl, Or.inr ⟨i, l, rfl, HG.out, HP.out, fun j' l' hj hl' => HNo.out j' l' hj hl'⟩, HB1.out⟩
  · obtain rfl : i = ls.length := by omega
    go_wp2_with fail
    go_ret
    exact ⟨_, rfl, Or.inl ⟨rfl, fun l hl => by
     obtain ⟨j, hj⟩ := List.getElem?_of_mem hl
     exact HNo.out j l (List.getElem?_eq_some_iff.1 hj).1 hj⟩, hbr⟩
set_option maxHeartbeats 1000000 in
theorem fldContains_any (L : Option Addr) (c : Nat) (ls : List Fld) (k : FuncId) (cap : Array Value) (p : Fld → Bool) (w : World) (hL : FldsAt w L ls) (hk : TestsG Fld.val Tryz.prog k cap w ls p) (hn : ls.length ≤ 9223372036854775807) :
 Calls Tryz.prog 136 #[.slice L ls.length c, .func (.func k) #[] cap] w fun e w' => e = .returned (.bool (decide (∃ l ∈ ls, p l = true))) ∧ Bl w w' := by
 have Hc := Lib.hid (fldIndex_any L c ls k cap p w hL hk hn)
 clear hL hk
 go_enter Tryz.func136, Tryz.ntmps136
 go_wp2_with fail
 refine Hc.out.mono ?_
 rintro e w1 ⟨i, rfl, hi, hb⟩
 have Hi := Lib.hid hi.some_iff
 clear hi
 go_wp2_with fail
 go_ret
 exact ⟨ret_bool (decide_eq_decide.2 Hi.out), hb⟩

set_option maxRecDepth 100000 in
set_option maxHeartbeats 1000000 in
theorem vluIndex_any (L : Option Addr) (c : Nat) (ls : List Vlu) (k : FuncId) (cap : Array Value) (p : Vlu → Bool) (w : World) (hL : VlusAt w L ls) (hk : TestsG Vlu.val Tryz.prog k cap w ls p) (hn : ls.length ≤ 9223372036854775807) :
 Calls Tryz.prog 227 #[.slice L ls.length c, .func (.func k) #[] cap] w fun e w' => ∃ i : Int, e = .returned (.int .i64 i) ∧ FirstG ls p i ∧ Bl w w' := by
 have hent := hk.1
 have HL := Lib.hid hL; have HK := Lib.hid hk
 clear hL hk
 go_enter Tryz.func227, Tryz.ntmps227
 go_wp2_with fail
 go_loopw [8] (fun u wr => ∃ i : Nat, i ≤ ls.length ∧ u = .int .i64 i ∧ Bl w wr ∧ ∀ j l, j < i → ls[j]? = some l → p l = false) (fun u _ => ls.length - (RowKit.intOf u).toNat)
 case atStart => exact ⟨0, Nat.zero_le _, rfl, Bl.refl _, fun j l hj => absurd hj (Nat.not_lt_zero _)⟩
 case round =>
  obtain ⟨i, hi, rfl, hbr, hno⟩ := hrel
  have HNo := Lib.hid hno
  clear hno
  by_cases hlt : i < ls.length
  · have hg : ls[i]? = some ls[i] := List.getElem?_eq_getElem hlt
    obtain ⟨l, hl⟩ : ∃ l, l = ls[i] := ⟨_, rfl⟩
    rw [← hl] at hg
    obtain ⟨ad, rfl, k1, k2, k3, k4⟩ := (HL.out.bl hbr).at_ hg
    have hcall := HK.out.2 wr l hbr (List.mem_of_getElem? hg)
    have Hcall := Lib.hid hcall; have HG := Lib.hid hg; have HBr := Lib.hid hbr
    clear hcall hg hl hbr
    go_wp2_with fail
    refine Hcall.out.mono ?_
    rintro e w1 ⟨rfl, hb1⟩
    have HB1 := Lib.hid (HBr.out.trans hb1)
    clear hb1
    cases hp : p l
    · have HP := Lib.hid hp
      clear hp
      go_wp2_with fail
      exact ⟨⟨i + 1, hlt, by go_num, HB1.out, fun j l' hj hl' => by
       rcases Nat.lt_succ_iff_lt_or_eq.1 hj with h | rfl
       · exact HNo.out j l' h hl'
       · rw [HG.out] at hl'
         obtain rfl := Option.some.inj hl'
         exact HP.out⟩, by simp [RowKit.intOf]; omega⟩
    · have HP := Lib.hid hp
      clear hp
      go_wp2_with fail
      go_ret
      exact ⟨_, rfl, Or.inr ⟨i, l, rfl, HG.out, HP.out, fun j' l' hj hl' => HNo.out j' l' hj hl'⟩, HB1.out⟩
  · obtain rfl : i = ls.length := by omega
    go_wp2_with fail
    go_ret
    exact ⟨_, rfl, Or.inl ⟨rfl, fun l hl => by
     obtain ⟨j, hj⟩ := List.getElem?_of_mem hl
     exact HNo.out j l (List.getElem?_eq_some_iff.1 hj).1 hj⟩, hbr⟩
set_option maxHeartbeats 1000000 in
theorem vluContains_any (L : Option Addr) (c : Nat) (ls : List Vlu) (k : FuncId) (cap : Array Value) (p : Vlu → Bool) (w : World) (hL : VlusAt w L ls) (hk : TestsG Vlu.val Tryz.prog k cap w ls p) (hn : ls.length ≤ 9223372036854775807) :
 Calls Tryz.prog 144 #[.slice L ls.length c, .func (.func k) #[] cap] w fun e w' => e = .returned (.bool (decide (∃ l ∈ ls, p l = true))) ∧ Bl w w' := by
 have Hc := Lib.hid (vluIndex_any L c ls k cap p w hL hk hn)
 clear hL hk
 go_enter Tryz.func144, Tryz.ntmps144
 go_wp2_with fail
 refine Hc.out.mono ?_
 rintro e w1 ⟨i, rfl, hi, hb⟩
 have Hi := Lib.hid hi.some_iff
 clear hi
 go_wp2_with fail
 go_ret
 exact ⟨ret_bool (decide_eq_decide.2 Hi.out), hb⟩
end Go.Proofs.YthobmednnocklaaGreatDoor


/-! forms and bedref2: fields by their names; anchors that are right; boxes that overlap. -/
namespace Go.Proofs.YthobmednnocklaaGreatDoor
open Go.RowKit

theorem Blk.all9 {w : World} {g : Nat} {t : TypeId} {a b c d e f h i j : Value} (k : Blk w g t #[a, b, c, d, e, f, h, i, j]) : w.cell? ⟨g, 0, none⟩ = some a ∧ w.cell? ⟨g, 1, none⟩ = some b ∧ w.cell? ⟨g, 2, none⟩ = some c ∧ w.cell? ⟨g, 3, none⟩ = some d ∧ w.cell? ⟨g, 4, none⟩ = some e ∧ w.cell? ⟨g, 5, none⟩ = some f ∧ w.cell? ⟨g, 6, none⟩ = some h ∧ w.cell? ⟨g, 7, none⟩ = some i ∧ w.cell? ⟨g, 8, none⟩ = some j ∧ ∀ i, w.frozen? ⟨g, i, none⟩ = false :=
 ⟨k.cell 0, k.cell 1, k.cell 2, k.cell 3, k.cell 4, k.cell 5, k.cell 6, k.cell 7, k.cell 8, k.frozen⟩
theorem Blk.all8 {w : World} {g : Nat} {t : TypeId} {a b c d e f h i : Value} (k : Blk w g t #[a, b, c, d, e, f, h, i]) : w.cell? ⟨g, 0, none⟩ = some a ∧ w.cell? ⟨g, 1, none⟩ = some b ∧ w.cell? ⟨g, 2, none⟩ = some c ∧ w.cell? ⟨g, 3, none⟩ = some d ∧ w.cell? ⟨g, 4, none⟩ = some e ∧ w.cell? ⟨g, 5, none⟩ = some f ∧ w.cell? ⟨g, 6, none⟩ = some h ∧ w.cell? ⟨g, 7, none⟩ = some i ∧ ∀ i, w.frozen? ⟨g, i, none⟩ = false :=
 ⟨k.cell 0, k.cell 1, k.cell 2, k.cell 3, k.cell 4, k.cell 5, k.cell 6, k.cell 7, k.frozen⟩
def isName (nm : List UInt8) (x : Fld) : Bool := decide (x.name = nm)
set_option maxRecDepth 100000 in
set_option maxHeartbeats 1000000 in
theorem fieldAt1_any (b : Nat) (nm : List UInt8) (x : Fld) (w : World) (hb : Blk w b 9 #[.string ⟨nm.toArray⟩]) :
 Calls Tryz.prog 127 #[x.val, .pointer (some ⟨b, 0, none⟩)] w fun e w' => e = .returned (.bool (isName nm x)) ∧ Bl w w' := by
 have k1 := hb.all1
 have hlt := hb.lt
 unfold Fld.val isName
 by_cases he : x.name = nm
 · rw [decide_eq_true he]
   go_enter Tryz.func127, Tryz.ntmps127
   go_wp2_with fail
   go_ret
   exact ⟨by simp [he], (Bl.refl _).alloc _⟩
 · rw [decide_eq_false he]
   go_enter Tryz.func127, Tryz.ntmps127
   go_wp2_with fail
   go_ret
   exact ⟨by simp [he], (Bl.refl _).alloc _⟩
theorem fieldAt1_tests (b : Nat) (nm : List UInt8) (ls : List Fld) (w : World) (hb : Blk w b 9 #[.string ⟨nm.toArray⟩]) : TestsG Fld.val Tryz.prog 127 #[.pointer (some ⟨b, 0, none⟩)] w ls (isName nm) :=
 ⟨enters Tryz.func127 (by kernel_rfl) rfl, fun wy y hy _ => fieldAt1_any b nm y wy (hb.bl hy)⟩
set_option maxRecDepth 100000 in
set_option maxHeartbeats 1000000 in
theorem fieldAt_any (f : Frm) (nm : List UInt8) (w : World) (hF : FrmAt w f) : Calls Tryz.prog 66 #[f.val, .string ⟨nm.toArray⟩] w fun e w' => ∃ i : Int, e = .returned (.int .i64 i) ∧ FirstG f.lf (isName nm) i ∧ Bl w w' := by
 let w1 := ((w).alloc (.cells #[.string ⟨f.name.toArray⟩, .int .i64 f.W, .int .i64 f.H, .int .i64 f.reach, .int .i64 f.dark, .slice f.AL f.la.length f.ac, .slice f.FL f.lf.length f.fc, .slice f.RL f.lr.length f.rc] 75)).alloc (.cells #[.string ⟨nm.toArray⟩] 9)
 have w1b : Bl w w1 := ((Bl.refl w).alloc _).alloc _
 have w11 : Blk w1 (w.heap.size) 75 #[.string ⟨f.name.toArray⟩, .int .i64 f.W, .int .i64 f.H, .int .i64 f.reach, .int .i64 f.dark, .slice f.AL f.la.length f.ac, .slice f.FL f.lf.length f.fc, .slice f.RL f.lr.length f.rc] := by
  have h0 := Blk.new (w) 75 #[.string ⟨f.name.toArray⟩, .int .i64 f.W, .int .i64 f.H, .int .i64 f.reach, .int .i64 f.dark, .slice f.AL f.la.length f.ac, .slice f.FL f.lf.length f.fc, .slice f.RL f.lr.length f.rc]
  exact (h0.alloc _)
 have w12 : Blk w1 (w.heap.size + 1) 9 #[.string ⟨nm.toArray⟩] := by
  have h0 := Blk.new ((w).alloc (.cells #[.string ⟨f.name.toArray⟩, .int .i64 f.W, .int .i64 f.H, .int .i64 f.reach, .int .i64 f.dark, .slice f.AL f.la.length f.ac, .slice f.FL f.lf.length f.fc, .slice f.RL f.lr.length f.rc] 75)) 9 #[.string ⟨nm.toArray⟩]
  simp only [World.size_alloc] at h0
  exact h0
 have hix := fldIndex_any f.FL f.fc f.lf 127 #[.pointer (some ⟨w.heap.size + 1, 0, none⟩)] (isName nm) w1 (hF.flds.bl w1b) (fieldAt1_tests _ _ _ _ w12) hF.fn.2
 have Hix := Lib.hid hix
 have k1 := w11.all8
 have k2 := w12.all1
 unfold Frm.val
 clear hix hF
 go_enter Tryz.func66, Tryz.ntmps66
 go_wp2_with fail
 refine Hix.out.mono ?_
 rintro e w2 ⟨i, rfl, hi, hb⟩
 have Hi := Lib.hid hi
 clear hi
 go_wp2_with fail
 go_ret
 exact ⟨i, rfl, Hi.out, w1b.trans hb⟩
set_option maxRecDepth 100000 in
set_option maxHeartbeats 1000000 in
theorem fieldOf1_any (b : Nat) (nm : List UInt8) (x : Fld) (w : World) (hb : Blk w b 9 #[.string ⟨nm.toArray⟩]) :
 Calls Tryz.prog 146 #[x.val, .pointer (some ⟨b, 0, none⟩)] w fun e w' => e = .returned (.bool (isName nm x)) ∧ Bl w w' := by
 have k1 := hb.all1
 have hlt := hb.lt
 unfold Fld.val isName
 by_cases he : x.name = nm
 · rw [decide_eq_true he]
   go_enter Tryz.func146, Tryz.ntmps146
   go_wp2_with fail
   go_ret
   exact ⟨by simp [he], (Bl.refl _).alloc _⟩
 · rw [decide_eq_false he]
   go_enter Tryz.func146, Tryz.ntmps146
   go_wp2_with fail
   go_ret
   exact ⟨by simp [he], (Bl.refl _).alloc _⟩
theorem fieldOf1_tests (b : Nat) (nm : List UInt8) (ls : List Fld) (w : World) (hb : Blk w b 9 #[.string ⟨nm.toArray⟩]) : TestsG Fld.val Tryz.prog 146 #[.pointer (some ⟨b, 0, none⟩)] w ls (isName nm) :=
 ⟨enters Tryz.func146 (by kernel_rfl) rfl, fun wy y hy _ => fieldOf1_any b nm y wy (hb.bl hy)⟩
set_option maxRecDepth 100000 in
set_option maxHeartbeats 1000000 in
theorem fieldOf_any (f : Frm) (nm : List UInt8) (w : World) (hF : FrmAt w f) : Calls Tryz.prog 76 #[f.val, .string ⟨nm.toArray⟩] w fun e w' => ∃ i : Int, e = .returned (.int .i64 i) ∧ FirstG f.lf (isName nm) i ∧ Bl w w' := by
 let w1 := ((w).alloc (.cells #[.string ⟨f.name.toArray⟩, .int .i64 f.W, .int .i64 f.H, .int .i64 f.reach, .int .i64 f.dark, .slice f.AL f.la.length f.ac, .slice f.FL f.lf.length f.fc, .slice f.RL f.lr.length f.rc] 75)).alloc (.cells #[.string ⟨nm.toArray⟩] 9)
 have w1b : Bl w w1 := ((Bl.refl w).alloc _).alloc _
 have w11 : Blk w1 (w.heap.size) 75 #[.string ⟨f.name.toArray⟩, .int .i64 f.W, .int .i64 f.H, .int .i64 f.reach, .int .i64 f.dark, .slice f.AL f.la.length f.ac, .slice f.FL f.lf.length f.fc, .slice f.RL f.lr.length f.rc] := by
  have h0 := Blk.new (w) 75 #[.string ⟨f.name.toArray⟩, .int .i64 f.W, .int .i64 f.H, .int .i64 f.reach, .int .i64 f.dark, .slice f.AL f.la.length f.ac, .slice f.FL f.lf.length f.fc, .slice f.RL f.lr.length f.rc]
  exact (h0.alloc _)
 have w12 : Blk w1 (w.heap.size + 1) 9 #[.string ⟨nm.toArray⟩] := by
  have h0 := Blk.new ((w).alloc (.cells #[.string ⟨f.name.toArray⟩, .int .i64 f.W, .int .i64 f.H, .int .i64 f.reach, .int .i64 f.dark, .slice f.AL f.la.length f.ac, .slice f.FL f.lf.length f.fc, .slice f.RL f.lr.length f.rc] 75)) 9 #[.string ⟨nm.toArray⟩]
  simp only [World.size_alloc] at h0
  exact h0
 have hix := fldIndex_any f.FL f.fc f.lf 146 #[.pointer (some ⟨w.heap.size + 1, 0, none⟩)] (isName nm) w1 (hF.flds.bl w1b) (fieldOf1_tests _ _ _ _ w12) hF.fn.2
 have Hix := Lib.hid hix
 have k1 := w11.all8
 have k2 := w12.all1
 unfold Frm.val
 clear hix hF
 go_enter Tryz.func76, Tryz.ntmps76
 go_wp2_with fail
 refine Hix.out.mono ?_
 rintro e w2 ⟨i, rfl, hi, hb⟩
 have Hi := Lib.hid hi
 clear hi
 go_wp2_with fail
 go_ret
 exact ⟨i, rfl, Hi.out, w1b.trans hb⟩
/-! ### boxes -/
set_option maxRecDepth 100000 in
set_option maxHeartbeats 1000000 in
theorem check1_any (g : Nat) (a b : Bx) (w : World) (hg : Blk w g 26 #[.int .i64 a.X, .int .i64 a.Y, .int .i64 a.W, .int .i64 a.H]) (ha : a.Ok) (hb : b.Ok) :
 Calls Tryz.prog 123 #[b.val, .pointer (some ⟨g, 0, none⟩)] w fun e w' => e = .returned (.bool (a.over b)) ∧ Bl w w' := by
 have hov := fun wx => overlap_any a b wx ha hb
 have Hov := Lib.hid hov
 have hlt := hg.lt
 unfold Bx.val
 let w1 := (w).alloc (.cells #[.int .i64 b.X, .int .i64 b.Y, .int .i64 b.W, .int .i64 b.H] 26)
 have w1b : Bl w w1 := (Bl.refl w).alloc _
 have w11 : Blk w1 (w.heap.size) 26 #[.int .i64 b.X, .int .i64 b.Y, .int .i64 b.W, .int .i64 b.H] := by
  have h0 := Blk.new (w) 26 #[.int .i64 b.X, .int .i64 b.Y, .int .i64 b.W, .int .i64 b.H]
  exact h0
 have k1 := hg.all4
 have k2 := w11.all4
 clear hov ha hb
 go_enter Tryz.func123, Tryz.ntmps123
 go_wp2_with fail
 refine (Hov.out _).mono ?_
 rintro e w2 ⟨rfl, hb2⟩
 go_wp2_with fail
 go_ret
 exact ⟨rfl, w1b.trans hb2⟩
theorem check1_tests (g : Nat) (a : Bx) (ls : List Bx) (w : World) (hg : Blk w g 26 #[.int .i64 a.X, .int .i64 a.Y, .int .i64 a.W, .int .i64 a.H]) (ha : a.Ok) (hl : ∀ b ∈ ls, b.Ok) : TestsG Bx.val Tryz.prog 123 #[.pointer (some ⟨g, 0, none⟩)] w ls a.over :=
 ⟨enters Tryz.func123 (by kernel_rfl) rfl, fun wy y hy hm => check1_any g a y wy (hg.bl hy) ha (hl y hm)⟩
end Go.Proofs.YthobmednnocklaaGreatDoor


/-! The plain law of forms.Best: where anchors are found, how far a page is from a form, the form that a page fits best. -/
namespace Go.Proofs.YthobmednnocklaaGreatDoor
open Go.RowKit

def places (r : Nat) : Nat := (2 * r + 1) * (2 * r + 1)
/-! ### sums -/
/-! ### the best of several forms -/
/-! ### errors of several forms -/
end Go.Proofs.YthobmednnocklaaGreatDoor
