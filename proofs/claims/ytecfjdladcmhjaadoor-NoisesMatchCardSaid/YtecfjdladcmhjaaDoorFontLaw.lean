/- The plain law of fonts: what is wrong with one; how letters lie in memory. -/
import Derived.Test.YtecfjdladcmhjaaDoorCountLaw
import Derived.Test.YtecfjdladcmhjaaDoorOwn
import Derived.Test.YtecfjdladcmhjaaDoorPages
namespace Go.Proofs.YtecfjdladcmhjaaDoor
open Go.RowKit

/-- A letter: its text, its page's size, where the page's pixels lie, and what they are. -/
structure Ltr where
  text : List UInt8
  W : Int
  H : Int
  A : Option Addr
  m : Nat
  c : Nat
  bs : List Bool
def Ltr.cells (l : Ltr) : List Value := [.string ⟨l.text.toArray⟩, .int .i64 l.W, .int .i64 l.H, .slice l.A l.m l.c]
def ltrCells (ls : List Ltr) : List Value := ls.flatMap Ltr.cells
theorem ltrCells_len (ls : List Ltr) : (ltrCells ls).length = ls.length * 4 := by
  unfold ltrCells
  induction ls with
  | nil => rfl
  | cons l ls ih =>
    rw [List.flatMap_cons, List.length_append, ih, List.length_cons]
    show 4 + ls.length * 4 = (ls.length + 1) * 4
    omega
theorem ltrCells_append (a b : List Ltr) : ltrCells (a ++ b) = ltrCells a ++ ltrCells b := by unfold ltrCells; rw [List.flatMap_append]
theorem ltrCells_at {ls : List Ltr} {i : Nat} {l : Ltr} (h : ls[i]? = some l) (j : Nat) (hj : j < 4) : (ltrCells ls)[i * 4 + j]? = l.cells[j]? := by
  induction ls generalizing i with
  | nil => simp at h
  | cons x ls ih =>
    unfold ltrCells
    rw [List.flatMap_cons]
    rcases i with _ | i
    · simp only [List.getElem?_cons_zero, Option.some.injEq] at h
      subst h
      rw [List.getElem?_append_left (by show 0 * 4 + j < 4; omega)]
      simp
    · rw [List.getElem?_append_right (by show 4 ≤ (i + 1) * 4 + j; omega)]
      have e : (i + 1) * 4 + j - x.cells.length = i * 4 + j := by
        show (i + 1) * 4 + j - 4 = i * 4 + j
        omega
      rw [e]
      exact ih (by simpa using h)
/-- The letters lie there. -/
def LtrsAt (w : World) (L : Option Addr) (ls : List Ltr) : Prop := Reads w 4 L ls.length (ltrCells ls) ∧ ∀ l ∈ ls, Reads w 1 l.A l.m (l.bs.map .bool) ∧ l.text.length ≤ 9223372036854775807
theorem LtrsAt.bl {w w' : World} {L : Option Addr} {ls : List Ltr} (h : LtrsAt w L ls) (hb : Bl w w') : LtrsAt w' L ls := ⟨h.1.bl hb, fun l hl => ⟨(h.2 l hl).1.bl hb, (h.2 l hl).2⟩⟩
theorem LtrsAt.at_ {w : World} {L : Option Addr} {ls : List Ltr} {i : Nat} {l : Ltr} (h : LtrsAt w L ls) (hi : ls[i]? = some l) : ∃ ad, L = some ad ∧ w.cell? (ad.add (i * 4)) = some (.string ⟨l.text.toArray⟩) ∧ w.cell? ⟨(ad.add (i * 4)).block, (ad.add (i * 4)).off + 1, none⟩ = some (.int .i64 l.W) ∧
    w.cell? ⟨(ad.add (i * 4)).block, (ad.add (i * 4)).off + 2, none⟩ = some (.int .i64 l.H) ∧ w.cell? ⟨(ad.add (i * 4)).block, (ad.add (i * 4)).off + 3, none⟩ = some (.slice l.A l.m l.c) := by
  have hlt : i < ls.length := (List.getElem?_eq_some_iff.1 hi).1
  obtain ⟨ad, e, hc⟩ := h.1.2 (by omega)
  have key : ∀ j v, j < 4 → l.cells[j]? = some v → w.cell? ((ad.add (i * 4)).add j) = some v := fun j v hj hv => by
    rw [add_of_add]
    exact hc _ _ (by rw [ltrCells_at hi j hj]; exact hv)
  have k0 := key 0 _ (by omega) rfl
  have k1 := key 1 _ (by omega) rfl
  have k2 := key 2 _ (by omega) rfl
  have k3 := key 3 _ (by omega) rfl
  rw [Addr.add_zero'] at k0
  rw [Addr.add_succ'] at k1 k2 k3
  exact ⟨ad, e, k0, k1, k2, k3⟩
theorem LtrsAt.take {w : World} {L : Option Addr} {ls : List Ltr} (h : LtrsAt w L ls) (i : Nat) (hi : i ≤ ls.length) : LtrsAt w L (ls.take i) := by
  have hl : (ls.take i).length = i := by simp; omega
  refine ⟨⟨ltrCells_len _, fun hn => ?_⟩, fun l hm => h.2 l (List.mem_of_mem_take hm)⟩
  obtain ⟨ad, e, hc⟩ := h.1.2 (by omega)
  refine ⟨ad, e, fun j u hj => hc j u ?_⟩
  have e2 : ltrCells ls = ltrCells (ls.take i) ++ ltrCells (ls.drop i) := by rw [← ltrCells_append, List.take_append_drop]
  rw [e2, List.getElem?_append_left (List.getElem?_eq_some_iff.1 hj).1]
  exact hj

/-! ### what is wrong -/
def textB (l : List UInt8) : Bool := decide (∀ b ∈ l, 33 ≤ b.toNat ∧ b.toNat ≤ 126) && decide (1 ≤ l.length ∧ l.length ≤ 4)
/-- Does some column have no ink? -/
def bareB (bs : List Bool) (W H : Nat) : Bool := decide (∃ x, x < W ∧ colN bs W H x = 0)
def ltrErr (ht : Int) (prev : List (List UInt8)) (l : Ltr) : Int :=
  firstNZ [whenI (!textB l.text) 2, whenI (decide (l.text ∈ prev)) 6, pageErr l.W l.H l.m, whenI (l.H != ht) 11, whenI (decide (64 < l.W)) 4, whenI (bareB l.bs l.W.toNat l.H.toNat) 2]
def ltrsErr (ht : Int) : List (List UInt8) → List Ltr → Int
  | _, [] => 0
  | prev, l :: ls => if ltrErr ht prev l = 0 then ltrsErr ht (prev ++ [l.text]) ls else ltrErr ht prev l
theorem ltrsErr_go {ht : Int} {prev : List (List UInt8)} {l : Ltr} {ls : List Ltr} (h : ltrErr ht prev l = 0) : ltrsErr ht prev (l :: ls) = ltrsErr ht (prev ++ [l.text]) ls := by
  show (if ltrErr ht prev l = 0 then _ else _) = _
  rw [if_pos h]
theorem ltrsErr_stop {ht : Int} {prev : List (List UInt8)} {l : Ltr} {ls : List Ltr} (h : ltrErr ht prev l ≠ 0) : ltrsErr ht prev (l :: ls) = ltrErr ht prev l := by
  show (if ltrErr ht prev l = 0 then _ else _) = _
  rw [if_neg h]
def rangeB (ht gap sp : Int) : Bool := inB ht 1 64 && (inB gap 1 16 && inB sp 1 64)
def fontHead (nm : Bool) (ht gap sp : Int) (n : Nat) : Int := firstNZ [whenI (!nm) 5, whenI (!rangeB ht gap sp) 3, whenI (decide (sp ≤ gap)) 7, whenI (decide (n = 0)) 9, whenI (decide (200 < n)) 4]
def fontErr (nm : Bool) (ht gap sp : Int) (ls : List Ltr) : Int := if fontHead nm ht gap sp ls.length = 0 then ltrsErr ht [] ls else fontHead nm ht gap sp ls.length
/-- What is left of the letters, from the i-th on. -/
theorem ltrsErr_from {ht : Int} {ls : List Ltr} {i : Nat} {l : Ltr} (h : ls[i]? = some l) : ltrsErr ht ((ls.take i).map Ltr.text) (ls.drop i) = if ltrErr ht ((ls.take i).map Ltr.text) l = 0 then ltrsErr ht ((ls.take (i + 1)).map Ltr.text) (ls.drop (i + 1)) else ltrErr ht ((ls.take i).map Ltr.text) l := by
  have hlt : i < ls.length := (List.getElem?_eq_some_iff.1 h).1
  have e : ls.drop i = l :: ls.drop (i + 1) := by
    rw [List.drop_eq_getElem_cons hlt]
    congr 1
    exact (List.getElem?_eq_some_iff.1 h).2
  have e2 : ls.take (i + 1) = ls.take i ++ [l] := by rw [List.take_add_one, h]; rfl
  rw [e, e2, List.map_append]
  rfl

end Go.Proofs.YtecfjdladcmhjaaDoor
