/- Fonts of the same letters (but for where their pixels lie, and what a bad page holds) have the same error. -/
import Derived.Test.YtahfkahfaiidgaaGreatDoorMClaimForms1
import Derived.Test.YtahfkahfaiidgaaGreatDoorMClaimForms12
import Derived.Test.YtahfkahfaiidgaaGreatDoorMClaimForms9
import Derived.Lib.SliceRun
import Derived.Shelf.Strings.Cut
import Derived.Lib.CutLaws
import Derived.Lib.SlTrimSet

namespace Go.Proofs.YtahfkahfaiidgaaGreatDoor
open Go.RowKit

/-- A page: its size, where its pixels lie, and what they are. -/
structure Pg where
  W : Int
  H : Int
  A : Option Addr
  m : Nat
  c : Nat
  bs : List Bool
def Pg.cells (p : Pg) : List Value := [.int .i64 p.W, .int .i64 p.H, .slice p.A p.m p.c]
def Pg.val (p : Pg) : Value := .agg #[.int .i64 p.W, .int .i64 p.H, .slice p.A p.m p.c]
def pgCells (ps : List Pg) : List Value := ps.flatMap Pg.cells
theorem pgCells_at {ps : List Pg} {i : Nat} {p : Pg} (h : ps[i]? = some p) (j : Nat) (hj : j < 3) : (pgCells ps)[i * 3 + j]? = p.cells[j]? := by
  induction ps generalizing i with
  | nil => simp at h
  | cons x ps ih =>
    unfold pgCells
    rw [List.flatMap_cons]
    rcases i with _ | i
    · simp only [List.getElem?_cons_zero, Option.some.injEq] at h
      subst h
      rw [List.getElem?_append_left (by show 0 * 3 + j < 3; omega)]
      simp
    · rw [List.getElem?_append_right (by show 3 ≤ (i + 1) * 3 + j; omega)]
      have e : (i + 1) * 3 + j - x.cells.length = i * 3 + j := by
        show (i + 1) * 3 + j - 3 = i * 3 + j
        omega
      rw [e]
      exact ih (by simpa using h)
/-- The pages lie there. -/
def PgsAt (w : World) (S : Option Addr) (ps : List Pg) : Prop := Reads w 3 S ps.length (pgCells ps) ∧ ∀ p ∈ ps, Reads w 1 p.A p.m (p.bs.map .bool)
theorem PgsAt.bl {w w' : World} {S : Option Addr} {ps : List Pg} (h : PgsAt w S ps) (hb : Bl w w') : PgsAt w' S ps := ⟨h.1.bl hb, fun p hp => (h.2 p hp).bl hb⟩
theorem PgsAt.at_ {w : World} {S : Option Addr} {ps : List Pg} {i : Nat} {p : Pg} (h : PgsAt w S ps) (hi : ps[i]? = some p) : ∃ ad, S = some ad ∧ w.cell? (ad.add (i * 3)) = some (.int .i64 p.W) ∧ w.cell? ⟨(ad.add (i * 3)).block, (ad.add (i * 3)).off + 1, none⟩ = some (.int .i64 p.H) ∧
    w.cell? ⟨(ad.add (i * 3)).block, (ad.add (i * 3)).off + 2, none⟩ = some (.slice p.A p.m p.c) := by
  have hlt : i < ps.length := (List.getElem?_eq_some_iff.1 hi).1
  obtain ⟨ad, e, hc⟩ := h.1.2 (by omega)
  have key : ∀ j v, j < 3 → p.cells[j]? = some v → w.cell? ((ad.add (i * 3)).add j) = some v := fun j v hj hv => by
    rw [add_of_add]
    exact hc _ _ (by rw [pgCells_at hi j hj]; exact hv)
  have k0 := key 0 _ (by omega) rfl
  have k1 := key 1 _ (by omega) rfl
  have k2 := key 2 _ (by omega) rfl
  rw [Addr.add_zero'] at k0
  rw [Addr.add_succ'] at k1 k2
  exact ⟨ad, e, k0, k1, k2⟩

/-! ### what is wrong with the samples -/
/-! ### the vote -/
end Go.Proofs.YtahfkahfaiidgaaGreatDoor


/-! Fonts of the same letters (but for where their pixels lie, and what a bad page holds) have the same error. -/
namespace Go.Proofs.YtahfkahfaiidgaaGreatDoor
open Go.RowKit

/-- All that an error is told by. -/
def Ltr.key (l : Ltr) : List UInt8 × Int × Int × Int × Nat × List Bool := (l.text, pageErr l.W l.H l.m, if pageErr l.W l.H l.m = 0 then (l.W, l.H, l.m, l.bs) else (0, 0, 0, []))
end Go.Proofs.YtahfkahfaiidgaaGreatDoor
