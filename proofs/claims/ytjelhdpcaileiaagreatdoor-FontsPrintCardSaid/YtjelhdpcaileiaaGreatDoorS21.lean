/- A font whose error is 0 is right; Width and Set of any font. -/
import Derived.Test.YtjelhdpcaileiaaGreatDoorS20
import Derived.Test.YtjelhdpcaileiaaGreatDoorS11

namespace Go.Proofs.YtjelhdpcaileiaaGreatDoor
open Go.RowKit Go.Shelf

theorem right_of {nm : Bool} {ht gap sp : Int} {ls : List Ltr} (h : fontErr nm ht gap sp ls = 0) : ∃ ht' gap' sp' : Nat, ht = (ht' : Int) ∧ gap = (gap' : Int) ∧ sp = (sp' : Int) ∧ Right ht' gap' sp' ls := by
  obtain ⟨⟨-, hrg, hgs, hl0, hl2, h1, h2⟩, hl⟩ := fontErr_zero h
  have hrg2 : 1 ≤ gap ∧ gap ≤ 16 ∧ 1 ≤ sp ∧ sp ≤ 64 := by
    unfold rangeB at hrg
    simp only [Bool.and_eq_true] at hrg
    have h1 := inB_true.1 hrg.2.1
    have h2 := inB_true.1 hrg.2.2
    exact ⟨h1.1, h1.2, h2.1, h2.2⟩
  obtain ⟨ht', rfl⟩ : ∃ n : Nat, ht = (n : Int) := ⟨ht.toNat, by omega⟩
  obtain ⟨gap', rfl⟩ : ∃ n : Nat, gap = (n : Int) := ⟨gap.toNat, by omega⟩
  obtain ⟨sp', rfl⟩ : ∃ n : Nat, sp = (n : Int) := ⟨sp.toNat, by omega⟩
  have key : ∀ k (hk : k < ls.length), (ls[k]'hk).W = (wdOf ls k : Int) ∧ 1 ≤ wdOf ls k ∧ wdOf ls k ≤ 64 ∧ (ls[k]'hk).H = (ht' : Int) ∧ (ls[k]'hk).m = wdOf ls k * ht' ∧ textB (ls[k]'hk).text = true := fun k hk => by
    obtain ⟨a1, a2, a3, a4⟩ := hl _ (List.getElem_mem hk)
    obtain ⟨W, H, e1, e2, e3, -, -, -⟩ := page_nat a2
    have hsz := sizeErr_zero (pageErr_zero a2).1
    have hw : wdOf ls k = W := by rw [wdOf_at (List.getElem?_eq_getElem hk), e1]; rfl
    have hh : H = ht' := by rw [e2] at a3; omega
    rw [hw]
    refine ⟨e1, by omega, by omega, a3, by rw [e3, hh], a1⟩
  refine ⟨ht', gap', sp', rfl, rfl, rfl, ⟨?_, by omega, by omega, by omega, by omega, by omega, fun k hk => ⟨(key k hk).1, (key k hk).2.1, (key k hk).2.2.1⟩, fun k hk => (key k hk).2.2.2.1, fun k hk => (key k hk).2.2.2.2.1⟩⟩
  intro k hk
  have ht := (key k hk).2.2.2.2.2
  rw [txtOf_at (List.getElem?_eq_getElem hk)]
  unfold textB at ht
  simp only [Bool.and_eq_true, decide_eq_true_eq] at ht
  refine ⟨ht.2.1, ht.2.2, fun b hb e => ?_⟩
  have := ht.1 b hb
  rw [e] at this
  exact absurd this.1 (by decide)
theorem some_at {w : World} {L : Option Addr} {ls : List Ltr} (h : LtrsAt w L ls) (hn : 1 ≤ ls.length) : ∃ adl, L = some adl := by
  obtain ⟨ad, e, -⟩ := h.1.2 (by omega)
  exact ⟨ad, e⟩
/-- What is wrong with a text that a font is to set. -/
def fsetErr (fe : Int) (ls : List Ltr) (ht gap sp : Int) (t : List UInt8) : Int := if fe = 0 then setErr ls ht.toNat gap.toNat sp.toNat t else fe
def WidthRes (fe : Int) (ls : List Ltr) (ht gap sp : Int) (t : List UInt8) (w : World) (e : Ending) (w' : World) : Prop := ∃ x, e = .returned (.tuple #[.int .i64 x, .int .i64 (fsetErr fe ls ht gap sp t)]) ∧ (fsetErr fe ls ht gap sp t ≠ 0 → x = 0) ∧ (fsetErr fe ls ht gap sp t = 0 → x = (wideOf ls gap.toNat sp.toNat t : Int)) ∧ Bl w w'
end Go.Proofs.YtjelhdpcaileiaaGreatDoor
