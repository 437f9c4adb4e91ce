/- The plain law of the form of a text: no space first, none last, no two side by side; what is wrong with a text. -/
import Derived.Test.YtjelhdpcaileiaaGreatDoorS16
import Derived.Test.YtjelhdpcaileiaaGreatDoorS2
import Derived.Lib.IndexMore

namespace Go.Proofs.YtjelhdpcaileiaaGreatDoor
open Go.RowKit

def formB (t : List UInt8) : Bool := Lib.hasPrefix t [32] || (Lib.hasSuffix t [32] || Lib.contains t [32, 32])
theorem no_first {t : List UInt8} (h : formB t = false) {b : UInt8} {r : List UInt8} (e : t = b :: r) : b ≠ 32 := fun hb => by
  unfold formB at h
  simp only [Bool.or_eq_false_iff] at h
  have h1 := h.1
  rw [e, hb] at h1
  unfold Lib.hasPrefix at h1
  simp at h1
theorem no_last {t : List UInt8} (h : formB t = false) {p : List UInt8} (e : t = p ++ [32]) : False := by
  unfold formB at h
  simp only [Bool.or_eq_false_iff] at h
  have h1 := h.2.1
  unfold Lib.hasSuffix at h1
  have h2 : [32] <:+ t := ⟨p, e.symm⟩
  rw [List.isSuffixOf_iff_suffix.2 h2] at h1
  cases h1
theorem no_twice {t : List UInt8} (h : formB t = false) {p r : List UInt8} (e : t = p ++ 32 :: 32 :: r) : False := by
  unfold formB at h
  simp only [Bool.or_eq_false_iff] at h
  have h1 := h.2.2
  unfold Lib.contains at h1
  have h2 := of_decide_eq_false h1
  rcases Lib.index_spec t [32, 32] with ⟨-, h3⟩ | ⟨i, h3, -⟩
  · have h4 := h3 p.length (by rw [e]; simp)
    have h5 : Lib.occAt t [32, 32] p.length = true := by
      rw [Lib.occAt_iff_take _ _ _ (by rw [e]; simp)]
      rw [e]
      simp
    rw [h5] at h4
    cases h4
  · omega
/-- What is wrong with a text that is set, but for the size. -/
def lineErr (t : List UInt8) : Int := firstNZ [whenI (decide (t = [])) 9, whenI (decide (200 < t.length)) 4, whenI (formB t) 2]
def textErr (ls : List Ltr) (t : List UInt8) : Int := firstNZ [lineErr t, whenI (!(spelt ls t).isSome) 10]
theorem lineErr_nil {t : List UInt8} (h : t = []) : lineErr t = 9 := by subst h; rfl
theorem lineErr_long {t : List UInt8} (h : t ≠ []) (h2 : 200 < t.length) : lineErr t = 4 := by
  unfold lineErr
  rw [decide_eq_false h, decide_eq_true h2]
  rfl
theorem lineErr_form {t : List UInt8} (h : t ≠ []) (h2 : ¬ 200 < t.length) (h3 : formB t = true) : lineErr t = 2 := by
  unfold lineErr
  rw [decide_eq_false h, decide_eq_false h2, h3]
  rfl
theorem lineErr_ok {t : List UInt8} (h : t ≠ []) (h2 : ¬ 200 < t.length) (h3 : formB t = false) : lineErr t = 0 := by
  unfold lineErr
  rw [decide_eq_false h, decide_eq_false h2, h3]
  rfl
theorem textErr_line {ls : List Ltr} {t : List UInt8} (h : lineErr t ≠ 0) : textErr ls t = lineErr t := by
  show (if lineErr t = 0 then _ else lineErr t) = _
  rw [if_neg h]
theorem textErr_none {ls : List Ltr} {t : List UInt8} (h : lineErr t = 0) (h2 : spelt ls t = none) : textErr ls t = 10 := by
  unfold textErr
  rw [h, h2]
  rfl
theorem textErr_some {ls : List Ltr} {t : List UInt8} {l : List (Option Nat)} (h : lineErr t = 0) (h2 : spelt ls t = some l) : textErr ls t = 0 := by
  unfold textErr
  rw [h, h2]
  rfl
theorem textErr_zero {ls : List Ltr} {t : List UInt8} (h : textErr ls t = 0) : lineErr t = 0 ∧ ∃ l, spelt ls t = some l := by
  by_cases h1 : lineErr t = 0
  · refine ⟨h1, ?_⟩
    cases h2 : spelt ls t with
    | none => rw [textErr_none h1 h2] at h; cases h
    | some l => exact ⟨l, rfl⟩
  · rw [textErr_line h1] at h
    exact absurd h h1
theorem lineErr_zero {t : List UInt8} (h : lineErr t = 0) : t ≠ [] ∧ t.length ≤ 200 ∧ formB t = false := by
  by_cases h1 : t = []
  · rw [lineErr_nil h1] at h; cases h
  · by_cases h2 : 200 < t.length
    · rw [lineErr_long h1 h2] at h; cases h
    · cases h3 : formB t with
      | true => rw [lineErr_form h1 h2 h3] at h; cases h
      | false => exact ⟨h1, by omega, rfl⟩
/-- Letters with their columns, flat. -/
def placedCells (pl : List (Nat × Nat)) : List Value := pl.flatMap fun p => [.int .i64 p.1, .int .i64 p.2]
theorem placed_append (a b : List (Nat × Nat)) : placedCells (a ++ b) = placedCells a ++ placedCells b := by unfold placedCells; rw [List.flatMap_append]
theorem placed_at {pl : List (Nat × Nat)} {i : Nat} {p : Nat × Nat} (h : pl[i]? = some p) (j : Nat) (hj : j < 2) : (placedCells pl)[i * 2 + j]? = ([.int .i64 p.1, .int .i64 p.2] : List Value)[j]? := by
  induction pl generalizing i with
  | nil => simp at h
  | cons x l ih =>
    unfold placedCells
    rw [List.flatMap_cons]
    rcases i with _ | i
    · simp only [List.getElem?_cons_zero, Option.some.injEq] at h
      subst h
      rw [List.getElem?_append_left (by show 0 * 2 + j < 2; omega)]
      simp
    · rw [List.getElem?_append_right (by show 2 ≤ (i + 1) * 2 + j; omega)]
      have e : (i + 1) * 2 + j - 2 = i * 2 + j := by omega
      show (placedCells l)[(i + 1) * 2 + j - 2]? = _
      rw [e]
      exact ih (by simpa using h)
theorem putAt_none {ls : List Ltr} {gap sp : Nat} {s : Spot} (l : List (Option Nat)) : putAt ls gap sp s (l ++ [none]) = putAt ls gap sp s l := by rw [putAt_append]; simp [putAt]
theorem putAt_some {ls : List Ltr} {gap sp : Nat} {s : Spot} (l : List (Option Nat)) (k : Nat) : putAt ls gap sp s (l ++ [some k]) = putAt ls gap sp s l ++ [(k, spotOf gap (goAll ls gap sp s l))] := by rw [putAt_append]; rfl
theorem goAll_none {ls : List Ltr} {gap sp : Nat} {s : Spot} (l : List (Option Nat)) : goAll ls gap sp s (l ++ [none]) = ((goAll ls gap sp s l).1 + sp, false) := by rw [goAll_append]; rfl
theorem goAll_some {ls : List Ltr} {gap sp : Nat} {s : Spot} (l : List (Option Nat)) (k : Nat) : goAll ls gap sp s (l ++ [some k]) = (spotOf gap (goAll ls gap sp s l) + wdOf ls k, true) := by rw [goAll_append]; rfl

end Go.Proofs.YtjelhdpcaileiaaGreatDoor
