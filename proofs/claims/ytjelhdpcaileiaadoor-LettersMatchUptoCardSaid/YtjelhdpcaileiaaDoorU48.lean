/- The plain law of a text's words, and of lines that are filled. -/
import Derived.Test.YtjelhdpcaileiaaDoorU43
import Derived.Test.YtjelhdpcaileiaaDoorU47
import Derived.Test.YtjelhdpcaileiaaDoorU42
import Derived.Lib.Split
import Derived.Lib.CountLaws

namespace Go.Proofs.YtjelhdpcaileiaaDoor
open Go.RowKit

def BadForm (t : List UInt8) : Prop := (∃ r, t = 32 :: r) ∨ (∃ p, t = p ++ [32]) ∨ ∃ p r, t = p ++ 32 :: 32 :: r
theorem bad_form {t : List UInt8} (h : formB t = false) : ¬ BadForm t := by
  rintro (⟨r, e⟩ | ⟨p, e⟩ | ⟨p, r, e⟩)
  · exact no_first h e rfl
  · exact no_last h e
  · exact no_twice h e
theorem bad_words : ∀ (ws : List (List UInt8)), [] ∈ ws → ws ≠ [[]] → BadForm (joinW ws)
  | [], h, _ => by cases h
  | [x], h, hn => absurd (by rw [List.mem_singleton.1 h]) hn
  | x :: y :: l, h, _ => by
    show BadForm (x ++ 32 :: joinW (y :: l))
    rcases List.mem_cons.1 h with rfl | h
    · exact .inl ⟨_, rfl⟩
    · by_cases e : y :: l = [[]]
      · rw [e]
        exact .inr (.inl ⟨x, rfl⟩)
      · rcases bad_words (y :: l) h e with ⟨r, hr⟩ | ⟨p, hp⟩ | ⟨p, r, hr⟩
        · rw [hr]
          exact .inr (.inr ⟨x, r, rfl⟩)
        · rw [hp]
          exact .inr (.inl ⟨x ++ 32 :: p, by simp⟩)
        · rw [hr]
          exact .inr (.inr ⟨x ++ 32 :: p, r, by simp⟩)
theorem words_spelt {ls : List Ltr} (hT : Texts ls) : ∀ (ws : List (List UInt8)), (spelt ls (joinW ws)).isSome = true → ∀ x ∈ ws, (spelt ls x).isSome = true
  | [], _, x, hx => by cases hx
  | [y], h, x, hx => by rw [List.mem_singleton.1 hx]; exact h
  | y :: z :: l, h, x, hx => by
    have h' : (spelt ls (y ++ 32 :: joinW (z :: l))).isSome = true := h
    rw [spelt_word hT] at h'
    cases hy : spelt ls y with
    | none => rw [hy] at h'; cases h'
    | some a =>
      rw [hy] at h'
      cases hj : spelt ls (joinW (z :: l)) with
      | none => rw [hj] at h'; cases h'
      | some b =>
        rcases List.mem_cons.1 hx with rfl | hx
        · rw [hy]; rfl
        · exact words_spelt hT (z :: l) (by rw [hj]; rfl) x hx
/-- The words of a right text. -/
theorem words_ok {ls : List Ltr} (hT : Texts ls) {t : List UInt8} (h : textErr ls t = 0) : wordsOf t ≠ [] ∧ joinW (wordsOf t) = t ∧ WordsOk ls (wordsOf t) := by
  obtain ⟨h1, l, hl⟩ := textErr_zero h
  obtain ⟨h2, -, h3⟩ := lineErr_zero h1
  obtain ⟨a1, a2, a3⟩ := wordsOf_spec _ t (Nat.le_refl _)
  refine ⟨a1, a2, fun x hx => ⟨fun e => ?_, a3 x hx, words_spelt hT _ (by rw [a2, hl]; rfl) x hx⟩⟩
  refine bad_form h3 ?_
  rw [← a2]
  refine bad_words _ (by rw [← e]; exact hx) fun e2 => ?_
  rw [e2] at a2
  exact h2 a2.symm

/-! ### lines that are filled -/
theorem joinW_more (a : List UInt8) (l : List (List UInt8)) : (joinW l).length ≤ (joinW (a :: l)).length := by
  cases l with
  | nil => exact Nat.zero_le _
  | cons y l =>
    show _ ≤ (a ++ 32 :: joinW (y :: l)).length
    rw [List.length_append, List.length_cons]
    omega
theorem joinW_drop (a b : List (List UInt8)) : (joinW b).length ≤ (joinW (a ++ b)).length := by
  induction a with
  | nil => exact Nat.le_refl _
  | cons x a ih => exact Nat.le_trans ih (joinW_more x (a ++ b))
theorem joinW_take : ∀ (b c : List (List UInt8)), (joinW b).length ≤ (joinW (b ++ c)).length
  | [], c => Nat.zero_le _
  | [x], [] => Nat.le_refl _
  | [x], y :: c => by
    show x.length ≤ (x ++ 32 :: joinW (y :: c)).length
    rw [List.length_append]
    omega
  | x :: y :: b, c => by
    have ih := joinW_take (y :: b) c
    show (x ++ 32 :: joinW (y :: b)).length ≤ (x ++ 32 :: joinW (y :: b ++ c)).length
    rw [List.length_append, List.length_append, List.length_cons, List.length_cons]
    omega
/-- The next word goes to the last line, where there is room for it. -/
def fitStep (ls : List Ltr) (gap sp : Nat) (most : Int) (out : List (List UInt8)) (w : List UInt8) : List (List UInt8) :=
  match out.getLast? with
  | none => out ++ [w]
  | some l => if (wideOf ls gap sp (l ++ 32 :: w) : Int) ≤ most then out.dropLast ++ [l ++ 32 :: w] else out ++ [w]
def fitTo (ls : List Ltr) (gap sp : Nat) (most : Int) (ws : List (List UInt8)) (i : Nat) : List (List UInt8) := (ws.take i).foldl (fitStep ls gap sp most) []
theorem fitTo_succ {ls : List Ltr} {gap sp : Nat} {most : Int} {ws : List (List UInt8)} {i : Nat} {w : List UInt8} (h : ws[i]? = some w) : fitTo ls gap sp most ws (i + 1) = fitStep ls gap sp most (fitTo ls gap sp most ws i) w := by
  unfold fitTo
  rw [List.take_add_one, h, List.foldl_append]
  rfl
theorem fitStep_nil (ls : List Ltr) (gap sp : Nat) (most : Int) (w : List UInt8) : fitStep ls gap sp most [] w = [w] := rfl
theorem fitStep_last (ls : List Ltr) (gap sp : Nat) (most : Int) (pre : List (List UInt8)) (l w : List UInt8) : fitStep ls gap sp most (pre ++ [l]) w = if (wideOf ls gap sp (l ++ 32 :: w) : Int) ≤ most then pre ++ [l ++ 32 :: w] else pre ++ [l] ++ [w] := by
  unfold fitStep
  rw [List.getLast?_append]
  simp
/-- The lines so far are groups of words, one behind the other. -/
def Groups (ws : List (List UInt8)) (i : Nat) (out : List (List UInt8)) : Prop := ∃ gs : List (List (List UInt8)), out = gs.map joinW ∧ gs.flatten = ws.take i ∧ ∀ g ∈ gs, g ≠ []
theorem groups_fit (ls : List Ltr) (gap sp : Nat) (most : Int) (ws : List (List UInt8)) : ∀ i, i ≤ ws.length → Groups ws i (fitTo ls gap sp most ws i)
  | 0, _ => ⟨[], rfl, rfl, fun g hg => by cases hg⟩
  | i + 1, hi => by
    obtain ⟨gs, h1, h2, h3⟩ := groups_fit ls gap sp most ws i (by omega)
    have hg : ws[i]? = some ws[i] := List.getElem?_eq_getElem (by omega)
    rw [fitTo_succ hg]
    have hall : (gs ++ [[ws[i]]]).flatten = ws.take (i + 1) := by rw [List.flatten_append, h2, List.take_add_one, hg]; rfl
    have hnew : Groups ws (i + 1) (fitTo ls gap sp most ws i ++ [ws[i]]) := ⟨gs ++ [[ws[i]]], by rw [h1, List.map_append]; rfl, hall, fun g hgm => by
      rcases List.mem_append.1 hgm with h | h
      · exact h3 g h
      · rw [List.mem_singleton.1 h]; simp⟩
    rcases List.eq_nil_or_concat gs with rfl | ⟨gs', g, rfl⟩
    · rw [h1] at hnew ⊢
      exact hnew
    · rw [List.concat_eq_append] at *
      have hout : fitTo ls gap sp most ws i = gs'.map joinW ++ [joinW g] := by rw [h1, List.map_append]; rfl
      rw [hout, fitStep_last]
      split
      · have hgn : g ≠ [] := h3 g (by simp)
        refine ⟨gs' ++ [g ++ [ws[i]]], ?_, ?_, fun x hx => ?_⟩
        · rw [List.map_append, ← joinW_append g _ hgn]; rfl
        · rw [← hall, List.flatten_append, List.flatten_append, List.flatten_append]
          simp
        · rcases List.mem_append.1 hx with h | h
          · exact h3 x (by simp [h])
          · rw [List.mem_singleton.1 h]; simp
      · rw [hout] at hnew
        exact hnew
/-- The last line with the next word is a right text. -/
theorem fit_right {ls : List Ltr} (hT : Texts ls) {gap sp : Nat} {most : Int} {t : List UInt8} (h : textErr ls t = 0) {i : Nat} {w : List UInt8} (hw : (wordsOf t)[i]? = some w) {pre : List (List UInt8)} {l : List UInt8} (hl : fitTo ls gap sp most (wordsOf t) i = pre ++ [l]) : textErr ls (l ++ 32 :: w) = 0 ∧ (l ++ 32 :: w).length ≤ 200 := by
  obtain ⟨-, hj, hok⟩ := words_ok hT h
  obtain ⟨h1, -⟩ := textErr_zero h
  obtain ⟨-, ht2, -⟩ := lineErr_zero h1
  have hi : i < (wordsOf t).length := (List.getElem?_eq_some_iff.1 hw).1
  obtain ⟨gs, e1, e2, e3⟩ := groups_fit ls gap sp most (wordsOf t) i (by omega)
  rw [hl] at e1
  rcases List.eq_nil_or_concat gs with rfl | ⟨gs', g, rfl⟩
  · simp at e1
  · rw [List.concat_eq_append] at *
    rw [List.map_append] at e1
    have e4 := List.append_inj' e1 rfl
    have e5 : l = joinW g := by have := e4.2; simpa using this
    have hgn : g ≠ [] := e3 g (by simp)
    have e6 : l ++ 32 :: w = joinW (g ++ [w]) := by rw [e5, joinW_append g w hgn]
    have e7 : wordsOf t = gs'.flatten ++ (g ++ [w]) ++ (wordsOf t).drop (i + 1) := by
      conv => lhs; rw [← List.take_append_drop (i + 1) (wordsOf t)]
      rw [List.take_add_one, hw, ← e2]
      simp
    have hlen : (joinW (g ++ [w])).length ≤ 200 := by
      have h5 := joinW_drop gs'.flatten ((g ++ [w]) ++ (wordsOf t).drop (i + 1))
      have h6 := joinW_take (g ++ [w]) ((wordsOf t).drop (i + 1))
      rw [← List.append_assoc, ← e7, hj] at h5
      omega
    rw [e6]
    refine ⟨joinW_right hT (fun x hx => hok x (by rw [e7]; simp only [List.mem_append]; exact .inl (.inr (by simpa using hx)))) (by simp) hlen, hlen⟩

end Go.Proofs.YtjelhdpcaileiaaDoor
