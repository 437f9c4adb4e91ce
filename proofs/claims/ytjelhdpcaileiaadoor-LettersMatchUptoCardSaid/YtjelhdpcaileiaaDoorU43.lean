/- The plain law of spelling: words are spelled by themselves. -/
import Derived.Test.YtjelhdpcaileiaaDoorU35
import Derived.Test.YtjelhdpcaileiaaDoorU42

namespace Go.Proofs.YtjelhdpcaileiaaDoor
open Go.RowKit

theorem prefix_word {a b p : List UInt8} (hp : ∀ x ∈ p, x ≠ 32) : Lib.hasPrefix (a ++ 32 :: b) p = Lib.hasPrefix a p := by
  unfold Lib.hasPrefix
  rw [Bool.eq_iff_iff, List.isPrefixOf_iff_prefix, List.isPrefixOf_iff_prefix]
  constructor
  · rintro ⟨r, hr⟩
    rcases List.append_eq_append_iff.1 hr with ⟨m, h1, -⟩ | ⟨m, h1, h2⟩
    · exact ⟨m, h1.symm⟩
    · cases m with
      | nil => exact ⟨[], by rw [List.append_nil]; rw [List.append_nil] at h1; exact h1⟩
      | cons x m =>
        rw [List.cons_append] at h2
        injection h2 with h3 _
        exact absurd h3.symm (hp x (by rw [h1]; simp))
  · rintro ⟨r, hr⟩
    exact ⟨r ++ 32 :: b, by rw [← List.append_assoc, hr]⟩
theorem longest_word {ls : List Ltr} (hT : Texts ls) (a b : List UInt8) : ∀ i, i ≤ ls.length → longest ls (a ++ 32 :: b) i = longest ls a i
  | 0, _ => rfl
  | i + 1, hi => by
    have ih := longest_word hT a b i (by omega)
    unfold longest
    rw [ih, prefix_word (hT i (by omega)).2.2]
theorem headOf_word {ls : List Ltr} (hT : Texts ls) (a b : List UInt8) : headOf ls (a ++ 32 :: b) = headOf ls a := longest_word hT a b _ (Nat.le_refl _)
/-- What stands ahead of a space, the space, and what stands behind. -/
theorem spelt_words {ls : List Ltr} (hT : Texts ls) (b : List UInt8) : ∀ (n : Nat) (a : List UInt8), a.length ≤ n → spelt ls (a ++ 32 :: b) = (spelt ls a).bind fun x => (spelt ls b).map fun y => x ++ none :: y := by
  intro n
  induction n with
  | zero =>
    intro a h
    have : a = [] := List.eq_nil_of_length_eq_zero (by omega)
    subst this
    rw [List.nil_append, spelt_space, spelt_nil]
    cases spelt ls b <;> rfl
  | succ n ih =>
    intro a h
    cases a with
    | nil =>
      rw [List.nil_append, spelt_space, spelt_nil]
      cases spelt ls b <;> rfl
    | cons c a =>
      simp only [List.length_cons] at h
      by_cases hc : c = 32
      · subst hc
        rw [List.cons_append, spelt_space, spelt_space, ih a (by omega)]
        cases spelt ls a with
        | none => rfl
        | some x => cases spelt ls b <;> rfl
      · have hh := headOf_word hT (c :: a) b
        rw [List.cons_append] at hh ⊢
        by_cases hneg : headOf ls (c :: a) < 0
        · rw [spelt_none hc (by rw [hh]; exact hneg), spelt_none hc hneg]
          rfl
        · obtain ⟨k, hk, e, hp⟩ := headOf_in ls (c :: a) (by omega)
          rw [spelt_letter hT hc (hh.trans e) hk, spelt_letter hT hc e hk]
          have hl := hasPrefix_len hp
          have h1 := (hT k hk).1
          have hd : (c :: (a ++ 32 :: b)).drop (txtOf ls k).length = (c :: a).drop (txtOf ls k).length ++ 32 :: b := by
            rw [← List.cons_append, List.drop_append_of_le_length hl]
          rw [hd, ih _ (by rw [List.length_drop, List.length_cons]; omega)]
          cases spelt ls ((c :: a).drop (txtOf ls k).length) with
          | none => rfl
          | some x => cases spelt ls b <;> rfl
theorem spelt_word {ls : List Ltr} (hT : Texts ls) (a b : List UInt8) : spelt ls (a ++ 32 :: b) = (spelt ls a).bind fun x => (spelt ls b).map fun y => x ++ none :: y := spelt_words hT b _ a (Nat.le_refl _)
theorem joinW_append : ∀ (a : List (List UInt8)) (x : List UInt8), a ≠ [] → joinW (a ++ [x]) = joinW a ++ 32 :: x
  | [], _, h => absurd rfl h
  | [a], x, _ => rfl
  | a :: b :: l, x, _ => by
    have ih := joinW_append (b :: l) x (by simp)
    show a ++ 32 :: joinW (b :: l ++ [x]) = (a ++ 32 :: joinW (b :: l)) ++ 32 :: x
    rw [ih]
    simp
/-- Words of a right text: none is empty, none has a space, each is spelled. -/
def WordsOk (ls : List Ltr) (ws : List (List UInt8)) : Prop := ∀ x ∈ ws, x ≠ [] ∧ (∀ b ∈ x, b ≠ 32) ∧ (spelt ls x).isSome = true
theorem joinW_spelt {ls : List Ltr} (hT : Texts ls) : ∀ (ws : List (List UInt8)), WordsOk ls ws → (spelt ls (joinW ws)).isSome = true
  | [], _ => rfl
  | [x], h => (h x (by simp)).2.2
  | x :: y :: l, h => by
    have ih := joinW_spelt hT (y :: l) fun z hz => h z (List.mem_cons_of_mem _ hz)
    show (spelt ls (x ++ 32 :: joinW (y :: l))).isSome = true
    rw [spelt_word hT]
    obtain ⟨a, ha⟩ := Option.isSome_iff_exists.1 (h x (by simp)).2.2
    obtain ⟨b, hb⟩ := Option.isSome_iff_exists.1 ih
    rw [ha, hb]
    rfl

theorem formB_false {t : List UInt8} (h1 : ∀ r, t ≠ 32 :: r) (h2 : ∀ p, t ≠ p ++ [32]) (h3 : ∀ p r, t ≠ p ++ 32 :: 32 :: r) : formB t = false := by
  unfold formB
  rw [Bool.or_eq_false_iff, Bool.or_eq_false_iff]
  refine ⟨?_, ?_, ?_⟩
  · rw [Bool.eq_false_iff]
    intro h
    unfold Lib.hasPrefix at h
    obtain ⟨r, hr⟩ := List.isPrefixOf_iff_prefix.1 h
    exact h1 r hr.symm
  · rw [Bool.eq_false_iff]
    intro h
    unfold Lib.hasSuffix at h
    obtain ⟨p, hp⟩ := List.isSuffixOf_iff_suffix.1 h
    exact h2 p hp.symm
  · unfold Lib.contains
    rw [decide_eq_false_iff_not]
    intro h
    rcases Lib.index_spec t [32, 32] with ⟨h4, -⟩ | ⟨i, -, hi, ho, -⟩
    · omega
    · have hroom : i + 2 ≤ t.length := by
        rcases Lib.occAt_room ho with h5 | h5
        · exact h5
        · cases h5
      rw [Lib.occAt_iff_take _ _ _ hroom] at ho
      have ho2 : (t.drop i).take 2 = [32, 32] := by simpa using ho
      refine h3 (t.take i) (t.drop (i + 2)) ?_
      have e : t.drop i = [32, 32] ++ t.drop (i + 2) := by
        rw [← ho2, ← List.drop_drop, List.take_append_drop]
      conv => lhs; rw [← List.take_append_drop i t]
      rw [e]
      rfl
theorem joinW_first {ls : List Ltr} {ws : List (List UInt8)} (h : WordsOk ls ws) (r : List UInt8) : joinW ws ≠ 32 :: r := by
  intro e
  cases ws with
  | nil => cases e
  | cons x l =>
    obtain ⟨hx, hs, -⟩ := h x (by simp)
    cases x with
    | nil => exact hx rfl
    | cons c x =>
      have hc := hs c (by simp)
      cases l with
      | nil =>
        have e' : c :: x = 32 :: r := e
        injection e' with e1 _
        exact hc e1
      | cons y l =>
        have e' : c :: x ++ 32 :: joinW (y :: l) = 32 :: r := e
        rw [List.cons_append] at e'
        injection e' with e1 _
        exact hc e1
theorem joinW_twice {ls : List Ltr} : ∀ (ws : List (List UInt8)), WordsOk ls ws → ∀ p r, joinW ws ≠ p ++ 32 :: 32 :: r
  | [], _, p, r, e => by cases p <;> cases e
  | [x], h, p, r, e => by
    have e' : x = p ++ 32 :: 32 :: r := e
    exact (h x (by simp)).2.1 32 (by rw [e']; simp) rfl
  | x :: y :: l, h, p, r, e => by
    have e' : x ++ 32 :: joinW (y :: l) = p ++ 32 :: 32 :: r := e
    have h' : WordsOk ls (y :: l) := fun z hz => h z (List.mem_cons_of_mem _ hz)
    have hx := (h x (by simp)).2.1
    rcases List.append_eq_append_iff.1 e' with ⟨m, h1, h2⟩ | ⟨m, h1, h2⟩
    · cases m with
      | nil =>
        rw [List.nil_append] at h2
        injection h2 with _ h3
        exact joinW_first h' _ h3
      | cons c m =>
        rw [List.cons_append] at h2
        injection h2 with _ h3
        exact joinW_twice (y :: l) h' m r h3
    · cases m with
      | nil =>
        rw [List.nil_append] at h2
        injection h2 with _ h3
        exact joinW_first h' _ h3.symm
      | cons c m =>
        rw [List.cons_append] at h2
        injection h2 with h3 _
        exact hx c (by rw [h1]; simp) h3.symm
theorem joinW_last {ls : List Ltr} : ∀ (ws : List (List UInt8)), WordsOk ls ws → ∀ p, joinW ws ≠ p ++ [32]
  | [], _, p, e => by cases p <;> cases e
  | [x], h, p, e => by
    have e' : x = p ++ [32] := e
    exact (h x (by simp)).2.1 32 (by rw [e']; simp) rfl
  | x :: y :: l, h, p, e => by
    have e' : x ++ 32 :: joinW (y :: l) = p ++ [32] := e
    have h' : WordsOk ls (y :: l) := fun z hz => h z (List.mem_cons_of_mem _ hz)
    have hy := (h' y (by simp)).1
    have hx := (h x (by simp)).2.1
    have hne : joinW (y :: l) ≠ [] := by
      intro e
      cases l with
      | nil => exact hy e
      | cons z l => have e2 : y ++ 32 :: joinW (z :: l) = [] := e; cases y <;> cases e2
    rcases List.append_eq_append_iff.1 e' with ⟨m, h1, h2⟩ | ⟨m, h1, h2⟩
    · cases m with
      | nil =>
        rw [List.nil_append] at h2
        injection h2 with _ h3
        exact hne h3
      | cons c m =>
        rw [List.cons_append] at h2
        injection h2 with _ h3
        exact joinW_last (y :: l) h' m h3
    · cases m with
      | nil =>
        rw [List.nil_append] at h2
        injection h2 with _ h3
        exact hne h3.symm
      | cons c m =>
        rw [List.cons_append] at h2
        injection h2 with h3 _
        exact hx c (by rw [h1]; simp) h3.symm
theorem joinW_ne {ls : List Ltr} {ws : List (List UInt8)} (h : WordsOk ls ws) (hn : ws ≠ []) : joinW ws ≠ [] := by
  intro e
  cases ws with
  | nil => exact hn rfl
  | cons x l =>
    cases l with
    | nil => exact (h x (by simp)).1 e
    | cons y l => have e2 : x ++ 32 :: joinW (y :: l) = [] := e; cases x <;> cases e2
/-- Lines of words that are right are right. -/
theorem joinW_right {ls : List Ltr} (hT : Texts ls) {ws : List (List UInt8)} (h : WordsOk ls ws) (hn : ws ≠ []) (hl : (joinW ws).length ≤ 200) : textErr ls (joinW ws) = 0 := by
  have h1 := lineErr_ok (joinW_ne h hn) (by omega) (formB_false (joinW_first h) (joinW_last ws h) (joinW_twice ws h))
  obtain ⟨l, hl2⟩ := Option.isSome_iff_exists.1 (joinW_spelt hT ws h)
  exact textErr_some h1 hl2

end Go.Proofs.YtjelhdpcaileiaaDoor
