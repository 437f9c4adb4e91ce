/- The beginning of a page as bytes, as page.behind and bedref2.head read it. -/
import Derived.Test.YtjelhdpcaileiaaGreatDoorS5
import Derived.Lib.IndexMore
import Derived.Lib.Strings

namespace Go.Proofs.YtjelhdpcaileiaaGreatDoor
open Go.RowKit

theorem occ_one (s : List UInt8) (c : UInt8) (j : Nat) : Lib.occAt s [c] j = decide (s[j]? = some c) := by
  unfold Lib.occAt
  rw [← List.head?_drop]
  cases h : s.drop j with
  | nil => rfl
  | cons a l =>
    show (c == a && ([] : List UInt8).isPrefixOf l) = decide (some a = some c)
    rw [show ([] : List UInt8).isPrefixOf l = true by cases l <;> rfl, Bool.and_true, Bool.eq_iff_iff, beq_iff_eq, decide_eq_true_eq]
    constructor
    · rintro rfl; rfl
    · intro h; exact (Option.some.inj h).symm
theorem cut_at {a b : List UInt8} {c : UInt8} (h : c ∉ a) : Lib.cut (a ++ c :: b) [c] = (a, b, true) := by
  have hi : Lib.index (a ++ c :: b) [c] = (a.length : Int) := by
    refine Lib.index_first (by rw [List.length_append]; omega) ?_ fun j hj => ?_
    · rw [occ_one, List.getElem?_append_right (Nat.le_refl _), Nat.sub_self]
      exact decide_eq_true rfl
    · rw [occ_one]
      refine decide_eq_false fun e => h ?_
      rw [List.getElem?_append_left hj] at e
      exact List.mem_of_getElem? e
  unfold Lib.cut
  rw [hi, if_pos (by omega), Int.toNat_natCast, List.take_left' rfl]
  have : (a ++ c :: b).drop (a.length + [c].length) = b := by
    rw [show a ++ c :: b = (a ++ [c]) ++ b by simp]
    exact List.drop_left' (by simp)
  rw [this]
theorem cut_no {s : List UInt8} {c : UInt8} (h : c ∉ s) : Lib.cut s [c] = (s, [], false) := by
  have hi : Lib.index s [c] = -1 := Lib.index_none fun j _ => by
    rw [occ_one]
    exact decide_eq_false fun e => h (List.mem_of_getElem? e)
  unfold Lib.cut
  rw [hi, if_neg (by decide)]
theorem cut_iff {s a b : List UInt8} {c : UInt8} : Lib.cut s [c] = (a, b, true) ↔ s = a ++ c :: b ∧ c ∉ a := by
  constructor
  · intro h
    by_cases hc : c ∈ s
    · obtain ⟨p, q, rfl, hp⟩ := List.eq_append_cons_of_mem hc
      rw [cut_at hp] at h
      obtain ⟨rfl, h2⟩ := Prod.mk.inj h
      obtain ⟨rfl, -⟩ := Prod.mk.inj h2
      exact ⟨rfl, hp⟩
    · rw [cut_no hc] at h
      cases (Prod.mk.inj (Prod.mk.inj h).2).2
  · rintro ⟨rfl, h⟩
    exact cut_at h
theorem cut_true {s : List UInt8} {c : UInt8} (h : (Lib.cut s [c]).2.2 = true) : s = (Lib.cut s [c]).1 ++ c :: (Lib.cut s [c]).2.1 ∧ c ∉ (Lib.cut s [c]).1 := cut_iff.1 (by rw [← h])
theorem hasPre_iff {s p : List UInt8} : Lib.hasPrefix s p = true ↔ s = p ++ Lib.trimPrefix s p := by
  unfold Lib.trimPrefix
  constructor
  · intro h
    rw [if_pos h]
    unfold Lib.hasPrefix at h
    obtain ⟨t, rfl⟩ := List.isPrefixOf_iff_prefix.1 h
    rw [List.drop_left' rfl]
  · intro h
    by_cases hp : Lib.hasPrefix s p = true
    · exact hp
    · rw [if_neg hp] at h
      have hl := congrArg List.length h
      rw [List.length_append] at hl
      have hp0 : p = [] := List.eq_nil_of_length_eq_zero (by omega)
      rw [hp0] at hp
      exact absurd (show Lib.hasPrefix s [] = true by unfold Lib.hasPrefix; cases s <;> rfl) hp
theorem pre_app (p r : List UInt8) : Lib.hasPrefix (p ++ r) p = true ∧ Lib.trimPrefix (p ++ r) p = r := by
  have h : Lib.hasPrefix (p ++ r) p = true := by
    unfold Lib.hasPrefix
    exact List.isPrefixOf_iff_prefix.2 ⟨r, rfl⟩
  exact ⟨h, by unfold Lib.trimPrefix; rw [if_pos h, List.drop_left' rfl]⟩
/-- A page as bytes: its kind, its size, a tail, what follows. -/
def canonF (kind tail : List UInt8) (w h : Nat) (rest : List UInt8) : List UInt8 := (kind ++ [10]) ++ (Lib.decDigits w ++ 32 :: (Lib.decDigits h ++ 10 :: (tail ++ rest)))
def headPv (kind tail f : List UInt8) : Option (Nat × Nat × List UInt8) :=
  let c1 := Lib.cut (Lib.trimPrefix f (kind ++ [10])) [10]
  let c2 := Lib.cut c1.1 [32]
  if Lib.hasPrefix f (kind ++ [10]) = true ∧ c1.2.2 = true ∧ c2.2.2 = true ∧ Lib.hasPrefix c1.2.1 tail = true then (match numP c2.1, numP c2.2.1 with
    | some w, some h => some (w, h, Lib.trimPrefix c1.2.1 tail)
    | _, _ => none) else none
def headRv (kind tail f : List UInt8) : Option (Nat × Nat × List UInt8) :=
  let d1 := Lib.cut (Lib.trimPrefix f (kind ++ [10])) [32]
  let d2 := Lib.cut d1.2.1 [10]
  if Lib.hasPrefix f (kind ++ [10]) = true ∧ d1.2.2 = true ∧ d2.2.2 = true ∧ Lib.hasPrefix d2.2.1 tail = true then (match numR d1.1, numR d2.1 with
    | some w, some h => some (w, h, Lib.trimPrefix d2.2.1 tail)
    | _, _ => none) else none
theorem dec_no {n : Nat} {c : UInt8} (hc : c.toNat < 48) : c ∉ Lib.decDigits n := fun h => by have := dec_all n c h; omega
theorem headP_iff {kind tail f rest : List UInt8} {w h : Nat} : headPv kind tail f = some (w, h, rest) ↔ (1 ≤ w ∧ w ≤ 9999) ∧ (1 ≤ h ∧ h ≤ 9999) ∧ f = canonF kind tail w h rest := by
  constructor
  · intro he
    unfold headPv at he
    simp only at he
    split at he
    · rename_i hc
      obtain ⟨h1, h2, h3, h4⟩ := hc
      split at he
      · rename_i w' h' hw hh
        obtain ⟨rfl, e2⟩ := Prod.mk.inj (Option.some.inj he)
        obtain ⟨rfl, rfl⟩ := Prod.mk.inj e2
        obtain ⟨w1, w9, ew⟩ := (numP_iff _ _).1 hw
        obtain ⟨q1, q9, eh⟩ := (numP_iff _ _).1 hh
        refine ⟨⟨w1, w9⟩, ⟨q1, q9⟩, ?_⟩
        have a1 := hasPre_iff.1 h1
        have a2 := (cut_true h2).1
        have a3 := (cut_true h3).1
        have a4 := hasPre_iff.1 h4
        rw [ew, eh] at a3
        rw [a3, a4] at a2
        rw [a2] at a1
        refine a1.trans ?_
        unfold canonF
        simp only [List.append_assoc, List.cons_append]
      · cases he
    · cases he
  · rintro ⟨⟨w1, w9⟩, ⟨q1, q9⟩, rfl⟩
    unfold headPv canonF
    obtain ⟨p1, p2⟩ := pre_app (kind ++ [10]) (Lib.decDigits w ++ 32 :: (Lib.decDigits h ++ 10 :: (tail ++ rest)))
    obtain ⟨p3, p4⟩ := pre_app tail rest
    have c1 : Lib.cut (Lib.decDigits w ++ 32 :: (Lib.decDigits h ++ 10 :: (tail ++ rest))) [10] = (Lib.decDigits w ++ 32 :: Lib.decDigits h, tail ++ rest, true) := by
      rw [show Lib.decDigits w ++ 32 :: (Lib.decDigits h ++ 10 :: (tail ++ rest)) = (Lib.decDigits w ++ 32 :: Lib.decDigits h) ++ 10 :: (tail ++ rest) by simp]
      refine cut_at fun hm => ?_
      rcases List.mem_append.1 hm with hm | hm
      · exact dec_no (by decide) hm
      · rcases List.mem_cons.1 hm with hm | hm
        · exact absurd hm (by decide)
        · exact dec_no (by decide) hm
    have c2 : Lib.cut (Lib.decDigits w ++ 32 :: Lib.decDigits h) [32] = (Lib.decDigits w, Lib.decDigits h, true) := cut_at (dec_no (by decide))
    simp only [p1, p2, c1, c2, p3, p4, and_self, if_true, (numP_iff _ _).2 ⟨w1, w9, rfl⟩, (numP_iff _ _).2 ⟨q1, q9, rfl⟩]
theorem headR_iff {kind tail f rest : List UInt8} {w h : Nat} : headRv kind tail f = some (w, h, rest) ↔ (1 ≤ w ∧ w ≤ 9999) ∧ (1 ≤ h ∧ h ≤ 9999) ∧ f = canonF kind tail w h rest := by
  constructor
  · intro he
    unfold headRv at he
    simp only at he
    split at he
    · rename_i hc
      obtain ⟨h1, h2, h3, h4⟩ := hc
      split at he
      · rename_i w' h' hw hh
        obtain ⟨rfl, e2⟩ := Prod.mk.inj (Option.some.inj he)
        obtain ⟨rfl, rfl⟩ := Prod.mk.inj e2
        obtain ⟨w1, w9, ew⟩ := (numR_iff _ _).1 hw
        obtain ⟨q1, q9, eh⟩ := (numR_iff _ _).1 hh
        refine ⟨⟨w1, w9⟩, ⟨q1, q9⟩, ?_⟩
        have a1 := hasPre_iff.1 h1
        have a2 := (cut_true h2).1
        have a3 := (cut_true h3).1
        have a4 := hasPre_iff.1 h4
        rw [eh, a4] at a3
        rw [ew, a3] at a2
        rw [a2] at a1
        unfold canonF
        exact a1
      · cases he
    · cases he
  · rintro ⟨⟨w1, w9⟩, ⟨q1, q9⟩, rfl⟩
    unfold headRv canonF
    obtain ⟨p1, p2⟩ := pre_app (kind ++ [10]) (Lib.decDigits w ++ 32 :: (Lib.decDigits h ++ 10 :: (tail ++ rest)))
    obtain ⟨p3, p4⟩ := pre_app tail rest
    have c1 : Lib.cut (Lib.decDigits w ++ 32 :: (Lib.decDigits h ++ 10 :: (tail ++ rest))) [32] = (Lib.decDigits w, Lib.decDigits h ++ 10 :: (tail ++ rest), true) := cut_at (dec_no (by decide))
    have c2 : Lib.cut (Lib.decDigits h ++ 10 :: (tail ++ rest)) [10] = (Lib.decDigits h, tail ++ rest, true) := cut_at (dec_no (by decide))
    simp only [p1, p2, c1, c2, p3, p4, and_self, if_true, (numR_iff _ _).2 ⟨w1, w9, rfl⟩, (numR_iff _ _).2 ⟨q1, q9, rfl⟩]
theorem head_same (kind tail f : List UInt8) : headPv kind tail f = headRv kind tail f := by
  cases hp : headPv kind tail f with
  | some x => obtain ⟨w, h, r⟩ := x; exact (headR_iff.2 (headP_iff.1 hp)).symm
  | none =>
    cases hr : headRv kind tail f with
    | none => rfl
    | some x =>
      obtain ⟨w, h, r⟩ := x
      have := headP_iff.2 (headR_iff.1 hr)
      rw [hp] at this
      cases this
end Go.Proofs.YtjelhdpcaileiaaGreatDoor
