/- The plain law of a text's words: where spaces part it. -/
import Derived.Test.YtahfkahfaiidgaaGreatDoorMClaimForms0
import Derived.Lib.Split
import Derived.Lib.CountLaws
import Derived.Lib.IndexMore

namespace Go.Proofs.YtahfkahfaiidgaaGreatDoor
open Go.RowKit

/-- Words with a space between each two. -/
def joinW : List (List UInt8) → List UInt8
  | [] => []
  | [x] => x
  | x :: y :: l => x ++ 32 :: joinW (y :: l)
theorem index_space (t : List UInt8) : (Lib.index t [32] = -1 ∧ ∀ b ∈ t, b ≠ 32) ∨ ∃ i : Nat, Lib.index t [32] = (i : Int) ∧ i < t.length ∧ t = t.take i ++ 32 :: t.drop (i + 1) ∧ ∀ b ∈ t.take i, b ≠ 32 := by
  have occ : ∀ j (hj : j < t.length), Lib.occAt t [32] j = decide (t[j] = 32) := fun j hj => by
    rw [Lib.occAt_iff_take _ _ _ (by simp; omega), List.drop_eq_getElem_cons hj]
    have e : List.take [(32 : UInt8)].length (t[j] :: t.drop (j + 1)) = [t[j]] := rfl
    rw [e, Bool.eq_iff_iff, beq_iff_eq, decide_eq_true_eq]
    constructor
    · intro h
      injection h
    · intro h
      rw [h]
  rcases Lib.index_spec t [32] with ⟨h, hn⟩ | ⟨i, h, hi, ho, hno⟩
  · refine .inl ⟨h, fun b hb e => ?_⟩
    obtain ⟨j, hj, hb'⟩ := List.mem_iff_getElem.1 hb
    have h1 := hn j (by omega)
    rw [occ j hj, hb', e] at h1
    cases h1
  · have hlt : i < t.length := by
      rcases Lib.occAt_room ho with h5 | h5
      · have h6 : i + 1 ≤ t.length := h5
        omega
      · cases h5
    refine .inr ⟨i, h, hlt, ?_, fun b hb e => ?_⟩
    · rw [occ i hlt] at ho
      have h2 : t[i] = 32 := of_decide_eq_true ho
      conv => lhs; rw [← List.take_append_drop i t]
      rw [List.drop_eq_getElem_cons hlt, h2]
    · obtain ⟨j, hj, hb'⟩ := List.mem_iff_getElem.1 hb
      have hj2 : j < i := by rw [List.length_take] at hj; omega
      have h1 := hno j hj2
      rw [occ j (by omega)] at h1
      rw [List.getElem_take] at hb'
      rw [hb', e] at h1
      cases h1
def wordsOf (t : List UInt8) : List (List UInt8) := Lib.split t [32]
theorem wordsOf_miss {t : List UInt8} (h : Lib.index t [32] = -1) : wordsOf t = [t] := by
  unfold wordsOf Lib.split
  rw [Lib.count_miss h]
  rfl
theorem wordsOf_hit {t : List UInt8} {i : Nat} (h : Lib.index t [32] = (i : Int)) : wordsOf t = t.take i :: wordsOf (t.drop (i + 1)) := by
  unfold wordsOf Lib.split
  rw [Lib.count_hit (by simp) h, Nat.add_comm]
  show (if Lib.index t [32] == -1 then [t] else t.take ((Lib.index t [32]).toNat + 0) :: Lib.splitK [32] 0 _ (t.drop ((Lib.index t [32]).toNat + [32].length))) = _
  rw [h, if_neg (by rw [beq_iff_eq]; omega)]
  simp
theorem wordsOf_spec : ∀ (n : Nat) (t : List UInt8), t.length ≤ n → wordsOf t ≠ [] ∧ joinW (wordsOf t) = t ∧ ∀ x ∈ wordsOf t, ∀ b ∈ x, b ≠ 32 := by
  intro n
  induction n with
  | zero =>
    intro t h
    have : t = [] := List.eq_nil_of_length_eq_zero (by omega)
    subst this
    rw [wordsOf_miss rfl]
    exact ⟨by simp, rfl, fun x hx b hb => by rw [List.mem_singleton.1 hx] at hb; cases hb⟩
  | succ n ih =>
    intro t h
    rcases index_space t with ⟨h1, h2⟩ | ⟨i, h1, hi, h2, h3⟩
    · rw [wordsOf_miss h1]
      exact ⟨by simp, rfl, fun x hx b hb => h2 b (by rw [List.mem_singleton.1 hx] at hb; exact hb)⟩
    · obtain ⟨a1, a2, a3⟩ := ih (t.drop (i + 1)) (by rw [List.length_drop]; omega)
      rw [wordsOf_hit h1]
      refine ⟨by simp, ?_, fun x hx b hb => ?_⟩
      · cases hw : wordsOf (t.drop (i + 1)) with
        | nil => exact absurd hw a1
        | cons y l =>
          show t.take i ++ 32 :: joinW (y :: l) = t
          rw [← hw, a2]
          exact h2.symm
      · rcases List.mem_cons.1 hx with rfl | hx
        · exact h3 b hb
        · exact a3 x hx b hb
end Go.Proofs.YtahfkahfaiidgaaGreatDoor
