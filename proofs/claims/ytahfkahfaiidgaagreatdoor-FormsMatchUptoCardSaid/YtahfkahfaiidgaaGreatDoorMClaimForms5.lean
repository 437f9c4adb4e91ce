/- The plain law of finding: the number with the greatest score. -/
import Derived.Test.YtahfkahfaiidgaaGreatDoorMClaimForms1
import Derived.Test.YtahfkahfaiidgaaGreatDoorMClaimForms0
import Derived.Test.YtahfkahfaiidgaaGreatDoorMClaimForms2
import Derived.Laws.EntriesVeiled

namespace Go.Proofs.YtahfkahfaiidgaaGreatDoor
open Go.RowKit

/-! ### ink or none -/
theorem spotL_none {bs : List Bool} : ∀ {m : Nat}, (spotL bs m).length = 0 ↔ ∀ i, i < m → bs.getD i false = false
  | 0 => by simp [spotL]
  | m + 1 => by
    simp only [spotL, List.length_append]
    have ih := spotL_none (bs := bs) (m := m)
    constructor
    · intro h i hi
      rcases Nat.lt_or_ge i m with c | c
      · exact ih.1 (by omega) i c
      · obtain rfl : i = m := by omega
        cases hb : bs.getD i false
        · rfl
        · rw [hb] at h; simp at h
    · intro h
      rw [ih.2 (fun i hi => h i (by omega)), h m (by omega)]
      rfl
def inkB (bs : List Bool) (N : Nat) : Bool := decide (0 < (spotL bs N).length)
theorem inkB_is {bs : List Bool} {W H : Nat} {is : Bool} {X Y BW BH : Int} (h : BoundsIs bs W H is X Y BW BH) : is = inkB bs (W * H) := by
  unfold inkB
  rcases h with ⟨rfl, hno, _⟩ | ⟨rfl, l, r, t, b, hl, _⟩
  · symm
    rw [decide_eq_false_iff_not]
    intro hpos
    have : (spotL bs (W * H)).length = 0 := spotL_none.2 fun i hi => by
      obtain ⟨h1, h2, h3⟩ := place_parts hi
      have := hno _ h1
      cases hb : bs.getD i false
      · rfl
      · have := (colN_pos bs W H (i % W)).2 ⟨i / W, h2, by rw [pix_place hi]; exact hb⟩
        omega
    omega
  · symm
    rw [decide_eq_true_iff]
    rcases Nat.eq_zero_or_pos (spotL bs (W * H)).length with e | e
    · have hz := spotL_none.1 e
      obtain ⟨y, hy, hp⟩ := (colN_pos bs W H l).1 hl.1.2.1
      have := hz (l + y * W) (by rw [Nat.add_comm]; exact place_lt hl.1.1 hy)
      unfold pix at hp
      rw [Nat.add_comm] at this
      rw [this] at hp; cases hp
    · exact e
/-! ### slanted columns -/
/-! ### errors -/
end Go.Proofs.YtahfkahfaiidgaaGreatDoor
