/- The plain law of finding: the number with the greatest score. -/
import Derived.Test.YtecfjdladcmhjaaDoorProfOf
import Derived.Test.YtecfjdladcmhjaaDoorInkOf
namespace Go.Proofs.YtecfjdladcmhjaaDoor
open Go.RowKit

def updB (F : Int → Int) (p : Int × Int) (k : Int) : Int × Int := if p.2 < F k then (k, F k) else p
def bestN (F : Int → Int) : Nat → Int × Int
  | 0 => (0, F 0)
  | m + 1 => updB F (updB F (bestN F m) ((m : Int) + 1)) (-((m : Int) + 1))
theorem updB_bd {F : Int → Int} {p : Int × Int} {k b : Int} (h : -b ≤ p.1 ∧ p.1 ≤ b) (hk : -b ≤ k ∧ k ≤ b) : -b ≤ (updB F p k).1 ∧ (updB F p k).1 ≤ b := by
  unfold updB
  split
  · exact hk
  · exact h
theorem bestN_bd (F : Int → Int) : ∀ m : Nat, -(m : Int) ≤ (bestN F m).1 ∧ (bestN F m).1 ≤ (m : Int)
  | 0 => by simp [bestN]
  | m + 1 => by
    have h := bestN_bd F m
    unfold bestN
    have e : ((m + 1 : Nat) : Int) = (m : Int) + 1 := by simp
    rw [e]
    exact updB_bd (updB_bd (by omega) (by omega)) (by omega)
theorem bestN_congr {F G : Int → Int} {m : Nat} (h : ∀ k : Int, -(m : Int) ≤ k → k ≤ (m : Int) → F k = G k) : bestN F m = bestN G m := by
  induction m with
  | zero => unfold bestN; rw [h 0 (by omega) (by omega)]
  | succ m ih =>
    unfold bestN
    rw [ih (fun k h1 h2 => h k (by omega) (by omega))]
    have e : ∀ p, updB F p ((m : Int) + 1) = updB G p ((m : Int) + 1) := fun p => by unfold updB; rw [h _ (by omega) (by omega)]
    have e2 : ∀ p, updB F p (-((m : Int) + 1)) = updB G p (-((m : Int) + 1)) := fun p => by unfold updB; rw [h _ (by omega) (by omega)]
    rw [e, e2]

/-! ### ink or none -/
theorem spotL_none {bs : List Bool} : ∀ {m : Nat}, (spotL bs m).length = 0 ↔ ∀ i, i < m → bs.getD i false = false
  | 0 => by simp [spotL]
  | m + 1 => by
    simp only [spotL, List.length_append]
    have ih := spotL_none (bs := bs) (m := m)
    constructor
    · intro h i hi
      rcases Nat.lt_or_ge i m with c | c
      · exact ih.1 (by omega) i c
      · obtain rfl : i = m := by omega
        cases hb : bs.getD i false
        · rfl
        · rw [hb] at h; simp at h
    · intro h
      rw [ih.2 (fun i hi => h i (by omega)), h m (by omega)]
      rfl
def inkB (bs : List Bool) (N : Nat) : Bool := decide (0 < (spotL bs N).length)
theorem inkB_is {bs : List Bool} {W H : Nat} {is : Bool} {X Y BW BH : Int} (h : BoundsIs bs W H is X Y BW BH) : is = inkB bs (W * H) := by
  unfold inkB
  rcases h with ⟨rfl, hno, _⟩ | ⟨rfl, l, r, t, b, hl, _⟩
  · symm
    rw [decide_eq_false_iff_not]
    intro hpos
    have : (spotL bs (W * H)).length = 0 := spotL_none.2 fun i hi => by
      obtain ⟨h1, h2, h3⟩ := place_parts hi
      have := hno _ h1
      cases hb : bs.getD i false
      · rfl
      · have := (colN_pos bs W H (i % W)).2 ⟨i / W, h2, by rw [pix_place hi]; exact hb⟩
        omega
    omega
  · symm
    rw [decide_eq_true_iff]
    rcases Nat.eq_zero_or_pos (spotL bs (W * H)).length with e | e
    · have hz := spotL_none.1 e
      obtain ⟨y, hy, hp⟩ := (colN_pos bs W H l).1 hl.1.2.1
      have := hz (l + y * W) (by rw [Nat.add_comm]; exact place_lt hl.1.1 hy)
      unfold pix at hp
      rw [Nat.add_comm] at this
      rw [this] at hp; cases hp
    · exact e
theorem sqN_nonneg {f : Nat → Int} (h : ∀ k, 0 ≤ f k) : ∀ n, 0 ≤ sqN f n
  | 0 => by simp [sqN]
  | n + 1 => by
    have h1 := sqN_nonneg h n
    have h2 : 0 ≤ f n * f n := Int.mul_nonneg (h n) (h n)
    simp only [sqN]; omega
theorem sqN_zero {f : Nat → Int} (h : ∀ k, 0 ≤ f k) : ∀ n, sqN f n = 0 ↔ ∀ k, k < n → f k = 0
  | 0 => by simp [sqN]
  | n + 1 => by
    have h1 := sqN_nonneg h n
    have h2 : 0 ≤ f n * f n := Int.mul_nonneg (h n) (h n)
    have ih := sqN_zero h n
    simp only [sqN]
    constructor
    · intro e k hk
      rcases Nat.lt_or_ge k n with c | c
      · exact ih.1 (by omega) k c
      · obtain rfl : k = n := by omega
        have e2 : f k * f k = 0 := by omega
        rcases Int.mul_eq_zero.1 e2 with h3 | h3 <;> exact h3
    · intro e
      rw [ih.2 (fun k hk => e k (by omega)), e n (by omega)]
      rfl
theorem rows_none (bs : List Bool) (W H : Nat) : sqN (rowI bs W) H = 0 ↔ inkB bs (W * H) = false := by
  rw [sqN_zero (fun k => by unfold rowI; omega)]
  unfold inkB
  rw [decide_eq_false_iff_not]
  constructor
  · intro h hpos
    have : (spotL bs (W * H)).length = 0 := spotL_none.2 fun i hi => by
      obtain ⟨h1, h2, h3⟩ := place_parts hi
      have h4 := h _ h2
      cases hb : bs.getD i false
      · rfl
      · have := (rowN_pos bs W (i / W)).2 ⟨i % W, h1, by rw [pix_place hi]; exact hb⟩
        unfold rowI at h4
        omega
    omega
  · intro h y hy
    have hz := spotL_none.1 (show (spotL bs (W * H)).length = 0 by omega)
    unfold rowI
    rcases Nat.eq_zero_or_pos (rowN bs W y) with e | e
    · rw [e]; rfl
    · obtain ⟨x, hx, hp⟩ := (rowN_pos bs W y).1 e
      have := hz (y * W + x) (place_lt hx hy)
      unfold pix at hp
      rw [this] at hp; cases hp

/-! ### slanted columns -/
def slcK (W H : Nat) (n : Int) (k i : Nat) : Bool := decide (((i % W : Nat) : Int) + slantI H n (i / W) = (k : Int))
theorem slc_eq (bs : List Bool) (W H : Nat) (n : Int) (k : Nat) (hk : k < W) : (((spotL bs (W * H)).countP (slcK W H n k) : Nat)) = colN (grid W H (slantF bs W H n)) W H k := by
  rw [spotL_count]
  unfold colN
  rw [Nat.mul_comm, sumN_flat]
  refine sumN_congr fun y hy => ?_
  rw [pix_grid W H _ k y hk hy]
  have e : ∀ x, x < W → b1 (bs.getD (y * W + x) false && slcK W H n k (y * W + x)) = b1 (pix bs W x y && decide ((x : Int) + slantI H n y = (k : Int))) := fun x hx => by
    unfold slcK
    rw [(at_parts y hx).1, (at_parts y hx).2]; rfl
  rw [sumN_congr e]
  unfold slantF
  generalize slantI H n y = s
  by_cases c : 0 ≤ (k : Int) - s ∧ (k : Int) - s < W
  · obtain ⟨X, hX⟩ := Int.eq_ofNat_of_zero_le c.1
    have hXW : X < W := by omega
    have e2 : ∀ x, x < W → b1 (pix bs W x y && decide ((x : Int) + s = (k : Int))) = if x = X then b1 (pix bs W x y) else 0 := fun x hx => by
      by_cases h : x = X
      · rw [if_pos h, decide_eq_true (by omega), Bool.and_true]
      · rw [if_neg h, decide_eq_false (by omega), Bool.and_false]; rfl
    rw [sumN_congr e2, sumN_pick (fun x => b1 (pix bs W x y)), if_pos hXW]
    have : (k : Int) - s = (X : Int) := by omega
    rw [this, atI_in bs W H X y hXW hy]
  · rw [atI_out bs W H _ _ (by omega)]
    rw [show b1 false = 0 from rfl, ← sumN_zero W]
    refine sumN_congr fun x hx => ?_
    rw [decide_eq_false (by omega), Bool.and_false]; rfl

/-! ### errors -/
def findErr (W H : Int) (k : Nat) (most : Int) (ink : Bool) : Int := firstNZ [pageErr W H k, whenI (!inB most 0 256) 3, whenI (!ink) 10]
theorem findErr_zero {W H : Int} {k : Nat} {most : Int} {ink : Bool} (h : findErr W H k most ink = 0) : pageErr W H k = 0 ∧ (0 ≤ most ∧ most ≤ 256) ∧ ink = true := by
  unfold findErr at h
  by_cases h1 : pageErr W H k = 0
  · cases h2 : inB most 0 256
    · rw [h2] at h; simp only [firstNZ, if_pos h1, whenI, Bool.not_false, if_true] at h
      rw [if_neg (by decide)] at h; exact absurd h (by decide)
    · cases ink
      · rw [h2] at h; simp only [firstNZ, if_pos h1, whenI, Bool.not_true, Bool.not_false, if_true] at h
        simp at h
      · exact ⟨h1, inB_true.1 h2, rfl⟩
  · simp only [firstNZ, if_neg h1] at h; exact absurd h h1

end Go.Proofs.YtecfjdladcmhjaaDoor
