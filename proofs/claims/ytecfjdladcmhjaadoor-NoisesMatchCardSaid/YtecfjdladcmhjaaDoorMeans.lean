/- The sum of a box, the square around a place, the means of a page. -/
import Derived.Test.YtecfjdladcmhjaaDoorSums
namespace Go.Proofs.YtecfjdladcmhjaaDoor
open Go.RowKit

/-! ### plain -/
/-- The sum of the values of a box: rows y to y + h, columns x to x + l. -/
def boxSum (v : Nat → Int) (W x y l h : Nat) : Int := sat v W (y + h) (x + l) - sat v W y (x + l) - sat v W (y + h) x + sat v W y x

theorem rowSum_mono {v : Nat → Int} (hv : ∀ i, 0 ≤ v i ∧ v i ≤ 255) (W y x : Nat) : ∀ l, rowSum v W y x ≤ rowSum v W y (x + l)
  | 0 => Int.le_refl _
  | l + 1 => Int.le_trans (rowSum_mono hv W y x l) (by rw [← Nat.add_assoc]; simp only [rowSum]; have := hv (y * W + (x + l)); omega)

/-! ### (*Sums).In -/
/-! ### (*Sums).Around -/
/-- From which place on, how far, the square around a place goes. -/
def from_ (x r : Nat) : Nat := x - r
def long_ (x r W : Nat) : Nat := min (x + r + 1) W - (x - r)
theorem long_pos {x r W : Nat} (hx : x < W) : 1 ≤ long_ x r W ∧ from_ x r + long_ x r W ≤ W := by unfold long_ from_; omega

end Go.Proofs.YtecfjdladcmhjaaDoor
