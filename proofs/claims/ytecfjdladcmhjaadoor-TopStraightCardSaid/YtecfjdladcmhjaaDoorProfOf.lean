/- bedref2.ProfileOf and Square. -/
import Derived.Test.YtecfjdladcmhjaaDoorLeanOf
import Derived.Test.YtecfjdladcmhjaaDoorSkew4
namespace Go.Proofs.YtecfjdladcmhjaaDoor
open Go.RowKit

theorem profC_le (bs : List Bool) (W H : Nat) (n : Int) (x y k : Nat) : profC bs W H n x y k ≤ x * H + y := by
  have h1 := sumN_le (f := fun x' => sumN (fun y' => b1 (bs.getD (y' * W + x') false && profK W H n k (y' * W + x'))) H) (c := H) (fun x' => by
    have := sumN_le (f := fun y' => b1 (bs.getD (y' * W + x') false && profK W H n k (y' * W + x'))) (c := 1) (fun i => by unfold b1; split <;> omega) H
    simpa using this) x
  have h2 := sumN_le (f := fun y' => b1 (bs.getD (y' * W + x) false && profK W H n k (y' * W + x))) (c := 1) (fun i => by unfold b1; split <;> omega) y
  unfold profC
  omega
theorem profC_here {bs : List Bool} {W H : Nat} {n : Int} {x y : Nat} (hx : x < W) (k : Nat) :
    profC bs W H n x (y + 1) k = profC bs W H n x y k + b1 (pix bs W x y && decide (((H / 2 : Nat) : Int) + (y : Int) + leanI W n x = (k : Int))) := by
  obtain ⟨p1, p2⟩ := at_parts y hx
  rw [profC_step]
  unfold profK profAt
  rw [p1, p2]
  rfl

end Go.Proofs.YtecfjdladcmhjaaDoor
