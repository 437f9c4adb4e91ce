/- page.ToBits, page.ToGray, and the function values of the law on counts. -/
import Derived.Test.YtecfjdladcmhjaaDoorCountLaw
import Derived.Test.YtecfjdladcmhjaaDoorPages
import Derived.Test.YtecfjdladcmhjaaDoorSame
namespace Go.Proofs.YtecfjdladcmhjaaDoor
open Go.RowKit

def lvlErr (W H : Int) (k : Nat) (n : Int) : Int := firstNZ [pageErr W H k, whenI (!inB n 0 256) 3]
theorem lvlErr_zero {W H : Int} {k : Nat} {n : Int} (h : lvlErr W H k n = 0) : pageErr W H k = 0 ∧ (0 ≤ n ∧ n ≤ 256) := by
  unfold lvlErr firstNZ at h
  split at h
  · rename_i h0
    refine ⟨h0, ?_⟩
    cases hi : inB n 0 256
    · rw [hi] at h; simp [firstNZ, whenI] at h
    · exact inB_true.1 hi
  · contradiction
def bitF (zs : List Int) (W : Nat) (level : Int) (x y : Nat) : Bool := decide (vix zs W x y < level)
def grayF (bs : List Bool) (W : Nat) (x y : Nat) : Int := if pix bs W x y then 0 else 255

/-! ### ToGray -/
end Go.Proofs.YtecfjdladcmhjaaDoor
