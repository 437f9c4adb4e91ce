/- Pasting in the reference; what both functions make. -/
import Derived.Test.YtecfjdladcmhjaaPaste
namespace Go.Proofs.Ytecfjdladcmhjaa
open Go.RowKit

theorem pasteF_far {bs cs : List Bool} {bW bH cW cH : Nat} {x y : Int} {u v : Nat} (h : pix bs bW u v = false) (h2 : x < -(cW : Int) ∨ (bW : Int) < x ∨ y < -(cH : Int) ∨ (bH : Int) < y) : pasteF bs cs bW bH cW cH x y u v = false :=
  pasteF_apart h (by simp [isApart]; omega)
theorem pasteF_near {bs cs : List Bool} {bW bH cW cH : Nat} {x y : Int} {u v : Nat} (hu : u < bW) (hv : v < bH) (h : pix bs bW u v = false) : pasteF bs cs bW bH cW cH x y u v = atI cs cW cH ((u : Int) - x) ((v : Int) - y) := by
  cases ha : isApart bW bH cW cH x y
  · exact pasteF_at h ha
  · rw [pasteF_apart h ha, atI_out]
    simp [isApart] at ha
    omega

/-! ### page.Paste, bedref2.PasteOf -/
end Go.Proofs.Ytecfjdladcmhjaa
