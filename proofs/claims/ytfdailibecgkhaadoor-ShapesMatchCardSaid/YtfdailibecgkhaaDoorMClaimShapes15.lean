/- strings.Cut at a line's end, strings.Trim at the signs of a page: as the walks of Parse want them; SameBits of pages of one shape. -/
import Derived.Test.YtfdailibecgkhaaDoorMClaimShapes6
import Derived.Test.YtfdailibecgkhaaDoorMClaimShapes7
import Derived.Shelf.Strings.Cut

namespace Go.Proofs
open Go.Shelf
end Go.Proofs
namespace Go.Proofs.YtfdailibecgkhaaDoor
open Go.RowKit Go.Shelf

theorem bl_drewN (w : World) : ∀ n, Bl w (w.drewN n)
  | 0 => Bl.refl _
  | n + 1 => (bl_drewN w n).drew
theorem trimHd_any (l : List UInt8) (w : World) (hlen : l.length ≤ 40200) :
    Calls Tryd.prog 44 #[.string ⟨l.toArray⟩, .string ⟨#[35, 46]⟩] w fun e w' => ∃ r : ByteArray, e = .returned (.string r) ∧ r.toList.isEmpty = dotL l ∧ Bl w w' := by
  have h := Any.strings_Trim_laid Tryd.lays160 (by kernel_rfl) ⟨l.toArray⟩ ⟨#[35, 46]⟩ w (by rw [Lib.size_mk]; omega) (by decide) (ascii_of_all (by decide))
  refine Calls.mono (R := fun e w' => e = .returned (.string ⟨(Lib.trimS l [35, 46]).toArray⟩) ∧ Below w.heap.size w w') h ?_
  rintro e w' ⟨rfl, hb⟩
  refine ⟨_, rfl, ?_, hb⟩
  rw [Lib.toList_data]
  show (Lib.trimS l [35, 46]).isEmpty = _
  rw [Bool.eq_iff_iff, List.isEmpty_iff, trimS_nil_iff]
  unfold dotL
  rw [decide_eq_true_eq]

end Go.Proofs.YtfdailibecgkhaaDoor
