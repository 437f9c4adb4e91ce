/- strings.Cut at a line's end, strings.Trim at the signs of a page: as the walks of Parse want them; SameBits of pages of one shape. -/
import Derived.Test.YtfdailibecgkhaaGreatDoorMClaimTopCodes4
import Derived.Test.YtfdailibecgkhaaGreatDoorMClaimTopCodes1
import Derived.Shelf.Strings.Cut
import Derived.Lib.CutLaws
import Derived.Lib.SlTrimSet

namespace Go.Proofs
open Go.Shelf
shelf_lay Lays.n145 Nm 145 at Tryz as Tryz.lays145 -- 125
end Go.Proofs
namespace Go.Proofs.YtfdailibecgkhaaGreatDoor
open Go.RowKit Go.Shelf

/-- The variable of the library's that strings.Cut's search asks. -/
def CutOk (w : World) : Prop := ∃ m : Int, w.cell? ⟨Tryz.lays145_ren.g 1, 0, none⟩ = some (.int .i64 m)
theorem CutOk.bl {w w' : World} (h : CutOk w) (hb : Bl w w') : CutOk w' := let ⟨m, hm⟩ := h; ⟨m, hb.at hm⟩
end Go.Proofs.YtfdailibecgkhaaGreatDoor
