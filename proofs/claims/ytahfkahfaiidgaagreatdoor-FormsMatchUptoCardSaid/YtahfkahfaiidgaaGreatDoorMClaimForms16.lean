/- From a statement's row to a walk where a listed variable's reading and the world's shape are both wanted. -/
import Derived.Test.YtahfkahfaiidgaaGreatDoorMClaimForms10
import Derived.Test.YtahfkahfaiidgaaGreatDoorMClaimForms9
import Derived.Test.YtahfkahfaiidgaaGreatDoorMClaimForms1
import Derived.HandedShaped
import Derived.Shelf.Vars
import Derived.Shelf.Strings.Cut
import Derived.Lib.CutLaws
import Derived.Lib.SlTrimSet

namespace Go.Proofs.YtahfkahfaiidgaaGreatDoor
open Go.ChangeShapes Go.WideShapes Go.ChangeAt Go.RowKit Go.Joins Go.Shelf

section
variable {H : Type} {enc : TypeId × Value → H}
end
theorem string_mk (s : ByteArray) : ∃ l : List UInt8, s = ⟨l.toArray⟩ := ⟨s.data.toList, by cases s; simp⟩

end Go.Proofs.YtahfkahfaiidgaaGreatDoor
