/- strings.Builder at this program: copyCheck, WriteByte, String. -/
import Derived.Test.YtfdailibecgkhaaDoorMClaimShapes0
import Derived.WalkKit
import Derived.Ground.NamesProg
import Derived.Shelf.Lay
import Derived.Shelf.Strings.Builder1
import Derived.Shelf.Strings.BuilderF
import Derived.Shelf.Strings.BuilderK

namespace Go.Proofs
open Go.Shelf
end Go.Proofs
namespace Go.Proofs.YtfdailibecgkhaaDoor
open Go.RowKit Go.Shelf

theorem Bl.trans' {a w w' : World} {B : Nat} (h : Bl a w) (e : a.heap.size = B) (hb : Below B w w') : Bl a w' := by
  subst e
  exact Below.trans h hb

end Go.Proofs.YtfdailibecgkhaaDoor
