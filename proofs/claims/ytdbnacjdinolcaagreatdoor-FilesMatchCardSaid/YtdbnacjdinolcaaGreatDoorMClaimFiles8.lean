/- Texts backwards: slices.Reverse of bytes (the shelf's contract, laid), bar.backwards, bedref2.Flip. -/
import Derived.Test.YtdbnacjdinolcaaGreatDoorMClaimFiles6
import Derived.Shelf.SlicesE.Reverse
import Derived.Shelf.SlGeneric
import Derived.Ground.SlgnProg
import Derived.Laws.IdiomStrings
import Derived.Lib.ConvBytes
import Derived.Lib.OwnBridge

namespace Go.Proofs
open Go.Shelf
end Go.Proofs
namespace Go.Proofs.YtdbnacjdinolcaaGreatDoor
open Go.RowKit Go.Shelf Go.Sort

def encB (b : UInt8) : Value := .int .u8 (b.toNat : Int)
theorem bl_bytes (w : World) (e : TypeId) (s : ByteArray) : Bl w (Lib.bytesWorld w e s) := ⟨rfl, rfl, rfl, by rw [Lib.bytesWorld_size]; omega, fun j hj => Lib.bytesWorld_at_old w e s j hj⟩
end Go.Proofs.YtdbnacjdinolcaaGreatDoor
