/- glyph.spelled. -/
import Derived.Test.YtkipcobpnecmhaaGreatDoorMClaimBarCodes1
import Derived.Test.YtkipcobpnecmhaaGreatDoorMClaimBarCodes11
import Derived.Test.YtkipcobpnecmhaaGreatDoorMClaimBarCodes2
import Derived.Test.YtkipcobpnecmhaaGreatDoorMClaimBarCodes3
import Derived.Lib.IndexMore
import Derived.Lib.Strings

namespace Go.Proofs.YtkipcobpnecmhaaGreatDoor
open Go.RowKit Go.Shelf

theorem bytes_at {t : List UInt8} {i : Nat} {b : UInt8} (h : t[i]? = some b) : ∃ hi : i < (⟨t.toArray⟩ : ByteArray).size, (⟨t.toArray⟩ : ByteArray)[i]'hi = b := by
  have hl := (List.getElem?_eq_some_iff.1 h).1
  have hi : i < (⟨t.toArray⟩ : ByteArray).size := by rw [Lib.size_mk]; exact hl
  exact ⟨hi, Option.some.inj ((Lib.getElem_mk t i hi).symm.trans h)⟩

end Go.Proofs.YtkipcobpnecmhaaGreatDoor
