/- glyph.spelled. -/
import Derived.Test.YtahfkahfaiidgaaGreatDoorMClaimFormRules1
import Derived.Test.YtahfkahfaiidgaaGreatDoorMClaimFormRules8
import Derived.Test.YtahfkahfaiidgaaGreatDoorMClaimFormRules0
import Derived.Shelf.Lay
import Derived.Shelf.Vars
import Derived.Ground.NamesProg
import Derived.Shelf.Strings.Search3
import Derived.Shelf.Strings.Prefix
import Derived.Lib.TrimByte
import Derived.Lib.Strings
import Derived.Lib.IndexMore

namespace Go.Proofs.YtahfkahfaiidgaaGreatDoor
open Go.RowKit Go.Shelf

theorem bytes_at {t : List UInt8} {i : Nat} {b : UInt8} (h : t[i]? = some b) : ∃ hi : i < (⟨t.toArray⟩ : ByteArray).size, (⟨t.toArray⟩ : ByteArray)[i]'hi = b := by
  have hl := (List.getElem?_eq_some_iff.1 h).1
  have hi : i < (⟨t.toArray⟩ : ByteArray).size := by rw [Lib.size_mk]; exact hl
  exact ⟨hi, Option.some.inj ((Lib.getElem_mk t i hi).symm.trans h)⟩

end Go.Proofs.YtahfkahfaiidgaaGreatDoor
