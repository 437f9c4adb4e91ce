/- strings.HasPrefix, HasSuffix, and Contains, as the walks of spelling want them. -/
import Derived.Test.YtpjemcfcheijkaaDoorMClaimLetters4
import Derived.Test.YtpjemcfcheijkaaDoorMClaimLetters3
import Derived.Shelf.Lay
import Derived.Shelf.Vars
import Derived.Ground.NamesProg
import Derived.Shelf.Strings.Search3
import Derived.Shelf.Strings.Prefix
import Derived.Lib.TrimByte

namespace Go.Proofs
open Go.Shelf
shelf_lay Lays.n99 Nm 99 at Tryd as Tryd.lays99 -- 115
shelf_lay Lays.n144 Nm 144 at Tryd as Tryd.lays144 -- 122
end Go.Proofs
namespace Go.Proofs.YtpjemcfcheijkaaDoor
open Go.RowKit Go.Shelf

/-- The variable of the library's that a search asks. -/
def SubOk (w : World) : Prop := ∃ m : Int, w.cell? ⟨Tryd.lays144_ren.g 1, 0, none⟩ = some (.int .i64 m)
theorem SubOk.bl {w w' : World} (h : SubOk w) (hb : Bl w w') : SubOk w' := let ⟨m, hm⟩ := h; ⟨m, hb.at hm⟩
theorem hasPrefix_any (s p : List UInt8) (w : World) : Calls Tryd.prog 115 #[.string ⟨s.toArray⟩, .string ⟨p.toArray⟩] w fun e w' => e = .returned (.bool (Lib.hasPrefix s p)) ∧ w = w' := by
  have h := Any.strings_HasPrefix Tryd.lays99 ⟨s.toArray⟩ ⟨p.toArray⟩ w
  refine Calls.mono (R := fun e w' => e = .returned (.bool (Lib.hasPrefix s p)) ∧ w' = w) h ?_
  rintro e w' ⟨rfl, rfl⟩
  exact ⟨rfl, rfl⟩
theorem contains_any (s p : List UInt8) (w : World) (hs : s.length < 4294967281) (hm : SubOk w) : Calls Tryd.prog 122 #[.string ⟨s.toArray⟩, .string ⟨p.toArray⟩] w fun e w' => e = .returned (.bool (Lib.contains s p)) ∧ w = w' := by
  obtain ⟨m, hm⟩ := hm
  have h := Any.strings_Contains Tryd.lays144 ⟨s.toArray⟩ ⟨p.toArray⟩ m w (by rw [Lib.size_mk]; exact hs) hm
  refine Calls.mono (R := fun e w' => e = .returned (.bool (Lib.contains s p)) ∧ w' = w) h ?_
  rintro e w' ⟨rfl, rfl⟩
  exact ⟨rfl, rfl⟩
theorem extract_drop (l : List UInt8) (k : Nat) : (⟨l.toArray⟩ : ByteArray).extract k l.length = ⟨(l.drop k).toArray⟩ := by
  apply ByteArray.ext
  rw [ByteArray.data_extract]
  apply Array.ext'
  simp only [Array.toList_extract, List.extract_eq_take_drop]
  exact List.take_of_length_le (by simp)
/-- How long a text is. -/
def strLen : Value → Nat
  | .string s => s.size
  | _ => 0
theorem txt_at {w : World} {L : Option Addr} {ls : List Ltr} {k : Nat} (h : LtrsAt w L ls) (hk : k < ls.length) : ∃ ad, L = some ad ∧ w.cell? (ad.add (k * 4)) = some (.string ⟨(txtOf ls k).toArray⟩) ∧ w.cell? ⟨(ad.add (k * 4)).block, (ad.add (k * 4)).off + 1, none⟩ = some (.int .i64 (ls[k]'hk).W) := by
  have hg : ls[k]? = some ls[k] := List.getElem?_eq_getElem hk
  obtain ⟨ad, e, h1, h2, -, -⟩ := h.at_ hg
  exact ⟨ad, e, by rw [txtOf_at hg]; exact h1, h2⟩

end Go.Proofs.YtpjemcfcheijkaaDoor
