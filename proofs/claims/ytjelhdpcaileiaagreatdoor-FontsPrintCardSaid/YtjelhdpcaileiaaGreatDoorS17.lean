/- strings.HasPrefix, HasSuffix, and Contains, as the walks of spelling want them. -/
import Derived.Test.YtjelhdpcaileiaaGreatDoorS16
import Derived.Test.YtjelhdpcaileiaaGreatDoorS2
import Derived.Shelf.Lay
import Derived.Shelf.Vars
import Derived.Ground.NamesProg
import Derived.Shelf.Strings.Search3
import Derived.Shelf.Strings.Prefix
import Derived.Lib.TrimByte

namespace Go.Proofs
open Go.Shelf
def Tryz.lays99_ren : Go.Shelf.Ren := ⟨fun | 99 => 133 | 206 => 222 | n => n, fun | 9 => 9 | 4 => 4 | 3 => 3 | n => n, fun | n => n⟩
theorem Tryz.lays99 : Go.Proofs.Lays.n99 Tryz.prog Tryz.lays99_ren := {
  mixed := by kernel_rfl
  f99 := Tryz.func133.trans (congrArg some (by kernel_rfl))
  f206 := Tryz.func222.trans (congrArg some (by kernel_rfl))
  t3 := Tryz.underlying3
  a3 := Tryz.isAgg3
  z3 := Tryz.sizeOf3
  v3 := Tryz.zeroValue3
  t4 := Tryz.underlying4
  a4 := Tryz.isAgg4
  z4 := Tryz.sizeOf4
  v4 := Tryz.zeroValue4
  t9 := Tryz.underlying9
  a9 := Tryz.isAgg9
  z9 := Tryz.sizeOf9
  v9 := Tryz.zeroValue9 }

def Tryz.lays144_ren : Go.Shelf.Ren := ⟨fun | 144 => 280 | 143 => 90 | 219 => 160 | 217 => 131 | 225 => 235 | 224 => 236 | 267 => 237 | 266 => 219 | 314 => 306 | n => n, fun | 9 => 9 | 4 => 4 | 3 => 3 | 5 => 5 | 46 => 41 | 146 => 268 | 51 => 267 | n => n, fun | 1 => 0 | n => n⟩
theorem Tryz.lays144 : Go.Proofs.Lays.n144 Tryz.prog Tryz.lays144_ren := {
  mixed := by kernel_rfl
  f143 := Tryz.func90.trans (congrArg some (by kernel_rfl))
  f144 := Tryz.func280.trans (congrArg some (by kernel_rfl))
  f217 := Tryz.func131.trans (congrArg some (by kernel_rfl))
  f219 := Tryz.func160.trans (congrArg some (by kernel_rfl))
  f224 := Tryz.func236.trans (congrArg some (by kernel_rfl))
  f225 := Tryz.func235.trans (congrArg some (by kernel_rfl))
  f266 := Tryz.func219.trans (congrArg some (by kernel_rfl))
  f267 := Tryz.func237.trans (congrArg some (by kernel_rfl))
  f314 := Tryz.func306.trans (congrArg some (by kernel_rfl))
  t3 := Tryz.underlying3
  a3 := Tryz.isAgg3
  z3 := Tryz.sizeOf3
  v3 := Tryz.zeroValue3
  t4 := Tryz.underlying4
  a4 := Tryz.isAgg4
  z4 := Tryz.sizeOf4
  v4 := Tryz.zeroValue4
  t5 := Tryz.underlying5
  a5 := Tryz.isAgg5
  z5 := Tryz.sizeOf5
  v5 := Tryz.zeroValue5
  t9 := Tryz.underlying9
  a9 := Tryz.isAgg9
  z9 := Tryz.sizeOf9
  v9 := Tryz.zeroValue9
  t46 := Tryz.underlying41
  a46 := Tryz.isAgg41
  z46 := Tryz.sizeOf41
  v46 := Tryz.zeroValue41
  t51 := Tryz.underlying267
  a51 := Tryz.isAgg267
  z51 := Tryz.sizeOf267
  v51 := Tryz.zeroValue267
  t146 := Tryz.underlying268
  a146 := Tryz.isAgg268
  z146 := Tryz.sizeOf268
  v146 := Tryz.zeroValue268
  g1 := by kernel_rfl }

end Go.Proofs
namespace Go.Proofs.YtjelhdpcaileiaaGreatDoor
open Go.RowKit Go.Shelf

/-- The variable of the library's that a search asks. -/
def SubOk (w : World) : Prop := ∃ m : Int, w.cell? ⟨Tryz.lays144_ren.g 1, 0, none⟩ = some (.int .i64 m)
theorem SubOk.bl {w w' : World} (h : SubOk w) (hb : Bl w w') : SubOk w' := let ⟨m, hm⟩ := h; ⟨m, hb.at hm⟩
theorem hasPrefix_any (s p : List UInt8) (w : World) : Calls Tryz.prog 133 #[.string ⟨s.toArray⟩, .string ⟨p.toArray⟩] w fun e w' => e = .returned (.bool (Lib.hasPrefix s p)) ∧ w = w' := by
  have h := Any.strings_HasPrefix Tryz.lays99 ⟨s.toArray⟩ ⟨p.toArray⟩ w
  refine Calls.mono (R := fun e w' => e = .returned (.bool (Lib.hasPrefix s p)) ∧ w' = w) h ?_
  rintro e w' ⟨rfl, rfl⟩
  exact ⟨rfl, rfl⟩
theorem contains_any (s p : List UInt8) (w : World) (hs : s.length < 4294967281) (hm : SubOk w) : Calls Tryz.prog 280 #[.string ⟨s.toArray⟩, .string ⟨p.toArray⟩] w fun e w' => e = .returned (.bool (Lib.contains s p)) ∧ w = w' := by
  obtain ⟨m, hm⟩ := hm
  have h := Any.strings_Contains Tryz.lays144 ⟨s.toArray⟩ ⟨p.toArray⟩ m w (by rw [Lib.size_mk]; exact hs) hm
  refine Calls.mono (R := fun e w' => e = .returned (.bool (Lib.contains s p)) ∧ w' = w) h ?_
  rintro e w' ⟨rfl, rfl⟩
  exact ⟨rfl, rfl⟩
theorem extract_drop (l : List UInt8) (k : Nat) : (⟨l.toArray⟩ : ByteArray).extract k l.length = ⟨(l.drop k).toArray⟩ := by
  apply ByteArray.ext
  rw [ByteArray.data_extract]
  apply Array.ext'
  simp only [Array.toList_extract, List.extract_eq_take_drop]
  exact List.take_of_length_le (by simp)
/-- How long a text is. -/
def strLen : Value → Nat
  | .string s => s.size
  | _ => 0
theorem txt_at {w : World} {L : Option Addr} {ls : List Ltr} {k : Nat} (h : LtrsAt w L ls) (hk : k < ls.length) : ∃ ad, L = some ad ∧ w.cell? (ad.add (k * 4)) = some (.string ⟨(txtOf ls k).toArray⟩) ∧ w.cell? ⟨(ad.add (k * 4)).block, (ad.add (k * 4)).off + 1, none⟩ = some (.int .i64 (ls[k]'hk).W) := by
  have hg : ls[k]? = some ls[k] := List.getElem?_eq_getElem hk
  obtain ⟨ad, e, h1, h2, -, -⟩ := h.at_ hg
  exact ⟨ad, e, by rw [txtOf_at hg]; exact h1, h2⟩

end Go.Proofs.YtjelhdpcaileiaaGreatDoor
