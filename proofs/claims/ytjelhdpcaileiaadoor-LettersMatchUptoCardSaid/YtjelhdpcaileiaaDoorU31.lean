/- strings.HasPrefix, HasSuffix, and Contains, as the walks of spelling want them. -/
import Derived.Test.YtjelhdpcaileiaaDoorU30
import Derived.Test.YtjelhdpcaileiaaDoorU2
import Derived.Shelf.Lay
import Derived.Shelf.Vars
import Derived.Ground.NamesProg
import Derived.Shelf.Strings.Search3
import Derived.Shelf.Strings.Prefix
import Derived.Lib.TrimByte

namespace Go.Proofs
open Go.Shelf
def Tryd.lays99_ren : Go.Shelf.Ren := ⟨fun | 99 => 166 | 206 => 200 | n => n, fun | 9 => 9 | 4 => 4 | 3 => 3 | n => n, fun | n => n⟩
theorem Tryd.lays99 : Go.Proofs.Lays.n99 Tryd.prog Tryd.lays99_ren := {
  mixed := by kernel_rfl
  f99 := Tryd.func166.trans (congrArg some (by kernel_rfl))
  f206 := Tryd.func200.trans (congrArg some (by kernel_rfl))
  t3 := Tryd.underlying3
  a3 := Tryd.isAgg3
  z3 := Tryd.sizeOf3
  v3 := Tryd.zeroValue3
  t4 := Tryd.underlying4
  a4 := Tryd.isAgg4
  z4 := Tryd.sizeOf4
  v4 := Tryd.zeroValue4
  t9 := Tryd.underlying9
  a9 := Tryd.isAgg9
  z9 := Tryd.sizeOf9
  v9 := Tryd.zeroValue9 }

def Tryd.lays144_ren : Go.Shelf.Ren := ⟨fun | 144 => 30 | 143 => 104 | 219 => 168 | 217 => 195 | 225 => 202 | 224 => 203 | 267 => 204 | 266 => 233 | 314 => 236 | n => n, fun | 9 => 9 | 4 => 4 | 3 => 3 | 5 => 5 | 46 => 179 | 146 => 225 | 51 => 28 | n => n, fun | 1 => 0 | n => n⟩
theorem Tryd.lays144 : Go.Proofs.Lays.n144 Tryd.prog Tryd.lays144_ren := {
  mixed := by kernel_rfl
  f143 := Tryd.func104.trans (congrArg some (by kernel_rfl))
  f144 := Tryd.func30.trans (congrArg some (by kernel_rfl))
  f217 := Tryd.func195.trans (congrArg some (by kernel_rfl))
  f219 := Tryd.func168.trans (congrArg some (by kernel_rfl))
  f224 := Tryd.func203.trans (congrArg some (by kernel_rfl))
  f225 := Tryd.func202.trans (congrArg some (by kernel_rfl))
  f266 := Tryd.func233.trans (congrArg some (by kernel_rfl))
  f267 := Tryd.func204.trans (congrArg some (by kernel_rfl))
  f314 := Tryd.func236.trans (congrArg some (by kernel_rfl))
  t3 := Tryd.underlying3
  a3 := Tryd.isAgg3
  z3 := Tryd.sizeOf3
  v3 := Tryd.zeroValue3
  t4 := Tryd.underlying4
  a4 := Tryd.isAgg4
  z4 := Tryd.sizeOf4
  v4 := Tryd.zeroValue4
  t5 := Tryd.underlying5
  a5 := Tryd.isAgg5
  z5 := Tryd.sizeOf5
  v5 := Tryd.zeroValue5
  t9 := Tryd.underlying9
  a9 := Tryd.isAgg9
  z9 := Tryd.sizeOf9
  v9 := Tryd.zeroValue9
  t46 := Tryd.underlying179
  a46 := Tryd.isAgg179
  z46 := Tryd.sizeOf179
  v46 := Tryd.zeroValue179
  t51 := Tryd.underlying28
  a51 := Tryd.isAgg28
  z51 := Tryd.sizeOf28
  v51 := Tryd.zeroValue28
  t146 := Tryd.underlying225
  a146 := Tryd.isAgg225
  z146 := Tryd.sizeOf225
  v146 := Tryd.zeroValue225
  g1 := by kernel_rfl }

end Go.Proofs
namespace Go.Proofs.YtjelhdpcaileiaaDoor
open Go.RowKit Go.Shelf

/-- The variable of the library's that a search asks. -/
def SubOk (w : World) : Prop := ∃ m : Int, w.cell? ⟨Tryd.lays144_ren.g 1, 0, none⟩ = some (.int .i64 m)
theorem SubOk.bl {w w' : World} (h : SubOk w) (hb : Bl w w') : SubOk w' := let ⟨m, hm⟩ := h; ⟨m, hb.at hm⟩
theorem hasPrefix_any (s p : List UInt8) (w : World) : Calls Tryd.prog 166 #[.string ⟨s.toArray⟩, .string ⟨p.toArray⟩] w fun e w' => e = .returned (.bool (Lib.hasPrefix s p)) ∧ w = w' := by
  have h := Any.strings_HasPrefix Tryd.lays99 ⟨s.toArray⟩ ⟨p.toArray⟩ w
  refine Calls.mono (R := fun e w' => e = .returned (.bool (Lib.hasPrefix s p)) ∧ w' = w) h ?_
  rintro e w' ⟨rfl, rfl⟩
  exact ⟨rfl, rfl⟩
theorem contains_any (s p : List UInt8) (w : World) (hs : s.length < 4294967281) (hm : SubOk w) : Calls Tryd.prog 30 #[.string ⟨s.toArray⟩, .string ⟨p.toArray⟩] w fun e w' => e = .returned (.bool (Lib.contains s p)) ∧ w = w' := by
  obtain ⟨m, hm⟩ := hm
  have h := Any.strings_Contains Tryd.lays144 ⟨s.toArray⟩ ⟨p.toArray⟩ m w (by rw [Lib.size_mk]; exact hs) hm
  refine Calls.mono (R := fun e w' => e = .returned (.bool (Lib.contains s p)) ∧ w' = w) h ?_
  rintro e w' ⟨rfl, rfl⟩
  exact ⟨rfl, rfl⟩
theorem extract_drop (l : List UInt8) (k : Nat) : (⟨l.toArray⟩ : ByteArray).extract k l.length = ⟨(l.drop k).toArray⟩ := by
  apply ByteArray.ext
  rw [ByteArray.data_extract]
  apply Array.ext'
  simp only [Array.toList_extract, List.extract_eq_take_drop]
  exact List.take_of_length_le (by simp)
/-- How long a text is. -/
def strLen : Value → Nat
  | .string s => s.size
  | _ => 0
theorem txt_at {w : World} {L : Option Addr} {ls : List Ltr} {k : Nat} (h : LtrsAt w L ls) (hk : k < ls.length) : ∃ ad, L = some ad ∧ w.cell? (ad.add (k * 4)) = some (.string ⟨(txtOf ls k).toArray⟩) ∧ w.cell? ⟨(ad.add (k * 4)).block, (ad.add (k * 4)).off + 1, none⟩ = some (.int .i64 (ls[k]'hk).W) := by
  have hg : ls[k]? = some ls[k] := List.getElem?_eq_getElem hk
  obtain ⟨ad, e, h1, h2, -, -⟩ := h.at_ hg
  exact ⟨ad, e, by rw [txtOf_at hg]; exact h1, h2⟩

end Go.Proofs.YtjelhdpcaileiaaDoor
