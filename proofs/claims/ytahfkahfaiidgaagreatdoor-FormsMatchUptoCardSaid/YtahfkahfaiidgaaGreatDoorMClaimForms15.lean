/- strings.Split at a space: the words of a text, in new memory. -/
import Derived.Test.YtahfkahfaiidgaaGreatDoorMClaimForms8
import Derived.Test.YtahfkahfaiidgaaGreatDoorMClaimForms2
import Derived.Test.YtahfkahfaiidgaaGreatDoorMClaimForms9
import Derived.Test.YtahfkahfaiidgaaGreatDoorMClaimForms1
import Derived.Shelf.Strings.Split
import Derived.Shelf.Lay
import Derived.Shelf.LaySoft
import Derived.Ground.NamesProg
import Derived.Shelf.Strings.Cut
import Derived.Lib.CutLaws
import Derived.Lib.SlTrimSet

namespace Go.Proofs
open Go.Shelf
def Tryz.laysSplitW_ren : Go.Shelf.Ren := ⟨fun | 146 => 48 | 221 => 90 | 268 => 121 | 138 => 122 | 143 => 123 | 195 => 147 | 197 => 144 | 218 => 148 | 219 => 149 | 260 => 162 | 217 => 165 | 225 => 166 | 224 => 167 | 267 => 168 | 266 => 179 | 314 => 180 | n => n, fun | 9 => 9 | 31 => 101 | 3 => 3 | 4 => 4 | 0 => 0 | 105 => 177 | 21 => 21 | 5 => 5 | 46 => 149 | 119 => 210 | 139 => 213 | 138 => 212 | 146 => 214 | 51 => 172 | n => n, fun | 1 => 0 | 3 => 3 | 4 => 4 | n => n⟩
theorem Tryz.laysSplitW : Go.Proofs.Lays.n146 Tryz.prog Tryz.laysSplitW_ren := {
  mixed := by kernel_rfl
  f138 := Tryz.func122.trans (congrArg some (by kernel_rfl))
  f143 := Tryz.func123.trans (congrArg some (by kernel_rfl))
  f146 := Tryz.func48.trans (congrArg some (by kernel_rfl))
  f195 := Tryz.func147.trans (congrArg some (by kernel_rfl))
  f197 := Tryz.func144.trans (congrArg some (by kernel_rfl))
  f217 := Tryz.func165.trans (congrArg some (by kernel_rfl))
  f218 := Tryz.func148.trans (congrArg some (by kernel_rfl))
  f219 := Tryz.func149.trans (congrArg some (by kernel_rfl))
  f221 := Tryz.func90.trans (congrArg some (by kernel_rfl))
  f224 := Tryz.func167.trans (congrArg some (by kernel_rfl))
  f225 := Tryz.func166.trans (congrArg some (by kernel_rfl))
  f260 := Tryz.func162.trans (congrArg some (by kernel_rfl))
  f266 := Tryz.func179.trans (congrArg some (by kernel_rfl))
  f267 := Tryz.func168.trans (congrArg some (by kernel_rfl))
  f268 := Tryz.func121.trans (congrArg some (by kernel_rfl))
  f314 := Tryz.func180.trans (congrArg some (by kernel_rfl))
  t0 := Tryz.underlying0
  a0 := Tryz.isAgg0
  z0 := Tryz.sizeOf0
  v0 := Tryz.zeroValue0
  t3 := Tryz.underlying3
  a3 := Tryz.isAgg3
  z3 := Tryz.sizeOf3
  v3 := Tryz.zeroValue3
  t4 := Tryz.underlying4
  a4 := Tryz.isAgg4
  z4 := Tryz.sizeOf4
  v4 := Tryz.zeroValue4
  t5 := Tryz.underlying5
  a5 := Tryz.isAgg5
  z5 := Tryz.sizeOf5
  v5 := Tryz.zeroValue5
  t9 := Tryz.underlying9
  a9 := Tryz.isAgg9
  z9 := Tryz.sizeOf9
  v9 := Tryz.zeroValue9
  t21 := Tryz.underlying21
  a21 := Tryz.isAgg21
  z21 := Tryz.sizeOf21
  v21 := Tryz.zeroValue21
  t31 := Tryz.underlying101
  a31 := Tryz.isAgg101
  z31 := Tryz.sizeOf101
  v31 := Tryz.zeroValue101
  t46 := Tryz.underlying149
  a46 := Tryz.isAgg149
  z46 := Tryz.sizeOf149
  v46 := Tryz.zeroValue149
  t51 := Tryz.underlying172
  a51 := Tryz.isAgg172
  z51 := Tryz.sizeOf172
  v51 := Tryz.zeroValue172
  t105 := Tryz.underlying177
  a105 := Tryz.isAgg177
  z105 := Tryz.sizeOf177
  v105 := Tryz.zeroValue177
  t119 := Tryz.underlying210
  a119 := Tryz.isAgg210
  z119 := Tryz.sizeOf210
  t138 := Tryz.underlying212
  a138 := Tryz.isAgg212
  z138 := Tryz.sizeOf212
  v138 := Tryz.zeroValue212
  t139 := Tryz.underlying213
  a139 := Tryz.isAgg213
  z139 := Tryz.sizeOf213
  v139 := Tryz.zeroValue213
  t146 := Tryz.underlying214
  a146 := Tryz.isAgg214
  z146 := Tryz.sizeOf214
  v146 := Tryz.zeroValue214
  g1 := by kernel_rfl
  g3 := by kernel_rfl
  g4 := by kernel_rfl }

end Go.Proofs
namespace Go.Proofs.YtahfkahfaiidgaaGreatDoor
open Go.RowKit Go.Shelf

/-- The library's variable that strings.Split reads holds some int. -/
def SplitOk (w : World) : Prop := ∃ m : Int, w.cell? ⟨Tryz.laysSplitW_ren.g 1, 0, none⟩ = some (.int .i64 m)
theorem SplitOk.bl {w w' : World} (h : SplitOk w) (hb : Bl w w') : SplitOk w' := let ⟨m, hm⟩ := h; ⟨m, hb.at hm⟩
theorem splitS_any (t : List UInt8) (w : World) (hs : t.length < 4294967281) (hC : SplitOk w) :
    Calls Tryz.prog 48 #[.string ⟨t.toArray⟩, .string ⟨#[32]⟩] w fun e w' => ∃ c, e = .returned (.slice (some ⟨w.heap.size, 0, none⟩) (wordsOf t).length c) ∧ Reads w' 1 (some ⟨w.heap.size, 0, none⟩) (wordsOf t).length (strCells' (wordsOf t)) ∧ Bl w w' := by
  obtain ⟨m, hm⟩ := hC
  have hd := Lib.splitB_data ⟨#[32]⟩ 0 (Lib.countB ⟨t.toArray⟩ ⟨#[32]⟩) ⟨t.toArray⟩
  have hl := Lib.splitB_all ⟨#[32]⟩ (by decide) 0 _ ⟨t.toArray⟩ rfl
  have hw : (Lib.splitB ⟨#[32]⟩ 0 (Lib.countB ⟨t.toArray⟩ ⟨#[32]⟩) ⟨t.toArray⟩).map (·.data.toList) = wordsOf t := hd
  have hlen : (wordsOf t).length = Lib.countB ⟨t.toArray⟩ ⟨#[32]⟩ + 1 := by rw [← hw, List.length_map, hl]
  have hc : (Lib.splitB ⟨#[32]⟩ 0 (Lib.countB ⟨t.toArray⟩ ⟨#[32]⟩) ⟨t.toArray⟩).map Value.string = strCells' (wordsOf t) := by
    rw [← hw]
    unfold strCells'
    rw [List.map_map]
    refine List.map_congr_left fun x _ => ?_
    show Value.string x = Value.string ⟨x.data.toList.toArray⟩
    cases x
    simp
  have h := Any.strings_Split Tryz.laysSplitW info_str ⟨t.toArray⟩ ⟨#[32]⟩ m w (by rw [Lib.size_mk]; exact hs) hm (by decide)
  refine Calls.mono (R := fun e w' => e = .returned (.slice (some ⟨w.heap.size, 0, none⟩) (Lib.countB ⟨t.toArray⟩ ⟨#[32]⟩ + 1) (Lib.countB ⟨t.toArray⟩ ⟨#[32]⟩ + 1)) ∧ w' = w.alloc (.cells ((Lib.splitB ⟨#[32]⟩ 0 (Lib.countB ⟨t.toArray⟩ ⟨#[32]⟩) ⟨t.toArray⟩).map Value.string).toArray 9)) h ?_
  rintro e w' ⟨rfl, rfl⟩
  refine ⟨_, by rw [hlen], ?_, (Bl.refl _).alloc _⟩
  rw [hc]
  have hb := Blk.new w 9 (strCells' (wordsOf t)).toArray
  have hr := hb.reads (wordsOf t).length 1 (by simp [strCells'])
  simpa using hr
end Go.Proofs.YtahfkahfaiidgaaGreatDoor
