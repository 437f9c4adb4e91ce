/- strings.Split at a space: the words of a text, in new memory. -/
import Derived.Test.YtjelhdpcaileiaaGreatDoorS4
import Derived.Test.YtjelhdpcaileiaaGreatDoorS2
import Derived.Test.YtjelhdpcaileiaaGreatDoorS13
import Derived.Shelf.Strings.Split
import Derived.Shelf.Lay
import Derived.Shelf.LaySoft
import Derived.Ground.NamesProg

namespace Go.Proofs
open Go.Shelf
def Tryz.laysSplitW_ren : Go.Shelf.Ren := ⟨fun | 146 => 109 | 221 => 188 | 268 => 250 | 138 => 25 | 143 => 90 | 195 => 88 | 197 => 213 | 218 => 89 | 219 => 160 | 260 => 282 | 217 => 131 | 225 => 235 | 224 => 236 | 267 => 237 | 266 => 219 | 314 => 306 | n => n, fun | 9 => 9 | 31 => 99 | 3 => 3 | 4 => 4 | 0 => 0 | 105 => 261 | 21 => 21 | 5 => 5 | 46 => 41 | 119 => 265 | 139 => 380 | 138 => 379 | 146 => 268 | 51 => 267 | n => n, fun | 1 => 0 | 3 => 3 | 4 => 4 | n => n⟩
theorem Tryz.laysSplitW : Go.Proofs.Lays.n146 Tryz.prog Tryz.laysSplitW_ren := {
  mixed := by kernel_rfl
  f138 := Tryz.func25.trans (congrArg some (by kernel_rfl))
  f143 := Tryz.func90.trans (congrArg some (by kernel_rfl))
  f146 := Tryz.func109.trans (congrArg some (by kernel_rfl))
  f195 := Tryz.func88.trans (congrArg some (by kernel_rfl))
  f197 := Tryz.func213.trans (congrArg some (by kernel_rfl))
  f217 := Tryz.func131.trans (congrArg some (by kernel_rfl))
  f218 := Tryz.func89.trans (congrArg some (by kernel_rfl))
  f219 := Tryz.func160.trans (congrArg some (by kernel_rfl))
  f221 := Tryz.func188.trans (congrArg some (by kernel_rfl))
  f224 := Tryz.func236.trans (congrArg some (by kernel_rfl))
  f225 := Tryz.func235.trans (congrArg some (by kernel_rfl))
  f260 := Tryz.func282.trans (congrArg some (by kernel_rfl))
  f266 := Tryz.func219.trans (congrArg some (by kernel_rfl))
  f267 := Tryz.func237.trans (congrArg some (by kernel_rfl))
  f268 := Tryz.func250.trans (congrArg some (by kernel_rfl))
  f314 := Tryz.func306.trans (congrArg some (by kernel_rfl))
  t0 := Tryz.underlying0
  a0 := Tryz.isAgg0
  z0 := Tryz.sizeOf0
  v0 := Tryz.zeroValue0
  t3 := Tryz.underlying3
  a3 := Tryz.isAgg3
  z3 := Tryz.sizeOf3
  v3 := Tryz.zeroValue3
  t4 := Tryz.underlying4
  a4 := Tryz.isAgg4
  z4 := Tryz.sizeOf4
  v4 := Tryz.zeroValue4
  t5 := Tryz.underlying5
  a5 := Tryz.isAgg5
  z5 := Tryz.sizeOf5
  v5 := Tryz.zeroValue5
  t9 := Tryz.underlying9
  a9 := Tryz.isAgg9
  z9 := Tryz.sizeOf9
  v9 := Tryz.zeroValue9
  t21 := Tryz.underlying21
  a21 := Tryz.isAgg21
  z21 := Tryz.sizeOf21
  v21 := Tryz.zeroValue21
  t31 := Tryz.underlying99
  a31 := Tryz.isAgg99
  z31 := Tryz.sizeOf99
  v31 := Tryz.zeroValue99
  t46 := Tryz.underlying41
  a46 := Tryz.isAgg41
  z46 := Tryz.sizeOf41
  v46 := Tryz.zeroValue41
  t51 := Tryz.underlying267
  a51 := Tryz.isAgg267
  z51 := Tryz.sizeOf267
  v51 := Tryz.zeroValue267
  t105 := Tryz.underlying261
  a105 := Tryz.isAgg261
  z105 := Tryz.sizeOf261
  v105 := Tryz.zeroValue261
  t119 := Tryz.underlying265
  a119 := Tryz.isAgg265
  z119 := Tryz.sizeOf265
  t138 := Tryz.underlying379
  a138 := Tryz.isAgg379
  z138 := Tryz.sizeOf379
  v138 := Tryz.zeroValue379
  t139 := Tryz.underlying380
  a139 := Tryz.isAgg380
  z139 := Tryz.sizeOf380
  v139 := Tryz.zeroValue380
  t146 := Tryz.underlying268
  a146 := Tryz.isAgg268
  z146 := Tryz.sizeOf268
  v146 := Tryz.zeroValue268
  g1 := by kernel_rfl
  g3 := by kernel_rfl
  g4 := by kernel_rfl }

end Go.Proofs
namespace Go.Proofs.YtjelhdpcaileiaaGreatDoor
open Go.RowKit Go.Shelf

theorem splitW_cell : ∃ g, g = Tryz.lays145_ren.g 1 ∧ ∀ (m : Int) (w : World), w.cell? ⟨g, 0, none⟩ = some (.int .i64 m) → w.cell? ⟨Tryz.laysSplitW_ren.g 1, 0, none⟩ = some (.int .i64 m) := by
  have e : Tryz.laysSplitW_ren.g 1 = Tryz.lays145_ren.g 1 := by kernel_rfl
  exact ⟨_, rfl, fun m w h => by rw [e]; exact h⟩
theorem splitW_any (t : List UInt8) (w : World) (hs : t.length < 4294967281) (hC : CutOk w) :
    Calls Tryz.prog 109 #[.string ⟨t.toArray⟩, .string ⟨#[32]⟩] w fun e w' => ∃ c, e = .returned (.slice (some ⟨w.heap.size, 0, none⟩) (wordsOf t).length c) ∧ Reads w' 1 (some ⟨w.heap.size, 0, none⟩) (wordsOf t).length (strCells' (wordsOf t)) ∧ Bl w w' := by
  obtain ⟨m, hm⟩ := hC
  obtain ⟨g, rfl, hg⟩ := splitW_cell
  have hm := hg m w hm
  have hd := Lib.splitB_data ⟨#[32]⟩ 0 (Lib.countB ⟨t.toArray⟩ ⟨#[32]⟩) ⟨t.toArray⟩
  have hl := Lib.splitB_all ⟨#[32]⟩ (by decide) 0 _ ⟨t.toArray⟩ rfl
  have hw : (Lib.splitB ⟨#[32]⟩ 0 (Lib.countB ⟨t.toArray⟩ ⟨#[32]⟩) ⟨t.toArray⟩).map (·.data.toList) = wordsOf t := hd
  have hlen : (wordsOf t).length = Lib.countB ⟨t.toArray⟩ ⟨#[32]⟩ + 1 := by rw [← hw, List.length_map, hl]
  have hc : (Lib.splitB ⟨#[32]⟩ 0 (Lib.countB ⟨t.toArray⟩ ⟨#[32]⟩) ⟨t.toArray⟩).map Value.string = strCells' (wordsOf t) := by
    rw [← hw]
    unfold strCells'
    rw [List.map_map]
    refine List.map_congr_left fun x _ => ?_
    show Value.string x = Value.string ⟨x.data.toList.toArray⟩
    cases x
    simp
  have h := Any.strings_Split Tryz.laysSplitW info_str ⟨t.toArray⟩ ⟨#[32]⟩ m w (by rw [Lib.size_mk]; exact hs) hm (by decide)
  refine Calls.mono (R := fun e w' => e = .returned (.slice (some ⟨w.heap.size, 0, none⟩) (Lib.countB ⟨t.toArray⟩ ⟨#[32]⟩ + 1) (Lib.countB ⟨t.toArray⟩ ⟨#[32]⟩ + 1)) ∧ w' = w.alloc (.cells ((Lib.splitB ⟨#[32]⟩ 0 (Lib.countB ⟨t.toArray⟩ ⟨#[32]⟩) ⟨t.toArray⟩).map Value.string).toArray 9)) h ?_
  rintro e w' ⟨rfl, rfl⟩
  refine ⟨_, by rw [hlen], ?_, (Bl.refl _).alloc _⟩
  rw [hc]
  have hb := Blk.new w 9 (strCells' (wordsOf t)).toArray
  have hr := hb.reads (wordsOf t).length 1 (by simp [strCells'])
  simpa using hr
end Go.Proofs.YtjelhdpcaileiaaGreatDoor
