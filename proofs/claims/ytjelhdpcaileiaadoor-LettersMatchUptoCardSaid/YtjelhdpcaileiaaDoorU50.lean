/- slices.Equal of texts, strings.Split at a space, bedref2.FitOf. -/
import Derived.Test.YtjelhdpcaileiaaDoorU48
import Derived.Test.YtjelhdpcaileiaaDoorU49
import Derived.Test.YtjelhdpcaileiaaDoorU45
import Derived.Shelf.Strings.Split

namespace Go.Proofs
open Go.Shelf
def Tryd.lays146_ren : Go.Shelf.Ren := ⟨fun | 146 => 102 | 221 => 167 | 268 => 201 | 138 => 197 | 143 => 104 | 195 => 234 | 197 => 207 | 218 => 235 | 219 => 168 | 260 => 237 | 217 => 195 | 225 => 202 | 224 => 203 | 267 => 204 | 266 => 233 | 314 => 236 | n => n, fun | 9 => 9 | 31 => 52 | 3 => 3 | 4 => 4 | 0 => 0 | 105 => 222 | 21 => 21 | 5 => 5 | 46 => 179 | 119 => 235 | 139 => 263 | 138 => 262 | 146 => 225 | 51 => 28 | n => n, fun | 1 => 0 | 3 => 3 | 4 => 4 | n => n⟩
theorem Tryd.lays146 : Go.Proofs.Lays.n146 Tryd.prog Tryd.lays146_ren := {
  mixed := by kernel_rfl
  f138 := Tryd.func197.trans (congrArg some (by kernel_rfl))
  f143 := Tryd.func104.trans (congrArg some (by kernel_rfl))
  f146 := Tryd.func102.trans (congrArg some (by kernel_rfl))
  f195 := Tryd.func234.trans (congrArg some (by kernel_rfl))
  f197 := Tryd.func207.trans (congrArg some (by kernel_rfl))
  f217 := Tryd.func195.trans (congrArg some (by kernel_rfl))
  f218 := Tryd.func235.trans (congrArg some (by kernel_rfl))
  f219 := Tryd.func168.trans (congrArg some (by kernel_rfl))
  f221 := Tryd.func167.trans (congrArg some (by kernel_rfl))
  f224 := Tryd.func203.trans (congrArg some (by kernel_rfl))
  f225 := Tryd.func202.trans (congrArg some (by kernel_rfl))
  f260 := Tryd.func237.trans (congrArg some (by kernel_rfl))
  f266 := Tryd.func233.trans (congrArg some (by kernel_rfl))
  f267 := Tryd.func204.trans (congrArg some (by kernel_rfl))
  f268 := Tryd.func201.trans (congrArg some (by kernel_rfl))
  f314 := Tryd.func236.trans (congrArg some (by kernel_rfl))
  t0 := Tryd.underlying0
  a0 := Tryd.isAgg0
  z0 := Tryd.sizeOf0
  v0 := Tryd.zeroValue0
  t3 := Tryd.underlying3
  a3 := Tryd.isAgg3
  z3 := Tryd.sizeOf3
  v3 := Tryd.zeroValue3
  t4 := Tryd.underlying4
  a4 := Tryd.isAgg4
  z4 := Tryd.sizeOf4
  v4 := Tryd.zeroValue4
  t5 := Tryd.underlying5
  a5 := Tryd.isAgg5
  z5 := Tryd.sizeOf5
  v5 := Tryd.zeroValue5
  t9 := Tryd.underlying9
  a9 := Tryd.isAgg9
  z9 := Tryd.sizeOf9
  v9 := Tryd.zeroValue9
  t21 := Tryd.underlying21
  a21 := Tryd.isAgg21
  z21 := Tryd.sizeOf21
  v21 := Tryd.zeroValue21
  t31 := Tryd.underlying52
  a31 := Tryd.isAgg52
  z31 := Tryd.sizeOf52
  v31 := Tryd.zeroValue52
  t46 := Tryd.underlying179
  a46 := Tryd.isAgg179
  z46 := Tryd.sizeOf179
  v46 := Tryd.zeroValue179
  t51 := Tryd.underlying28
  a51 := Tryd.isAgg28
  z51 := Tryd.sizeOf28
  v51 := Tryd.zeroValue28
  t105 := Tryd.underlying222
  a105 := Tryd.isAgg222
  z105 := Tryd.sizeOf222
  v105 := Tryd.zeroValue222
  t119 := Tryd.underlying235
  a119 := Tryd.isAgg235
  z119 := Tryd.sizeOf235
  t138 := Tryd.underlying262
  a138 := Tryd.isAgg262
  z138 := Tryd.sizeOf262
  v138 := Tryd.zeroValue262
  t139 := Tryd.underlying263
  a139 := Tryd.isAgg263
  z139 := Tryd.sizeOf263
  v139 := Tryd.zeroValue263
  t146 := Tryd.underlying225
  a146 := Tryd.isAgg225
  z146 := Tryd.sizeOf225
  v146 := Tryd.zeroValue225
  g1 := by kernel_rfl
  g3 := by kernel_rfl
  g4 := by kernel_rfl }

end Go.Proofs
namespace Go.Proofs.YtjelhdpcaileiaaDoor
open Go.RowKit Go.Shelf

/-- The words of a text, in new memory. -/
theorem split_any (t : List UInt8) (w : World) (hs : t.length < 4294967281) (hm : SubOk w) :
    Calls Tryd.prog 102 #[.string ⟨t.toArray⟩, .string ⟨#[32]⟩] w fun e w' => ∃ c, e = .returned (.slice (some ⟨w.heap.size, 0, none⟩) (wordsOf t).length c) ∧ Reads w' 1 (some ⟨w.heap.size, 0, none⟩) (wordsOf t).length (strCells' (wordsOf t)) ∧ Bl w w' := by
  obtain ⟨m, hm⟩ := hm
  have hd := Lib.splitB_data ⟨#[32]⟩ 0 (Lib.countB ⟨t.toArray⟩ ⟨#[32]⟩) ⟨t.toArray⟩
  have hl := Lib.splitB_all ⟨#[32]⟩ (by decide) 0 _ ⟨t.toArray⟩ rfl
  have hw : (Lib.splitB ⟨#[32]⟩ 0 (Lib.countB ⟨t.toArray⟩ ⟨#[32]⟩) ⟨t.toArray⟩).map (·.data.toList) = wordsOf t := hd
  have hlen : (wordsOf t).length = Lib.countB ⟨t.toArray⟩ ⟨#[32]⟩ + 1 := by rw [← hw, List.length_map, hl]
  have hc : (Lib.splitB ⟨#[32]⟩ 0 (Lib.countB ⟨t.toArray⟩ ⟨#[32]⟩) ⟨t.toArray⟩).map Value.string = strCells' (wordsOf t) := by
    rw [← hw]
    unfold strCells'
    rw [List.map_map]
    refine List.map_congr_left fun x _ => ?_
    show Value.string x = Value.string ⟨x.data.toList.toArray⟩
    cases x
    simp
  have h := Any.strings_Split Tryd.lays146 info_str ⟨t.toArray⟩ ⟨#[32]⟩ m w (by rw [Lib.size_mk]; exact hs) hm (by decide)
  refine Calls.mono (R := fun e w' => e = .returned (.slice (some ⟨w.heap.size, 0, none⟩) (Lib.countB ⟨t.toArray⟩ ⟨#[32]⟩ + 1) (Lib.countB ⟨t.toArray⟩ ⟨#[32]⟩ + 1)) ∧ w' = w.alloc (.cells ((Lib.splitB ⟨#[32]⟩ 0 (Lib.countB ⟨t.toArray⟩ ⟨#[32]⟩) ⟨t.toArray⟩).map Value.string).toArray 9)) h ?_
  rintro e w' ⟨rfl, rfl⟩
  refine ⟨_, by rw [hlen], ?_, (Bl.refl _).alloc _⟩
  rw [hc]
  have hb := Blk.new w 9 (strCells' (wordsOf t)).toArray
  have hr := hb.reads (wordsOf t).length 1 (by simp [strCells'])
  simpa using hr
end Go.Proofs.YtjelhdpcaileiaaDoor
