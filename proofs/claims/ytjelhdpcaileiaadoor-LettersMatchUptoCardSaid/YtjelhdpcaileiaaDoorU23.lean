/- strings.Cut at a line's end, strings.Trim at the signs of a page: as the walks of Parse want them; SameBits of pages of one shape. -/
import Derived.Test.YtjelhdpcaileiaaDoorU22
import Derived.Test.YtjelhdpcaileiaaDoorU12
import Derived.Shelf.Strings.Cut

namespace Go.Proofs
open Go.Shelf
def Tryd.lays145_ren : Go.Shelf.Ren := ⟨fun | 145 => 31 | 220 => 105 | 219 => 168 | 217 => 195 | 225 => 202 | 224 => 203 | 267 => 204 | 266 => 233 | 314 => 236 | n => n, fun | 9 => 9 | 4 => 4 | 59 => 58 | 3 => 3 | 5 => 5 | 46 => 179 | 146 => 225 | 51 => 28 | n => n, fun | 1 => 0 | n => n⟩
theorem Tryd.lays145 : Go.Proofs.Lays.n145 Tryd.prog Tryd.lays145_ren := {
  mixed := by kernel_rfl
  f145 := Tryd.func31.trans (congrArg some (by kernel_rfl))
  f217 := Tryd.func195.trans (congrArg some (by kernel_rfl))
  f219 := Tryd.func168.trans (congrArg some (by kernel_rfl))
  f220 := Tryd.func105.trans (congrArg some (by kernel_rfl))
  f224 := Tryd.func203.trans (congrArg some (by kernel_rfl))
  f225 := Tryd.func202.trans (congrArg some (by kernel_rfl))
  f266 := Tryd.func233.trans (congrArg some (by kernel_rfl))
  f267 := Tryd.func204.trans (congrArg some (by kernel_rfl))
  f314 := Tryd.func236.trans (congrArg some (by kernel_rfl))
  t3 := Tryd.underlying3
  a3 := Tryd.isAgg3
  z3 := Tryd.sizeOf3
  v3 := Tryd.zeroValue3
  t4 := Tryd.underlying4
  a4 := Tryd.isAgg4
  z4 := Tryd.sizeOf4
  v4 := Tryd.zeroValue4
  t5 := Tryd.underlying5
  a5 := Tryd.isAgg5
  z5 := Tryd.sizeOf5
  v5 := Tryd.zeroValue5
  t9 := Tryd.underlying9
  a9 := Tryd.isAgg9
  z9 := Tryd.sizeOf9
  v9 := Tryd.zeroValue9
  t46 := Tryd.underlying179
  a46 := Tryd.isAgg179
  z46 := Tryd.sizeOf179
  v46 := Tryd.zeroValue179
  t51 := Tryd.underlying28
  a51 := Tryd.isAgg28
  z51 := Tryd.sizeOf28
  v51 := Tryd.zeroValue28
  t59 := Tryd.underlying58
  a59 := Tryd.isAgg58
  z59 := Tryd.sizeOf58
  v59 := Tryd.zeroValue58
  t146 := Tryd.underlying225
  a146 := Tryd.isAgg225
  z146 := Tryd.sizeOf225
  v146 := Tryd.zeroValue225
  g1 := by kernel_rfl }

end Go.Proofs
namespace Go.Proofs.YtjelhdpcaileiaaDoor
open Go.RowKit Go.Shelf

/-- The variable of the library's that strings.Cut's search asks. -/
def CutOk (w : World) : Prop := ∃ m : Int, w.cell? ⟨Tryd.lays145_ren.g 1, 0, none⟩ = some (.int .i64 m)
theorem CutOk.bl {w w' : World} (h : CutOk w) (hb : Bl w w') : CutOk w' := let ⟨m, hm⟩ := h; ⟨m, hb.at hm⟩
theorem bl_drewN (w : World) : ∀ n, Bl w (w.drewN n)
  | 0 => Bl.refl _
  | n + 1 => (bl_drewN w n).drew
theorem cut10_any (t : List UInt8) (w : World) (hlen : t.length ≤ 40200) (hm : CutOk w) :
    Calls Tryd.prog 31 #[.string ⟨t.toArray⟩, .string ⟨#[10]⟩] w fun e w' => e = .returned (.tuple #[.string ⟨(Lib.cut t [10]).1.toArray⟩, .string ⟨(Lib.cut t [10]).2.1.toArray⟩, .bool (Lib.cut t [10]).2.2]) ∧ Bl w w' := by
  obtain ⟨m, hm⟩ := hm
  have h := Any.strings_Cut Tryd.lays145 ⟨t.toArray⟩ ⟨#[10]⟩ m w (by rw [Lib.size_mk]; omega) hm
  refine Calls.mono (R := fun e w' => e = .returned (.tuple #[.string ⟨(Lib.cut t [10]).1.toArray⟩, .string ⟨(Lib.cut t [10]).2.1.toArray⟩, .bool (Lib.cut t [10]).2.2]) ∧ ∃ n, w' = w.drewN n) h ?_
  rintro e w' ⟨rfl, n, rfl⟩
  exact ⟨rfl, bl_drewN w n⟩
theorem trimHd_any (l : List UInt8) (w : World) (hlen : l.length ≤ 40200) :
    Calls Tryd.prog 107 #[.string ⟨l.toArray⟩, .string ⟨#[35, 46]⟩] w fun e w' => ∃ r : ByteArray, e = .returned (.string r) ∧ r.toList.isEmpty = dotL l ∧ Bl w w' := by
  have h := Any.strings_Trim_laid Tryd.lays160 (by kernel_rfl) ⟨l.toArray⟩ ⟨#[35, 46]⟩ w (by rw [Lib.size_mk]; omega) (by decide) (ascii_of_all (by decide))
  refine Calls.mono (R := fun e w' => e = .returned (.string ⟨(Lib.trimS l [35, 46]).toArray⟩) ∧ Below w.heap.size w w') h ?_
  rintro e w' ⟨rfl, hb⟩
  refine ⟨_, rfl, ?_, hb⟩
  rw [Lib.toList_data]
  show (Lib.trimS l [35, 46]).isEmpty = _
  rw [Bool.eq_iff_iff, List.isEmpty_iff, trimS_nil_iff]
  unfold dotL
  rw [decide_eq_true_eq]

set_option maxRecDepth 100000 in
set_option maxHeartbeats 400000 in
theorem sameBitsG_any (a b : Int) (A B : Option Addr) (n c d : Nat) (xs : List Bool) (w : World) (hA : Reads w 1 A n (xs.map .bool)) (hB : Reads w 1 B n (xs.map .bool)) (hl : n ≤ 1099511627776) :
    Calls Tryd.prog 77 #[.agg #[.int .i64 a, .int .i64 b, .slice A n c], .agg #[.int .i64 a, .int .i64 b, .slice B n d]] w fun e w' => e = .returned (.bool true) ∧ Bl w w' := by
  have hn : xs.length = n := by have := hA.1; simpa using this
  have heq := fun (w1 : World) (hb : Bl w w1) => equalBits_any A B c d xs xs w1 (by rw [hn]; exact hA.bl hb) (by rw [hn]; exact hB.bl hb) (by omega)
  rw [hn] at heq
  have Heq := Lib.hid heq; clear heq
  have Hn := Lib.hid hn
  clear hA hB hn
  go_enter Tryd.func77, Tryd.ntmps77
  go_wp2_with fail
  refine (Heq.out _ (((Bl.refl _).alloc _).alloc _)).mono ?_
  rintro e w1 ⟨rfl, hb1⟩
  go_wp2_with fail
  go_ret
  exact ⟨ret_bool (by simp), (((Bl.refl _).alloc _).alloc _).trans hb1⟩

end Go.Proofs.YtjelhdpcaileiaaDoor
