/- page.Parse: a page is read out of a text. -/
import Derived.Test.YtjelhdpcaileiaaGreatDoorS7
import Derived.Test.YtjelhdpcaileiaaGreatDoorS8
import Derived.Test.YtjelhdpcaileiaaGreatDoorS0
import Derived.Shelf.Strings.Cut

namespace Go.Proofs
open Go.Shelf
def Tryz.lays145_ren : Go.Shelf.Ren := ⟨fun | 145 => 81 | 220 => 156 | 219 => 160 | 217 => 131 | 225 => 235 | 224 => 236 | 267 => 237 | 266 => 219 | 314 => 306 | n => n, fun | 9 => 9 | 4 => 4 | 59 => 132 | 3 => 3 | 5 => 5 | 46 => 41 | 146 => 268 | 51 => 267 | n => n, fun | 1 => 0 | n => n⟩
theorem Tryz.lays145 : Go.Proofs.Lays.n145 Tryz.prog Tryz.lays145_ren := {
  mixed := by kernel_rfl
  f145 := Tryz.func81.trans (congrArg some (by kernel_rfl))
  f217 := Tryz.func131.trans (congrArg some (by kernel_rfl))
  f219 := Tryz.func160.trans (congrArg some (by kernel_rfl))
  f220 := Tryz.func156.trans (congrArg some (by kernel_rfl))
  f224 := Tryz.func236.trans (congrArg some (by kernel_rfl))
  f225 := Tryz.func235.trans (congrArg some (by kernel_rfl))
  f266 := Tryz.func219.trans (congrArg some (by kernel_rfl))
  f267 := Tryz.func237.trans (congrArg some (by kernel_rfl))
  f314 := Tryz.func306.trans (congrArg some (by kernel_rfl))
  t3 := Tryz.underlying3
  a3 := Tryz.isAgg3
  z3 := Tryz.sizeOf3
  v3 := Tryz.zeroValue3
  t4 := Tryz.underlying4
  a4 := Tryz.isAgg4
  z4 := Tryz.sizeOf4
  v4 := Tryz.zeroValue4
  t5 := Tryz.underlying5
  a5 := Tryz.isAgg5
  z5 := Tryz.sizeOf5
  v5 := Tryz.zeroValue5
  t9 := Tryz.underlying9
  a9 := Tryz.isAgg9
  z9 := Tryz.sizeOf9
  v9 := Tryz.zeroValue9
  t46 := Tryz.underlying41
  a46 := Tryz.isAgg41
  z46 := Tryz.sizeOf41
  v46 := Tryz.zeroValue41
  t51 := Tryz.underlying267
  a51 := Tryz.isAgg267
  z51 := Tryz.sizeOf267
  v51 := Tryz.zeroValue267
  t59 := Tryz.underlying132
  a59 := Tryz.isAgg132
  z59 := Tryz.sizeOf132
  v59 := Tryz.zeroValue132
  t146 := Tryz.underlying268
  a146 := Tryz.isAgg268
  z146 := Tryz.sizeOf268
  v146 := Tryz.zeroValue268
  g1 := by kernel_rfl }

end Go.Proofs
namespace Go.Proofs.YtjelhdpcaileiaaGreatDoor
open Go.RowKit Go.Shelf

/-- The variable of the library's that strings.Cut's search asks. -/
def CutOk (w : World) : Prop := ∃ m : Int, w.cell? ⟨Tryz.lays145_ren.g 1, 0, none⟩ = some (.int .i64 m)
theorem CutOk.bl {w w' : World} (h : CutOk w) (hb : Bl w w') : CutOk w' := let ⟨m, hm⟩ := h; ⟨m, hb.at hm⟩
theorem bl_drewN (w : World) : ∀ n, Bl w (w.drewN n)
  | 0 => Bl.refl _
  | n + 1 => (bl_drewN w n).drew
theorem cut10_any (t : List UInt8) (w : World) (hlen : t.length ≤ 40200) (hm : CutOk w) :
    Calls Tryz.prog 81 #[.string ⟨t.toArray⟩, .string ⟨#[10]⟩] w fun e w' => e = .returned (.tuple #[.string ⟨(Lib.cut t [10]).1.toArray⟩, .string ⟨(Lib.cut t [10]).2.1.toArray⟩, .bool (Lib.cut t [10]).2.2]) ∧ Bl w w' := by
  obtain ⟨m, hm⟩ := hm
  have h := Any.strings_Cut Tryz.lays145 ⟨t.toArray⟩ ⟨#[10]⟩ m w (by rw [Lib.size_mk]; omega) hm
  refine Calls.mono (R := fun e w' => e = .returned (.tuple #[.string ⟨(Lib.cut t [10]).1.toArray⟩, .string ⟨(Lib.cut t [10]).2.1.toArray⟩, .bool (Lib.cut t [10]).2.2]) ∧ ∃ n, w' = w.drewN n) h ?_
  rintro e w' ⟨rfl, n, rfl⟩
  exact ⟨rfl, bl_drewN w n⟩
theorem trimHd_any (l : List UInt8) (w : World) (hlen : l.length ≤ 40200) :
    Calls Tryz.prog 59 #[.string ⟨l.toArray⟩, .string ⟨#[35, 46]⟩] w fun e w' => ∃ r : ByteArray, e = .returned (.string r) ∧ r.toList.isEmpty = dotL l ∧ Bl w w' := by
  have h := Any.strings_Trim_laid Tryz.lays160 (by kernel_rfl) ⟨l.toArray⟩ ⟨#[35, 46]⟩ w (by rw [Lib.size_mk]; omega) (by decide) (ascii_of_all (by decide))
  refine Calls.mono (R := fun e w' => e = .returned (.string ⟨(Lib.trimS l [35, 46]).toArray⟩) ∧ Below w.heap.size w w') h ?_
  rintro e w' ⟨rfl, hb⟩
  refine ⟨_, rfl, ?_, hb⟩
  rw [Lib.toList_data]
  show (Lib.trimS l [35, 46]).isEmpty = _
  rw [Bool.eq_iff_iff, List.isEmpty_iff, trimS_nil_iff]
  unfold dotL
  rw [decide_eq_true_eq]

set_option maxRecDepth 100000 in
set_option maxHeartbeats 400000 in
theorem sameBitsG_any (a b : Int) (A B : Option Addr) (n c d : Nat) (xs : List Bool) (w : World) (hA : Reads w 1 A n (xs.map .bool)) (hB : Reads w 1 B n (xs.map .bool)) (hl : n ≤ 1099511627776) :
    Calls Tryz.prog 87 #[.agg #[.int .i64 a, .int .i64 b, .slice A n c], .agg #[.int .i64 a, .int .i64 b, .slice B n d]] w fun e w' => e = .returned (.bool true) ∧ Bl w w' := by
  have hn : xs.length = n := by have := hA.1; simpa using this
  have heq := fun (w1 : World) (hb : Bl w w1) => equalBits_any A B c d xs xs w1 (by rw [hn]; exact hA.bl hb) (by rw [hn]; exact hB.bl hb) (by omega)
  rw [hn] at heq
  have Heq := Lib.hid heq; clear heq
  have Hn := Lib.hid hn
  clear hA hB hn
  go_enter Tryz.func87, Tryz.ntmps87
  go_wp2_with fail
  refine (Heq.out _ (((Bl.refl _).alloc _).alloc _)).mono ?_
  rintro e w1 ⟨rfl, hb1⟩
  go_wp2_with fail
  go_ret
  exact ⟨ret_bool (by simp), (((Bl.refl _).alloc _).alloc _).trans hb1⟩

end Go.Proofs.YtjelhdpcaileiaaGreatDoor


/-! page.Parse: a page is read out of a text. -/
namespace Go.Proofs.YtjelhdpcaileiaaGreatDoor
open Go.RowKit Go.Shelf

/-- What a reader of pages answers. -/
def ParseRes (w : World) (r : PageR) (e : Ending) : Prop := ∃ R c, e = .returned (.tuple #[.agg #[.int .i64 (r.1 : Nat), .int .i64 (r.2.1 : Nat), .slice R r.2.2.1.length c], .int .i64 (r.2.2.2.1 : Nat), .int .i64 r.2.2.2.2]) ∧ Reads w 1 R r.2.2.1.length (r.2.2.1.map .bool)
theorem ParseRes.none (w : World) (a : Nat) (k : Int) : ParseRes w (0, 0, [], a, k) (.returned (.tuple #[.agg #[.int .i64 0, .int .i64 0, .slice none 0 0], .int .i64 (a : Int), .int .i64 k])) := ⟨.none, 0, rfl, Reads.none_⟩
theorem u8_is35 (c : UInt8) : ((c.toNat : Int) == 35) = (c == 35) := by
  rw [Bool.eq_iff_iff, beq_iff_eq, beq_iff_eq]
  constructor
  · intro h
    have : c.toNat = 35 := by omega
    exact UInt8.toNat_inj.1 this
  · intro h; subst h; rfl
theorem finP_ok {W H : Nat} {P : List Bool} (h1 : H ≠ 0) (h2 : ¬ (200 < H ∨ 200 < W)) : finP W H P = (W, H, P, 0, 0) := by unfold finP; rw [if_neg h1, if_neg h2]
theorem finP_large {W H : Nat} {P : List Bool} (h1 : H ≠ 0) (h2 : 200 < H ∨ 200 < W) : finP W H P = (0, 0, [], 0, 4) := by unfold finP; rw [if_neg h1, if_pos h2]
theorem finP_none {W : Nat} {P : List Bool} : finP W 0 P = (0, 0, [], 0, 9) := by unfold finP; rw [if_pos rfl]

end Go.Proofs.YtjelhdpcaileiaaGreatDoor
