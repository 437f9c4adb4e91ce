/- From a statement's row to a walk: fonts and samples that read as data are opened. No condition. -/
import Derived.Test.YthobmednnocklaaGreatDoorMClaimFills4
import Derived.Test.YthobmednnocklaaGreatDoorMClaimFills1
import Derived.Test.YthobmednnocklaaGreatDoorMClaimFills6
import Derived.Test.YthobmednnocklaaGreatDoorMClaimFills3
import Derived.Test.YthobmednnocklaaGreatDoorMClaimFills9
import Derived.Test.YthobmednnocklaaGreatDoorMClaimFills2
import Derived.Test.YthobmednnocklaaGreatDoorMClaimFills8
import Derived.Shelf.SlicesE.Reverse
import Derived.Shelf.SlGeneric
import Derived.Ground.SlgnProg
import Derived.Laws.IdiomStrings
import Derived.Lib.ConvBytes
import Derived.Lib.OwnBridge
import Derived.Shelf.Strings.Cut
import Derived.Lib.CutLaws
import Derived.Lib.SlTrimSet
import Derived.Shelf.Bits.Mul64
import Derived.WalkKit
import Derived.Lib.AppendIntMem
import Derived.Lib.AtoiTie
import Derived.Lib.AtoiAllCases
import Derived.Shelf.Strconv.ErrVarAll
import Derived.Shelf.Strconv.Itoa3
import Derived.Shelf.Small.Wraps
import Derived.Shelf.LaySoft
import Derived.Ground.NamesProg
import Derived.Lib.IndexMore
import Derived.Lib.Strings
import Derived.Shelf.Strings.Split
import Derived.Lib.Split
import Derived.Lib.CountLaws
import Derived.Lib.SliceRun

namespace Go.Proofs
open Go.Shelf
def Tryz.laysRevB_ren : Go.Shelf.Ren := ⟨fun | 35 => 295 | n => n, fun | 22 => 193 | 23 => 5 | 3 => 3 | 4 => 4 | 0 => 0 | n => n, fun | n => n⟩
theorem Tryz.laysRevB : Go.Proofs.SlLaysE.n35 Tryz.prog Tryz.laysRevB_ren := {
 mixed := by kernel_rfl
 f35 := ⟨Tryz.f295.name, by decide, Tryz.func295.trans (congrArg some (by kernel_rfl))⟩
 t0 := Tryz.underlying0
 a0 := Tryz.isAgg0
 z0 := Tryz.sizeOf0
 v0 := Tryz.zeroValue0
 t3 := Tryz.underlying3
 a3 := Tryz.isAgg3
 z3 := Tryz.sizeOf3
 v3 := Tryz.zeroValue3
 t4 := Tryz.underlying4
 a4 := Tryz.isAgg4
 z4 := Tryz.sizeOf4
 v4 := Tryz.zeroValue4
 t22 := Tryz.underlying193
 a22 := Tryz.isAgg193
 z22 := Tryz.sizeOf193
 v22 := Tryz.zeroValue193
 a23 := Tryz.isAgg5
 z23 := Tryz.sizeOf5 }

end Go.Proofs
namespace Go.Proofs.YthobmednnocklaaGreatDoor
open Go.RowKit Go.Shelf Go.Sort

def encB (b : UInt8) : Value := .int .u8 (b.toNat : Int)
theorem bl_bytes (w : World) (e : TypeId) (s : ByteArray) : Bl w (Lib.bytesWorld w e s) := ⟨rfl, rfl, rfl, by rw [Lib.bytesWorld_size]; omega, fun j hj => Lib.bytesWorld_at_old w e s j hj⟩
theorem holds_bytes (w : World) (e : TypeId) (l : List UInt8) : Holds encB (Lib.bytesWorld w e ⟨l.toArray⟩) w.heap.size 0 l.toArray := fun j hj => by
 have hj' : j < l.length := by simpa using hj
 rw [Nat.zero_add]
 refine ⟨?_, ?_⟩
 · have h := Lib.bytesWorld_cell w e ⟨l.toArray⟩ j (by rw [Lib.size_mk]; exact hj')
   rw [h]
   unfold encB
   simp [List.getD, hj']
 · unfold World.frozen?
   rw [Lib.bytesWorld_at_new]
   have : l.length ≤ (Lib.bytesCells w e ⟨l.toArray⟩).size := by
    unfold Lib.bytesCells
    simp
   simp
   omega
theorem reverse_any (g cap : Nat) (l : List UInt8) (w : World) (hl : l.length ≤ 9223372036854775807) (hH : Holds encB w g 0 l.toArray) :
 Calls Tryz.prog 295 #[.slice (some ⟨g, 0, none⟩) l.length cap] w fun e w' => e = .returned (.tuple #[]) ∧ Holds encB w' g 0 l.reverse.toArray ∧ ∀ w0, Bl w0 w → w0.heap.size ≤ g → Bl w0 w' := by
 have h := AnyE.slices_Reverse Tryz.laysRevB encB (fun _ => rfl) g 0 cap l w hH hl
 refine Calls.mono (R := fun e w' => e = .returned (.tuple #[]) ∧ ∃ n, w' = putRow encB (Sort.ahead w n) g 0 l.reverse.toArray) h ?_
 rintro e w' ⟨rfl, n, rfl⟩
 refine ⟨rfl, holds_putRow encB _ _ _ l.toArray _ (fun j hj => hH j hj) (by simp), fun w0 hb hg => Lib.below_putRow (q := n) hb hg⟩
def FlipRes (l : List UInt8) (w : World) (e : Ending) (w' : World) : Prop := e = .returned (.string ⟨l.reverse.toArray⟩) ∧ Bl w w'

set_option maxRecDepth 100000 in
set_option maxHeartbeats 1000000 in
theorem flip_any (l : List UInt8) (w : World) (hl : l.length ≤ 9223372036854775807) :
 Calls Tryz.prog 235 #[.string ⟨l.toArray⟩] w (FlipRes l w) := by
 go_enter Tryz.func235, Tryz.ntmps235
 go_wp2_with fail
 rw [Lib.run_convert_string_bytes w 9 193 5 ⟨l.toArray⟩ Tryz.underlying9 Tryz.underlying193 Tryz.underlying5, Lib.size_mk]
 have hH := holds_bytes w 5 l
 have hb2 := bl_bytes w 5 ⟨l.toArray⟩
 obtain ⟨w2, hw2⟩ : ∃ x, x = Lib.bytesWorld w 5 ⟨l.toArray⟩ := ⟨_, rfl⟩
 obtain ⟨cp, hcp⟩ : ∃ x, x = grownCap w l.length 0 5 := ⟨_, rfl⟩
 rw [← hw2] at hH hb2 ⊢
 rw [← hcp]
 have Hrv := Lib.hid (reverse_any w.heap.size cp l w2 hl hH)
 clear hw2 hcp hH
 go_wp2_with fail
 refine Hrv.out.mono ?_
 rintro e w3 ⟨rfl, hH3, hb3⟩
 have hbl := hb3 w hb2 (Nat.le_refl _)
 have hcv := run_convert_bytes_back (P := Tryz.prog) w3 193 9 5 ⟨w.heap.size, 0, none⟩ cp l.reverse Tryz.underlying193 Tryz.underlying5 Tryz.underlying9 (fun j hj => by
  have h := (hH3 j (by simpa using hj)).1
  rw [Nat.zero_add] at h
  show w3.cell? ((⟨w.heap.size, 0, none⟩ : Addr).add j) = _
  rw [show (⟨w.heap.size, 0, none⟩ : Addr).add j = ⟨w.heap.size, j, none⟩ by (unfold Addr.add; simp; omega), h]
  unfold encB
  simp only [List.length_reverse] at hj
  simp [getElem!_pos, hj])
 rw [List.length_reverse] at hcv
 clear hH3 hb3 Hrv
 go_wp2_with fail
 go_ret
 exact ⟨rfl, hbl⟩
set_option maxRecDepth 100000 in
set_option maxHeartbeats 1000000 in
theorem backwards_any (l : List UInt8) (w : World) (hl : l.length ≤ 9223372036854775807) :
 Calls Tryz.prog 222 #[.string ⟨l.toArray⟩] w (FlipRes l w) := by
 go_enter Tryz.func222, Tryz.ntmps222
 go_wp2_with fail
 rw [Lib.run_convert_string_bytes w 9 193 5 ⟨l.toArray⟩ Tryz.underlying9 Tryz.underlying193 Tryz.underlying5, Lib.size_mk]
 have hH := holds_bytes w 5 l
 have hb2 := bl_bytes w 5 ⟨l.toArray⟩
 obtain ⟨w2, hw2⟩ : ∃ x, x = Lib.bytesWorld w 5 ⟨l.toArray⟩ := ⟨_, rfl⟩
 obtain ⟨cp, hcp⟩ : ∃ x, x = grownCap w l.length 0 5 := ⟨_, rfl⟩
 rw [← hw2] at hH hb2 ⊢
 rw [← hcp]
 have Hrv := Lib.hid (reverse_any w.heap.size cp l w2 hl hH)
 clear hw2 hcp hH
 go_wp2_with fail
 refine Hrv.out.mono ?_
 rintro e w3 ⟨rfl, hH3, hb3⟩
 have hbl := hb3 w hb2 (Nat.le_refl _)
 have hcv := run_convert_bytes_back (P := Tryz.prog) w3 193 9 5 ⟨w.heap.size, 0, none⟩ cp l.reverse Tryz.underlying193 Tryz.underlying5 Tryz.underlying9 (fun j hj => by
  have h := (hH3 j (by simpa using hj)).1
  rw [Nat.zero_add] at h
  show w3.cell? ((⟨w.heap.size, 0, none⟩ : Addr).add j) = _
  rw [show (⟨w.heap.size, 0, none⟩ : Addr).add j = ⟨w.heap.size, j, none⟩ by (unfold Addr.add; simp; omega), h]
  unfold encB
  simp only [List.length_reverse] at hj
  simp [getElem!_pos, hj])
 rw [List.length_reverse] at hcv
 clear hH3 hb3 Hrv
 go_wp2_with fail
 go_ret
 exact ⟨rfl, hbl⟩

end Go.Proofs.YthobmednnocklaaGreatDoor


/-! strings.Repeat of one sign, '0' or '1', at most four times. -/
namespace Go.Proofs
open Go.Shelf
def Tryz.lays212_ren : Go.Shelf.Ren := ⟨fun | 212 => 287 | 263 => 326 | 264 => 327 | n => n, fun | 46 => 173 | 51 => 279 | 146 => 387 | 53 => 281 | 148 => 389 | n => n, fun | n => n⟩
theorem Tryz.lays212 : Go.Proofs.Lays.n212 Tryz.prog Tryz.lays212_ren := {
 mixed := by kernel_rfl
 f212 := Tryz.func287.trans (congrArg some (by kernel_rfl))
 f263 := Tryz.func326.trans (congrArg some (by kernel_rfl))
 f264 := Tryz.func327.trans (congrArg some (by kernel_rfl))
 t46 := Tryz.underlying173
 a46 := Tryz.isAgg173
 z46 := Tryz.sizeOf173
 v46 := Tryz.zeroValue173
 t51 := Tryz.underlying279
 a51 := Tryz.isAgg279
 z51 := Tryz.sizeOf279
 v51 := Tryz.zeroValue279
 t53 := Tryz.underlying281
 a53 := Tryz.isAgg281
 z53 := Tryz.sizeOf281
 v53 := Tryz.zeroValue281
 t146 := Tryz.underlying387
 a146 := Tryz.isAgg387
 z146 := Tryz.sizeOf387
 v146 := Tryz.zeroValue387
 t148 := Tryz.underlying389
 a148 := Tryz.isAgg389
 z148 := Tryz.sizeOf389
 v148 := Tryz.zeroValue389 }

def Tryz.lays170_ren : Go.Shelf.Ren := ⟨fun | 170 => 288 | n => n, fun | 70 => 192 | 3 => 3 | 0 => 0 | 72 => 195 | 37 => 193 | 5 => 5 | n => n, fun | n => n⟩
theorem Tryz.lays170 : Go.Proofs.Lays.n170 Tryz.prog Tryz.lays170_ren := {
 mixed := by kernel_rfl
 f170 := Tryz.func288.trans (congrArg some (by kernel_rfl))
 t0 := Tryz.underlying0
 a0 := Tryz.isAgg0
 z0 := Tryz.sizeOf0
 v0 := Tryz.zeroValue0
 t3 := Tryz.underlying3
 a3 := Tryz.isAgg3
 z3 := Tryz.sizeOf3
 v3 := Tryz.zeroValue3
 t37 := Tryz.underlying193
 a37 := Tryz.isAgg193
 z37 := Tryz.sizeOf193
 v37 := Tryz.zeroValue193
 t70 := Tryz.underlying192
 a70 := Tryz.isAgg192
 z70 := Tryz.sizeOf192
 v70 := Tryz.zeroValue192
 t72 := Tryz.underlying195
 a72 := Tryz.isAgg195
 z72 := Tryz.sizeOf195
 v72 := Tryz.zeroValue195 }

end Go.Proofs
namespace Go.Proofs.YthobmednnocklaaGreatDoor
open Go.RowKit Go.Shelf

theorem mul_any (x y : Nat) (h : x * y < 18446744073709551616) (hx : x < 18446744073709551616) (hy : y < 18446744073709551616) (w : World) :
 Calls Tryz.prog 287 #[.int .u64 x, .int .u64 y] w fun e w' => e = .returned (.tuple #[.int .u64 0, .int .u64 ((x * y : Nat) : Int)]) ∧ w = w' := by
 refine (Any.bits_Mul Tryz.lays212 x y hx hy w).mono ?_
 rintro e w' ⟨rfl, rfl⟩
 refine ⟨?_, rfl⟩
 rw [Nat.div_eq_of_lt h, Nat.mod_eq_of_lt h]
 rfl
theorem builderLen_any (B : Nat) (l : List UInt8) (w : World) (h : Bui B l w) :
 Calls Tryz.prog 288 #[.pointer (some ⟨B, 0, none⟩)] w fun e w' => e = .returned (.int .i64 l.length) ∧ w = w' := by
 refine (Any.Builder_Len_f Tryz.lays170 B B _ w h).mono ?_
 rintro e w' ⟨rfl, rfl⟩
 rw [Lib.byteCells_length]
 exact ⟨rfl, rfl⟩
theorem builderStringK_any (B : Nat) (l : List UInt8) (w : World) (h : Bui B l w) (hBw : B ≤ w.heap.size) :
 Calls Tryz.prog 114 #[.pointer (some ⟨B, 0, none⟩)] w fun e w' => e = .returned (.string ⟨l.toArray⟩) ∧ Bui B l w' ∧ Below B w w' := by
 refine (Any.Builder_String_any_k Tryz.lays169 Tryz.builderExtra B B l w h hBw).mono ?_
 rintro e w' ⟨rfl, h1, h2, _⟩
 exact ⟨rfl, h1, h2⟩
theorem min3_any (a b c : Int) (ts : Array TypeId) (t : TypeId) (w : World) : (Builtin.min_ ts t #[.int .i64 a, .int .i64 b, .int .i64 c]).run Tryz.prog w = .ok (.int .i64 (min (min a b) c)) w := by
 simp [Builtin.min_, Builtin.min2]
 omega

set_option maxRecDepth 100000 in
set_option maxHeartbeats 4000000 in
theorem repeat49_2 (w : World) : Calls Tryz.prog 209 #[.string ⟨#[49]⟩, .int .i64 2] w fun e w' => e = .returned (.string ⟨(List.replicate 2 (49 : UInt8)).toArray⟩) ∧ Bl w w' := by
 have Hmul := Lib.hid (mul_any 1 2 (by decide) (by decide) (by decide) w)
 have Hgr := Lib.hid (growB_any w.heap.size 2 w rfl (by decide))
 go_enter Tryz.func209, Tryz.ntmps209
 go_wp2_with fail
 refine Hmul.out.mono ?_
 rintro e w' ⟨rfl, rfl⟩
 go_wp2_with fail
 refine Hgr.out.mono ?_
 rintro e w1 ⟨rfl, hbu, hb1⟩
 obtain ⟨B, hB⟩ : ∃ B, B = w.heap.size := ⟨_, rfl⟩
 rw [← hB] at hbu ⊢
 have HB := Lib.hid hB
 have hBw1 : B ≤ w1.heap.size := by rw [hB]; exact hb1.le
 have Hw := Lib.hid (writeString_any B [] [49] w1 hbu (by decide) hBw1)
 clear hB Hmul Hgr hbu
 go_wp2_with fail
 refine Hw.out.mono ?_
 rintro e w2 ⟨rfl, hbu2, hbe2⟩
 have hb2 := Bl.trans' hb1 HB.out.symm hbe2
 have hBw2 : B ≤ w2.heap.size := Nat.le_trans hBw1 hbe2.size
 clear Hw hbe2 hb1 hBw1
 go_wp2_with fail
 refine wp_loop_rounds 2 ?_
 have HU1 := Lib.hid (show Bui B ([49] : List UInt8) w2 from hbu2)
 have hmin : ∀ (ts : Array TypeId) (t : TypeId) (W : World), (Builtin.min_ ts t #[.int .i64 1, .int .i64 1, .int .i64 2]).run Tryz.prog W = .ok (.int .i64 1) W := fun ts t W => by rw [min3_any]; rfl
 rw [rounds_succ]
 go_wp2_with fail
 refine (builderLen_any B [49] _ HU1.out).mono ?_
 rintro e w' ⟨rfl, rfl⟩
 go_wp2_with fail
 refine (builderLen_any B [49] _ HU1.out).mono ?_
 rintro e w' ⟨rfl, rfl⟩
 go_wp2_with fail
 refine (builderLen_any B [49] _ HU1.out).mono ?_
 rintro e w' ⟨rfl, rfl⟩
 go_wp2_with fail
 refine (builderStringK_any B [49] _ HU1.out hBw2).mono ?_
 rintro e w3 ⟨rfl, hu3, hbe3⟩
 have hBw3 : B ≤ w3.heap.size := Nat.le_trans hBw2 hbe3.size
 have hb3 := Bl.trans' hb2 HB.out.symm hbe3
 go_wp2_with fail
 refine (writeString_any B [49] [49] w3 hu3 (by decide) hBw3).mono ?_
 rintro e w4 ⟨rfl, hu4, hbe4⟩
 have hBw4 : B ≤ w4.heap.size := Nat.le_trans hBw3 hbe4.size
 have hb4 := Bl.trans' hb3 HB.out.symm hbe4
 clear hmin
 go_wp2_with fail
 have HUE := Lib.hid (show Bui B ([49, 49] : List UInt8) w4 from hu4)
 rw [rounds_succ]
 go_wp2_with fail
 refine (builderLen_any B [49, 49] _ HUE.out).mono ?_
 rintro e w' ⟨rfl, rfl⟩
 go_wp2_with fail
 refine (builderStringK_any B [49, 49] _ HUE.out hBw4).mono ?_
 rintro e we ⟨rfl, -, hbee⟩
 have hbe := Bl.trans' hb4 HB.out.symm hbee
 go_wp2_with fail
 go_ret
 exact ⟨rfl, hbe⟩

set_option maxRecDepth 100000 in
set_option maxHeartbeats 4000000 in
theorem repeat49_3 (w : World) : Calls Tryz.prog 209 #[.string ⟨#[49]⟩, .int .i64 3] w fun e w' => e = .returned (.string ⟨(List.replicate 3 (49 : UInt8)).toArray⟩) ∧ Bl w w' := by
 have Hmul := Lib.hid (mul_any 1 3 (by decide) (by decide) (by decide) w)
 have Hgr := Lib.hid (growB_any w.heap.size 3 w rfl (by decide))
 go_enter Tryz.func209, Tryz.ntmps209
 go_wp2_with fail
 refine Hmul.out.mono ?_
 rintro e w' ⟨rfl, rfl⟩
 go_wp2_with fail
 refine Hgr.out.mono ?_
 rintro e w1 ⟨rfl, hbu, hb1⟩
 obtain ⟨B, hB⟩ : ∃ B, B = w.heap.size := ⟨_, rfl⟩
 rw [← hB] at hbu ⊢
 have HB := Lib.hid hB
 have hBw1 : B ≤ w1.heap.size := by rw [hB]; exact hb1.le
 have Hw := Lib.hid (writeString_any B [] [49] w1 hbu (by decide) hBw1)
 clear hB Hmul Hgr hbu
 go_wp2_with fail
 refine Hw.out.mono ?_
 rintro e w2 ⟨rfl, hbu2, hbe2⟩
 have hb2 := Bl.trans' hb1 HB.out.symm hbe2
 have hBw2 : B ≤ w2.heap.size := Nat.le_trans hBw1 hbe2.size
 clear Hw hbe2 hb1 hBw1
 go_wp2_with fail
 refine wp_loop_rounds 3 ?_
 have HU1 := Lib.hid (show Bui B ([49] : List UInt8) w2 from hbu2)
 have hmin : ∀ (ts : Array TypeId) (t : TypeId) (W : World), (Builtin.min_ ts t #[.int .i64 2, .int .i64 1, .int .i64 3]).run Tryz.prog W = .ok (.int .i64 1) W := fun ts t W => by rw [min3_any]; rfl
 rw [rounds_succ]
 go_wp2_with fail
 refine (builderLen_any B [49] _ HU1.out).mono ?_
 rintro e w' ⟨rfl, rfl⟩
 go_wp2_with fail
 refine (builderLen_any B [49] _ HU1.out).mono ?_
 rintro e w' ⟨rfl, rfl⟩
 go_wp2_with fail
 refine (builderLen_any B [49] _ HU1.out).mono ?_
 rintro e w' ⟨rfl, rfl⟩
 go_wp2_with fail
 refine (builderStringK_any B [49] _ HU1.out hBw2).mono ?_
 rintro e w3 ⟨rfl, hu3, hbe3⟩
 have hBw3 : B ≤ w3.heap.size := Nat.le_trans hBw2 hbe3.size
 have hb3 := Bl.trans' hb2 HB.out.symm hbe3
 go_wp2_with fail
 refine (writeString_any B [49] [49] w3 hu3 (by decide) hBw3).mono ?_
 rintro e w4 ⟨rfl, hu4, hbe4⟩
 have hBw4 : B ≤ w4.heap.size := Nat.le_trans hBw3 hbe4.size
 have hb4 := Bl.trans' hb3 HB.out.symm hbe4
 clear hmin
 go_wp2_with fail
 have HU2 := Lib.hid (show Bui B ([49, 49] : List UInt8) w4 from hu4)
 have hmin : ∀ (ts : Array TypeId) (t : TypeId) (W : World), (Builtin.min_ ts t #[.int .i64 1, .int .i64 2, .int .i64 3]).run Tryz.prog W = .ok (.int .i64 1) W := fun ts t W => by rw [min3_any]; rfl
 rw [rounds_succ]
 go_wp2_with fail
 refine (builderLen_any B [49, 49] _ HU2.out).mono ?_
 rintro e w' ⟨rfl, rfl⟩
 go_wp2_with fail
 refine (builderLen_any B [49, 49] _ HU2.out).mono ?_
 rintro e w' ⟨rfl, rfl⟩
 go_wp2_with fail
 refine (builderLen_any B [49, 49] _ HU2.out).mono ?_
 rintro e w' ⟨rfl, rfl⟩
 go_wp2_with fail
 refine (builderStringK_any B [49, 49] _ HU2.out hBw4).mono ?_
 rintro e w5 ⟨rfl, hu5, hbe5⟩
 have hBw5 : B ≤ w5.heap.size := Nat.le_trans hBw4 hbe5.size
 have hb5 := Bl.trans' hb4 HB.out.symm hbe5
 go_wp2_with fail
 refine (writeString_any B [49, 49] [49] w5 hu5 (by decide) hBw5).mono ?_
 rintro e w6 ⟨rfl, hu6, hbe6⟩
 have hBw6 : B ≤ w6.heap.size := Nat.le_trans hBw5 hbe6.size
 have hb6 := Bl.trans' hb5 HB.out.symm hbe6
 clear hmin
 go_wp2_with fail
 have HUE := Lib.hid (show Bui B ([49, 49, 49] : List UInt8) w6 from hu6)
 rw [rounds_succ]
 go_wp2_with fail
 refine (builderLen_any B [49, 49, 49] _ HUE.out).mono ?_
 rintro e w' ⟨rfl, rfl⟩
 go_wp2_with fail
 refine (builderStringK_any B [49, 49, 49] _ HUE.out hBw6).mono ?_
 rintro e we ⟨rfl, -, hbee⟩
 have hbe := Bl.trans' hb6 HB.out.symm hbee
 go_wp2_with fail
 go_ret
 exact ⟨rfl, hbe⟩

set_option maxRecDepth 100000 in
set_option maxHeartbeats 4000000 in
theorem repeat49_4 (w : World) : Calls Tryz.prog 209 #[.string ⟨#[49]⟩, .int .i64 4] w fun e w' => e = .returned (.string ⟨(List.replicate 4 (49 : UInt8)).toArray⟩) ∧ Bl w w' := by
 have Hmul := Lib.hid (mul_any 1 4 (by decide) (by decide) (by decide) w)
 have Hgr := Lib.hid (growB_any w.heap.size 4 w rfl (by decide))
 go_enter Tryz.func209, Tryz.ntmps209
 go_wp2_with fail
 refine Hmul.out.mono ?_
 rintro e w' ⟨rfl, rfl⟩
 go_wp2_with fail
 refine Hgr.out.mono ?_
 rintro e w1 ⟨rfl, hbu, hb1⟩
 obtain ⟨B, hB⟩ : ∃ B, B = w.heap.size := ⟨_, rfl⟩
 rw [← hB] at hbu ⊢
 have HB := Lib.hid hB
 have hBw1 : B ≤ w1.heap.size := by rw [hB]; exact hb1.le
 have Hw := Lib.hid (writeString_any B [] [49] w1 hbu (by decide) hBw1)
 clear hB Hmul Hgr hbu
 go_wp2_with fail
 refine Hw.out.mono ?_
 rintro e w2 ⟨rfl, hbu2, hbe2⟩
 have hb2 := Bl.trans' hb1 HB.out.symm hbe2
 have hBw2 : B ≤ w2.heap.size := Nat.le_trans hBw1 hbe2.size
 clear Hw hbe2 hb1 hBw1
 go_wp2_with fail
 refine wp_loop_rounds 3 ?_
 have HU1 := Lib.hid (show Bui B ([49] : List UInt8) w2 from hbu2)
 have hmin : ∀ (ts : Array TypeId) (t : TypeId) (W : World), (Builtin.min_ ts t #[.int .i64 3, .int .i64 1, .int .i64 4]).run Tryz.prog W = .ok (.int .i64 1) W := fun ts t W => by rw [min3_any]; rfl
 rw [rounds_succ]
 go_wp2_with fail
 refine (builderLen_any B [49] _ HU1.out).mono ?_
 rintro e w' ⟨rfl, rfl⟩
 go_wp2_with fail
 refine (builderLen_any B [49] _ HU1.out).mono ?_
 rintro e w' ⟨rfl, rfl⟩
 go_wp2_with fail
 refine (builderLen_any B [49] _ HU1.out).mono ?_
 rintro e w' ⟨rfl, rfl⟩
 go_wp2_with fail
 refine (builderStringK_any B [49] _ HU1.out hBw2).mono ?_
 rintro e w3 ⟨rfl, hu3, hbe3⟩
 have hBw3 : B ≤ w3.heap.size := Nat.le_trans hBw2 hbe3.size
 have hb3 := Bl.trans' hb2 HB.out.symm hbe3
 go_wp2_with fail
 refine (writeString_any B [49] [49] w3 hu3 (by decide) hBw3).mono ?_
 rintro e w4 ⟨rfl, hu4, hbe4⟩
 have hBw4 : B ≤ w4.heap.size := Nat.le_trans hBw3 hbe4.size
 have hb4 := Bl.trans' hb3 HB.out.symm hbe4
 clear hmin
 go_wp2_with fail
 have HU2 := Lib.hid (show Bui B ([49, 49] : List UInt8) w4 from hu4)
 have hmin : ∀ (ts : Array TypeId) (t : TypeId) (W : World), (Builtin.min_ ts t #[.int .i64 2, .int .i64 2, .int .i64 4]).run Tryz.prog W = .ok (.int .i64 2) W := fun ts t W => by rw [min3_any]; rfl
 rw [rounds_succ]
 go_wp2_with fail
 refine (builderLen_any B [49, 49] _ HU2.out).mono ?_
 rintro e w' ⟨rfl, rfl⟩
 go_wp2_with fail
 refine (builderLen_any B [49, 49] _ HU2.out).mono ?_
 rintro e w' ⟨rfl, rfl⟩
 go_wp2_with fail
 refine (builderLen_any B [49, 49] _ HU2.out).mono ?_
 rintro e w' ⟨rfl, rfl⟩
 go_wp2_with fail
 refine (builderStringK_any B [49, 49] _ HU2.out hBw4).mono ?_
 rintro e w5 ⟨rfl, hu5, hbe5⟩
 have hBw5 : B ≤ w5.heap.size := Nat.le_trans hBw4 hbe5.size
 have hb5 := Bl.trans' hb4 HB.out.symm hbe5
 go_wp2_with fail
 refine (writeString_any B [49, 49] [49, 49] w5 hu5 (by decide) hBw5).mono ?_
 rintro e w6 ⟨rfl, hu6, hbe6⟩
 have hBw6 : B ≤ w6.heap.size := Nat.le_trans hBw5 hbe6.size
 have hb6 := Bl.trans' hb5 HB.out.symm hbe6
 clear hmin
 go_wp2_with fail
 have HUE := Lib.hid (show Bui B ([49, 49, 49, 49] : List UInt8) w6 from hu6)
 rw [rounds_succ]
 go_wp2_with fail
 refine (builderLen_any B [49, 49, 49, 49] _ HUE.out).mono ?_
 rintro e w' ⟨rfl, rfl⟩
 go_wp2_with fail
 refine (builderStringK_any B [49, 49, 49, 49] _ HUE.out hBw6).mono ?_
 rintro e we ⟨rfl, -, hbee⟩
 have hbe := Bl.trans' hb6 HB.out.symm hbee
 go_wp2_with fail
 go_ret
 exact ⟨rfl, hbe⟩

set_option maxRecDepth 100000 in
set_option maxHeartbeats 4000000 in
theorem repeat48_2 (w : World) : Calls Tryz.prog 209 #[.string ⟨#[48]⟩, .int .i64 2] w fun e w' => e = .returned (.string ⟨(List.replicate 2 (48 : UInt8)).toArray⟩) ∧ Bl w w' := by
 have Hmul := Lib.hid (mul_any 1 2 (by decide) (by decide) (by decide) w)
 go_enter Tryz.func209, Tryz.ntmps209
 go_wp2_with fail
 refine Hmul.out.mono ?_
 rintro e w' ⟨rfl, rfl⟩
 go_wp2_with fail
 refine (hasPrefix_any _ [48] _).mono ?_
 rintro e w' ⟨rfl, rfl⟩
 rw [show ∀ l : List UInt8, Lib.hasPrefix (32 :: l) [48] = false from fun _ => rfl]
 go_wp2_with fail
 refine (hasPrefix_any _ [48] _).mono ?_
 rintro e w' ⟨rfl, rfl⟩
 rw [show ∀ l : List UInt8, Lib.hasPrefix (45 :: l) [48] = false from fun _ => rfl]
 go_wp2_with fail
 refine (hasPrefix_any _ [48] _).mono ?_
 rintro e w' ⟨rfl, rfl⟩
 rw [show ∀ l : List UInt8, Lib.hasPrefix (48 :: l) [48] = true from fun _ => rfl]
 go_wp2_with fail
 try simp only [Exit.inBlock, Exit.then]
 go_ret
 exact ⟨rfl, Bl.refl _⟩

set_option maxRecDepth 100000 in
set_option maxHeartbeats 4000000 in
theorem repeat48_3 (w : World) : Calls Tryz.prog 209 #[.string ⟨#[48]⟩, .int .i64 3] w fun e w' => e = .returned (.string ⟨(List.replicate 3 (48 : UInt8)).toArray⟩) ∧ Bl w w' := by
 have Hmul := Lib.hid (mul_any 1 3 (by decide) (by decide) (by decide) w)
 go_enter Tryz.func209, Tryz.ntmps209
 go_wp2_with fail
 refine Hmul.out.mono ?_
 rintro e w' ⟨rfl, rfl⟩
 go_wp2_with fail
 refine (hasPrefix_any _ [48] _).mono ?_
 rintro e w' ⟨rfl, rfl⟩
 rw [show ∀ l : List UInt8, Lib.hasPrefix (32 :: l) [48] = false from fun _ => rfl]
 go_wp2_with fail
 refine (hasPrefix_any _ [48] _).mono ?_
 rintro e w' ⟨rfl, rfl⟩
 rw [show ∀ l : List UInt8, Lib.hasPrefix (45 :: l) [48] = false from fun _ => rfl]
 go_wp2_with fail
 refine (hasPrefix_any _ [48] _).mono ?_
 rintro e w' ⟨rfl, rfl⟩
 rw [show ∀ l : List UInt8, Lib.hasPrefix (48 :: l) [48] = true from fun _ => rfl]
 go_wp2_with fail
 try simp only [Exit.inBlock, Exit.then]
 go_ret
 exact ⟨rfl, Bl.refl _⟩

set_option maxRecDepth 100000 in
set_option maxHeartbeats 4000000 in
theorem repeat48_4 (w : World) : Calls Tryz.prog 209 #[.string ⟨#[48]⟩, .int .i64 4] w fun e w' => e = .returned (.string ⟨(List.replicate 4 (48 : UInt8)).toArray⟩) ∧ Bl w w' := by
 have Hmul := Lib.hid (mul_any 1 4 (by decide) (by decide) (by decide) w)
 go_enter Tryz.func209, Tryz.ntmps209
 go_wp2_with fail
 refine Hmul.out.mono ?_
 rintro e w' ⟨rfl, rfl⟩
 go_wp2_with fail
 refine (hasPrefix_any _ [48] _).mono ?_
 rintro e w' ⟨rfl, rfl⟩
 rw [show ∀ l : List UInt8, Lib.hasPrefix (32 :: l) [48] = false from fun _ => rfl]
 go_wp2_with fail
 refine (hasPrefix_any _ [48] _).mono ?_
 rintro e w' ⟨rfl, rfl⟩
 rw [show ∀ l : List UInt8, Lib.hasPrefix (45 :: l) [48] = false from fun _ => rfl]
 go_wp2_with fail
 refine (hasPrefix_any _ [48] _).mono ?_
 rintro e w' ⟨rfl, rfl⟩
 rw [show ∀ l : List UInt8, Lib.hasPrefix (48 :: l) [48] = true from fun _ => rfl]
 go_wp2_with fail
 try simp only [Exit.inBlock, Exit.then]
 go_ret
 exact ⟨rfl, Bl.refl _⟩

set_option maxRecDepth 100000 in
theorem repeat_one (b : UInt8) (w : World) : Calls Tryz.prog 209 #[.string ⟨#[b]⟩, .int .i64 1] w fun e w' => e = .returned (.string ⟨(List.replicate 1 b).toArray⟩) ∧ Bl w w' := by
 go_enter Tryz.func209, Tryz.ntmps209
 go_wp2_with fail
 try simp only [Exit.inBlock, Exit.then]
 go_ret
 exact ⟨rfl, Bl.refl _⟩
theorem repeat_any (b : UInt8) (hb : b = 48 ∨ b = 49) (k : Nat) (h1 : 1 ≤ k) (h4 : k ≤ 4) (w : World) : Calls Tryz.prog 209 #[.string ⟨#[b]⟩, .int .i64 k] w fun e w' => e = .returned (.string ⟨(List.replicate k b).toArray⟩) ∧ Bl w w' := by
 have hk : k = 1 ∨ k = 2 ∨ k = 3 ∨ k = 4 := by omega
 rcases hk with rfl | rfl | rfl | rfl
 · exact repeat_one b w
 · rcases hb with rfl | rfl
   · exact repeat48_2 w
   · exact repeat49_2 w
 · rcases hb with rfl | rfl
   · exact repeat48_3 w
   · exact repeat49_3 w
 · rcases hb with rfl | rfl
   · exact repeat48_4 w
   · exact repeat49_4 w

end Go.Proofs.YthobmednnocklaaGreatDoor


/-! Contracts of strconv and bytes, laid; page.number and bedref2.Number. -/
namespace Go.Proofs
open Go.Shelf
def Tryz.lays171_ren : Go.Shelf.Ren := ⟨fun | 171 => 282 | 243 => 322 | 246 => 353 | 283 => 364 | 284 => 365 | 285 => 366 | 286 => 367 | 129 => 186 | 317 => 374 | 318 => 375 | 319 => 376 | 320 => 377 | 337 => 378 | 338 => 379 | n => n, fun | 3 => 3 | 9 => 9 | 2 => 2 | 4 => 4 | 171 => 424 | 0 => 0 | 53 => 281 | 37 => 193 | 5 => 5 | 173 => 426 | 212 => 444 | 51 => 279 | 20 => 20 | 213 => 445 | 46 => 173 | 232 => 448 | 233 => 449 | n => n, fun | 17 => 7 | 18 => 8 | 19 => 9 | n => n⟩
theorem Tryz.lays171 : Go.Proofs.LaysM.n171 Tryz.prog Tryz.lays171_ren := {
 mixed := by kernel_rfl
 f129 := Tryz.func186.trans (congrArg some (by kernel_rfl))
 f171 := Tryz.func282.trans (congrArg some (by kernel_rfl))
 f243 := Tryz.func322.trans (congrArg some (by kernel_rfl))
 f246 := Tryz.func353.trans (congrArg some (by kernel_rfl))
 f283 := Tryz.func364.trans (congrArg some (by kernel_rfl))
 f284 := Tryz.func365.trans (congrArg some (by kernel_rfl))
 f285 := Tryz.func366.trans (congrArg some (by kernel_rfl))
 f286 := Tryz.func367.trans (congrArg some (by kernel_rfl))
 f317 := Tryz.func374.trans (congrArg some (by kernel_rfl))
 f318 := Tryz.func375.trans (congrArg some (by kernel_rfl))
 f319 := Tryz.func376.trans (congrArg some (by kernel_rfl))
 f320 := Tryz.func377.trans (congrArg some (by kernel_rfl))
 f337 := Tryz.func378.trans (congrArg some (by kernel_rfl))
 f338 := Tryz.func379.trans (congrArg some (by kernel_rfl))
 t0 := Tryz.underlying0
 a0 := Tryz.isAgg0
 z0 := Tryz.sizeOf0
 v0 := Tryz.zeroValue0
 t2 := Tryz.underlying2
 a2 := Tryz.isAgg2
 z2 := Tryz.sizeOf2
 v2 := Tryz.zeroValue2
 t3 := Tryz.underlying3
 a3 := Tryz.isAgg3
 z3 := Tryz.sizeOf3
 v3 := Tryz.zeroValue3
 t4 := Tryz.underlying4
 a4 := Tryz.isAgg4
 z4 := Tryz.sizeOf4
 v4 := Tryz.zeroValue4
 t5 := Tryz.underlying5
 a5 := Tryz.isAgg5
 z5 := Tryz.sizeOf5
 v5 := Tryz.zeroValue5
 t9 := Tryz.underlying9
 a9 := Tryz.isAgg9
 z9 := Tryz.sizeOf9
 v9 := Tryz.zeroValue9
 t20 := Tryz.underlying20
 a20 := Tryz.isAgg20
 z20 := Tryz.sizeOf20
 v20 := Tryz.zeroValue20
 t37 := Tryz.underlying193
 a37 := Tryz.isAgg193
 z37 := Tryz.sizeOf193
 v37 := Tryz.zeroValue193
 t46 := Tryz.underlying173
 a46 := Tryz.isAgg173
 z46 := Tryz.sizeOf173
 v46 := Tryz.zeroValue173
 t51 := Tryz.underlying279
 a51 := Tryz.isAgg279
 z51 := Tryz.sizeOf279
 v51 := Tryz.zeroValue279
 t53 := Tryz.underlying281
 a53 := Tryz.isAgg281
 z53 := Tryz.sizeOf281
 v53 := Tryz.zeroValue281
 t171 := Tryz.underlying424
 a171 := Tryz.isAgg424
 z171 := Tryz.sizeOf424
 v171 := Tryz.zeroValue424
 t173 := Tryz.underlying426
 a173 := Tryz.isAgg426
 z173 := Tryz.sizeOf426
 v173 := Tryz.zeroValue426
 t212 := Tryz.underlying444
 a212 := Tryz.isAgg444
 z212 := Tryz.sizeOf444
 v212 := Tryz.zeroValue444
 t213 := Tryz.underlying445
 a213 := Tryz.isAgg445
 z213 := Tryz.sizeOf445
 t232 := Tryz.underlying448
 a232 := Tryz.isAgg448
 z232 := Tryz.sizeOf448
 v232 := Tryz.zeroValue448
 t233 := Tryz.underlying449
 a233 := Tryz.isAgg449
 z233 := Tryz.sizeOf449
 v233 := Tryz.zeroValue449
 g17 := by kernel_rfl
 g18 := by kernel_rfl
 g19 := by kernel_rfl
 i0 := by kernel_rfl
 i2 := by kernel_rfl
 i3 := by kernel_rfl
 i4 := by kernel_rfl
 i5 := by kernel_rfl
 i9 := by kernel_rfl
 i20 := by kernel_rfl
 i37 := by kernel_rfl
 i46 := by kernel_rfl
 i51 := by kernel_rfl
 i53 := by kernel_rfl
 i171 := by kernel_rfl
 i173 := by kernel_rfl
 i212 := by kernel_rfl
 i232 := by kernel_rfl
 i233 := by kernel_rfl
 m17 := by kernel_rfl
 m18 := by kernel_rfl
 m19 := by kernel_rfl }

def Tryz.lays172_ren : Go.Shelf.Ren := ⟨fun | 172 => 226 | 244 => 299 | 245 => 300 | 247 => 337 | 279 => 338 | 280 => 339 | 281 => 340 | 282 => 341 | 287 => 357 | 316 => 358 | 171 => 282 | 205 => 359 | 321 => 371 | 322 => 372 | 243 => 322 | 246 => 353 | 283 => 364 | 284 => 365 | 285 => 366 | 286 => 367 | 129 => 186 | 317 => 374 | 318 => 375 | 319 => 376 | 320 => 377 | 337 => 378 | 338 => 379 | n => n, fun | 9 => 9 | 3 => 3 | 75 => 204 | 76 => 205 | 4 => 4 | 5 => 5 | 167 => 395 | 37 => 193 | 0 => 0 | 85 => 396 | 2 => 2 | 168 => 398 | 53 => 281 | 175 => 417 | 46 => 173 | 210 => 420 | 127 => 294 | 145 => 441 | 143 => 439 | 21 => 21 | 171 => 424 | 173 => 426 | 212 => 444 | 51 => 279 | 20 => 20 | 213 => 445 | 232 => 448 | 233 => 449 | 80 => 207 | n => n, fun | 15 => 5 | 16 => 6 | 17 => 7 | 18 => 8 | 19 => 9 | n => n⟩
theorem Tryz.lays172 : Go.Proofs.LaysC.n172 Tryz.prog Tryz.lays172_ren := {
 mixed := by kernel_rfl
 f129 := Tryz.func186.trans (congrArg some (by kernel_rfl))
 f171 := Tryz.func282.trans (congrArg some (by kernel_rfl))
 f172 := Tryz.func226.trans (congrArg some (by kernel_rfl))
 f205 := Tryz.func359.trans (congrArg some (by kernel_rfl))
 f243 := Tryz.func322.trans (congrArg some (by kernel_rfl))
 f244 := Tryz.func299.trans (congrArg some (by kernel_rfl))
 f245 := Tryz.func300.trans (congrArg some (by kernel_rfl))
 f246 := Tryz.func353.trans (congrArg some (by kernel_rfl))
 f247 := Tryz.func337.trans (congrArg some (by kernel_rfl))
 f279 := Tryz.func338.trans (congrArg some (by kernel_rfl))
 f280 := Tryz.func339.trans (congrArg some (by kernel_rfl))
 f281 := Tryz.func340.trans (congrArg some (by kernel_rfl))
 f282 := Tryz.func341.trans (congrArg some (by kernel_rfl))
 f283 := Tryz.func364.trans (congrArg some (by kernel_rfl))
 f284 := Tryz.func365.trans (congrArg some (by kernel_rfl))
 f285 := Tryz.func366.trans (congrArg some (by kernel_rfl))
 f286 := Tryz.func367.trans (congrArg some (by kernel_rfl))
 f287 := Tryz.func357.trans (congrArg some (by kernel_rfl))
 f316 := Tryz.func358.trans (congrArg some (by kernel_rfl))
 f317 := Tryz.func374.trans (congrArg some (by kernel_rfl))
 f318 := Tryz.func375.trans (congrArg some (by kernel_rfl))
 f319 := Tryz.func376.trans (congrArg some (by kernel_rfl))
 f320 := Tryz.func377.trans (congrArg some (by kernel_rfl))
 f321 := Tryz.func371.trans (congrArg some (by kernel_rfl))
 f322 := Tryz.func372.trans (congrArg some (by kernel_rfl))
 f337 := Tryz.func378.trans (congrArg some (by kernel_rfl))
 f338 := Tryz.func379.trans (congrArg some (by kernel_rfl))
 t0 := Tryz.underlying0
 a0 := Tryz.isAgg0
 z0 := Tryz.sizeOf0
 v0 := Tryz.zeroValue0
 t2 := Tryz.underlying2
 a2 := Tryz.isAgg2
 z2 := Tryz.sizeOf2
 v2 := Tryz.zeroValue2
 t3 := Tryz.underlying3
 a3 := Tryz.isAgg3
 z3 := Tryz.sizeOf3
 v3 := Tryz.zeroValue3
 t4 := Tryz.underlying4
 a4 := Tryz.isAgg4
 z4 := Tryz.sizeOf4
 v4 := Tryz.zeroValue4
 t5 := Tryz.underlying5
 a5 := Tryz.isAgg5
 z5 := Tryz.sizeOf5
 v5 := Tryz.zeroValue5
 t9 := Tryz.underlying9
 a9 := Tryz.isAgg9
 z9 := Tryz.sizeOf9
 v9 := Tryz.zeroValue9
 t20 := Tryz.underlying20
 a20 := Tryz.isAgg20
 z20 := Tryz.sizeOf20
 v20 := Tryz.zeroValue20
 t21 := Tryz.underlying21
 a21 := Tryz.isAgg21
 z21 := Tryz.sizeOf21
 v21 := Tryz.zeroValue21
 t37 := Tryz.underlying193
 a37 := Tryz.isAgg193
 z37 := Tryz.sizeOf193
 v37 := Tryz.zeroValue193
 t46 := Tryz.underlying173
 a46 := Tryz.isAgg173
 z46 := Tryz.sizeOf173
 v46 := Tryz.zeroValue173
 t51 := Tryz.underlying279
 a51 := Tryz.isAgg279
 z51 := Tryz.sizeOf279
 v51 := Tryz.zeroValue279
 t53 := Tryz.underlying281
 a53 := Tryz.isAgg281
 z53 := Tryz.sizeOf281
 v53 := Tryz.zeroValue281
 t75 := Tryz.underlying204
 a75 := Tryz.isAgg204
 z75 := Tryz.sizeOf204
 v75 := Tryz.zeroValue204
 t76 := Tryz.underlying205
 a76 := Tryz.isAgg205
 z76 := Tryz.sizeOf205
 v76 := Tryz.zeroValue205
 t85 := Tryz.underlying396
 a85 := Tryz.isAgg396
 z85 := Tryz.sizeOf396
 v85 := Tryz.zeroValue396
 t127 := Tryz.underlying294
 a127 := Tryz.isAgg294
 z127 := Tryz.sizeOf294
 v127 := Tryz.zeroValue294
 t143 := Tryz.underlying439
 a143 := Tryz.isAgg439
 z143 := Tryz.sizeOf439
 v143 := Tryz.zeroValue439
 t145 := Tryz.underlying441
 a145 := Tryz.isAgg441
 z145 := Tryz.sizeOf441
 v145 := Tryz.zeroValue441
 t167 := Tryz.underlying395
 a167 := Tryz.isAgg395
 z167 := Tryz.sizeOf395
 v167 := Tryz.zeroValue395
 t168 := Tryz.underlying398
 a168 := Tryz.isAgg398
 z168 := Tryz.sizeOf398
 v168 := Tryz.zeroValue398
 t171 := Tryz.underlying424
 a171 := Tryz.isAgg424
 z171 := Tryz.sizeOf424
 v171 := Tryz.zeroValue424
 t173 := Tryz.underlying426
 a173 := Tryz.isAgg426
 z173 := Tryz.sizeOf426
 v173 := Tryz.zeroValue426
 t175 := Tryz.underlying417
 a175 := Tryz.isAgg417
 z175 := Tryz.sizeOf417
 v175 := Tryz.zeroValue417
 t210 := Tryz.underlying420
 a210 := Tryz.isAgg420
 z210 := Tryz.sizeOf420
 v210 := Tryz.zeroValue420
 t212 := Tryz.underlying444
 a212 := Tryz.isAgg444
 z212 := Tryz.sizeOf444
 v212 := Tryz.zeroValue444
 t213 := Tryz.underlying445
 a213 := Tryz.isAgg445
 z213 := Tryz.sizeOf445
 t232 := Tryz.underlying448
 a232 := Tryz.isAgg448
 z232 := Tryz.sizeOf448
 v232 := Tryz.zeroValue448
 t233 := Tryz.underlying449
 a233 := Tryz.isAgg449
 z233 := Tryz.sizeOf449
 v233 := Tryz.zeroValue449
 g15 := by kernel_rfl
 g16 := by kernel_rfl
 g17 := by kernel_rfl
 g18 := by kernel_rfl
 g19 := by kernel_rfl
 t80 := Tryz.underlying207
 a80 := Tryz.isAgg207
 z80 := Tryz.sizeOf207
 v80 := Tryz.zeroValue207
 i0 := by kernel_rfl
 i2 := by kernel_rfl
 i3 := by kernel_rfl
 i4 := by kernel_rfl
 i5 := by kernel_rfl
 i9 := by kernel_rfl
 i20 := by kernel_rfl
 i21 := by kernel_rfl
 i37 := by kernel_rfl
 i46 := by kernel_rfl
 i51 := by kernel_rfl
 i53 := by kernel_rfl
 i75 := by kernel_rfl
 i76 := by kernel_rfl
 i80 := by kernel_rfl
 i85 := by kernel_rfl
 i127 := by kernel_rfl
 i143 := by kernel_rfl
 i145 := by kernel_rfl
 i167 := by kernel_rfl
 i168 := by kernel_rfl
 i171 := by kernel_rfl
 i173 := by kernel_rfl
 i175 := by kernel_rfl
 i210 := by kernel_rfl
 i212 := by kernel_rfl
 i232 := by kernel_rfl
 i233 := by kernel_rfl
 m15 := by kernel_rfl
 m16 := by kernel_rfl
 m17 := by kernel_rfl
 m18 := by kernel_rfl
 m19 := by kernel_rfl
 c0 := by kernel_rfl
 c2 := by kernel_rfl
 c3 := by kernel_rfl
 c4 := by kernel_rfl
 c5 := by kernel_rfl
 c9 := by kernel_rfl
 c20 := by kernel_rfl
 c21 := by kernel_rfl
 c37 := by kernel_rfl
 c46 := by kernel_rfl
 c51 := by kernel_rfl
 c53 := by kernel_rfl
 c75 := by kernel_rfl
 c76 := by kernel_rfl
 c80 := by kernel_rfl
 c85 := by kernel_rfl
 c127 := by kernel_rfl
 c143 := by kernel_rfl
 c145 := by kernel_rfl
 c167 := by kernel_rfl
 c168 := by kernel_rfl
 c171 := by kernel_rfl
 c173 := by kernel_rfl
 c175 := by kernel_rfl
 c210 := by kernel_rfl
 c212 := by kernel_rfl
 c213 := by kernel_rfl
 c232 := by kernel_rfl
 c233 := by kernel_rfl }

end Go.Proofs
namespace Go.Proofs.YthobmednnocklaaGreatDoor
open Go.RowKit Go.Shelf

theorem var_bl {P : Program} {n : String} {cs : Array Value} {w w' : World} (h : w.var? P n = some cs) (hb : Bl w w') : w'.var? P n = some cs := by
 unfold World.var? at h ⊢
 cases hg : P.globalNamed n with
 | none => rw [hg] at h; cases h
 | some g =>
  rw [hg] at h
  have hlt : g < w.heap.size := by
   rcases Nat.lt_or_ge g w.heap.size with hl | hl
   · exact hl
   · have h' : (match w.heap[g]? with | some (.cells cs _ _) => some cs | _ => none) = some cs := h
     rw [Array.getElem?_eq_none hl] at h'
     cases h'
  have he : w'.heap[g]? = w.heap[g]? := hb.block g hlt
  show (match w'.heap[g]? with | some (.cells cs _ _) => some cs | _ => none) = some cs
  rw [he]
  exact h
/-- The library's variables that reading and writing numbers asks. -/
structure NumOk (w : World) : Prop where
 syn : ∃ t p, w.var? Tryz.prog "strconv.ErrSyntax" = some #[.iface t p]
 ran : ∃ t p, w.var? Tryz.prog "strconv.ErrRange" = some #[.iface t p]
 tab : Lib.TabIs Tryz.prog w "internal/strconv.uint64pow10" .u64 Lib.pow10Tab
theorem NumOk.bl {w w' : World} (h : NumOk w) (hb : Bl w w') : NumOk w' :=
 ⟨let ⟨t, p, e⟩ := h.syn; ⟨t, p, var_bl e hb⟩, let ⟨t, p, e⟩ := h.ran; ⟨t, p, var_bl e hb⟩, var_bl h.tab hb⟩
theorem itoa_any (v : Int) (h0 : -9223372036854775808 ≤ v) (h1 : v ≤ 9223372036854775807) (w : World) (hN : NumOk w) :
 Calls Tryz.prog 282 #[.int .i64 v] w fun e w' => e = .returned (.string ⟨(Lib.itoa v).toArray⟩) ∧ Bl w w' := by
 refine Calls.mono (R := fun e w' => e = .returned (.string ⟨(Lib.itoa v).toArray⟩) ∧ ∃ k os, w' = _) (Any.strconv_Itoa Tryz.lays171 v h0 h1 w hN.tab) ?_
 rintro e w' ⟨rfl, k, os, rfl⟩
 exact ⟨rfl, Lib.below_grow _ w (Nat.le_refl _) k os⟩
theorem atoi_ok (s : ByteArray) (hs : s.size ≤ 281474976710656) (v : Int) (h : Lib.atoiAll s.data.toList = .ok v) (w : World) :
 Calls Tryz.prog 226 #[.string s] w fun e w' => e = .returned (.tuple #[.int .i64 v, .nilIface]) ∧ Bl w w' := by
 refine Calls.mono (R := fun e w' => e = .returned (.tuple #[.int .i64 v, .nilIface]) ∧ (w' = w ∨ ∃ t, w' = Lib.bytesWorld w _ t)) (Any.strconv_Atoi_ok Tryz.lays172 s (by omega) v h w) ?_
 rintro e w' ⟨rfl, rfl | ⟨t, rfl⟩⟩
 · exact ⟨rfl, Bl.refl _⟩
 · exact ⟨rfl, Lib.bytesWorld_below _ _ _⟩
theorem atoi_bad (s : ByteArray) (hs : s.size ≤ 281474976710656) (h : ∀ v, Lib.atoiAll s.data.toList ≠ .ok v) (w : World) (hN : NumOk w) :
 Calls Tryz.prog 226 #[.string s] w fun e w' => ∃ (v : Int) (T : TypeId) (N : Nat), e = .returned (.tuple #[.int .i64 v, .iface T (.pointer (some ⟨N, 0, none⟩))]) ∧ Bl w w' := by
 rcases ha : Lib.atoiAll s.data.toList with v | _ | _
 · exact absurd ha (h v)
 · obtain ⟨t, p, hv⟩ := hN.syn
   refine Calls.mono (Any.strconv_Atoi_syntax_var Tryz.lays172 s hs ha t p w hv) ?_
   rintro e w' ⟨N, he, -, -, hb⟩
   exact ⟨_, _, N, he, hb⟩
 · obtain ⟨t, p, hv⟩ := hN.ran
   refine Calls.mono (Any.strconv_Atoi_range_var Tryz.lays172 s hs ha t p w hv) ?_
   rintro e w' ⟨N, he, -, -, hb⟩
   exact ⟨_, _, N, he, hb⟩
end Go.Proofs.YthobmednnocklaaGreatDoor


/-! bedref2.Number. -/
namespace Go.Proofs.YthobmednnocklaaGreatDoor
open Go.RowKit Go.Shelf

def digCs : List UInt8 := [48, 49, 50, 51, 52, 53, 54, 55, 56, 57]
theorem digCs_has (b : UInt8) : digCs.contains b = isDg b := by
 have hb : b = UInt8.ofNat b.toNat := by simp
 rw [hb]
 have hlt : b.toNat < 256 := b.toNat_lt
 generalize b.toNat = n at hlt
 have : n ∈ List.range 256 := List.mem_range.2 hlt
 revert n
 decide +kernel
theorem trimDig_empty (s r : ByteArray) (hr : r = ⟨(Lib.trimS s.data.toList digCs).toArray⟩) : r.toList.isEmpty = s.data.toList.all isDg := by
 rw [Lib.toList_data, hr, Bool.eq_iff_iff, List.isEmpty_iff]
 show Lib.trimS s.data.toList digCs = [] ↔ _
 rw [trimS_nil_iff, List.all_eq_true]
 constructor
 · intro h b hb; rw [← digCs_has]; exact h b hb
 · intro h b hb; rw [digCs_has]; exact h b hb
end Go.Proofs.YthobmednnocklaaGreatDoor


/-! slices.IndexFunc, slices.ContainsFunc of texts; the two closures 'is not empty'. -/
namespace Go.Proofs.YthobmednnocklaaGreatDoor
open Go.RowKit Go.Shelf

def TestsS (P : Program) (k : FuncId) (cap : Array Value) (w : World) (ls : List (List UInt8)) (p : List UInt8 → Bool) : Prop :=
 (∀ args w, (callFunc k args).run P w = .ok (.enter k args) w) ∧ ∀ wx l, Bl w wx → l ∈ ls → Calls P k (#[strOf l] ++ cap) wx fun e w' => e = .returned (.bool (p l)) ∧ Bl wx w'
theorem TestsS.bl {P : Program} {k : FuncId} {cap : Array Value} {w w' : World} {ls : List (List UInt8)} {p : List UInt8 → Bool} (h : TestsS P k cap w ls p) (hb : Bl w w') : TestsS P k cap w' ls p := ⟨h.1, fun wx l hx hl => h.2 wx l (hb.trans hx) hl⟩

end Go.Proofs.YthobmednnocklaaGreatDoor


/-! glyph.Set and glyph.Letter of any font; bedref2.TextError. -/
namespace Go.Proofs.YthobmednnocklaaGreatDoor
open Go.RowKit Go.Shelf

def FSetRes (fe : Int) (ls : List Ltr) (ht gap sp : Int) (t : List UInt8) (w : World) (e : Ending) (w' : World) : Prop := ∃ a b R m d, e = .returned (.tuple #[.agg #[.int .i64 a, .int .i64 b, .slice R m d], .int .i64 (fsetErr fe ls ht gap sp t)]) ∧
 Res w.heap.size w' (fsetErr fe ls ht gap sp t) (wideOf ls gap.toNat sp.toNat t) ht.toNat ((setCells ls ht.toNat gap.toNat sp.toNat t).map .bool) a b R m d ∧ Bl w w'
set_option maxRecDepth 100000 in
set_option maxHeartbeats 4000000 in
theorem fset_any (nm : List UInt8) (ht gap sp : Int) (L : Option Addr) (c : Nat) (ls : List Ltr) (t : List UInt8) (w : World) (hL : LtrsAt w L ls) (hnm : nm.length ≤ 9223372036854775807) (hn : ls.length ≤ 9223372036854775807) (htl : t.length ≤ 9223372036854775807) (hv : SubOk w) :
 Calls Tryz.prog 128 #[.agg #[.string ⟨nm.toArray⟩, .int .i64 ht, .int .i64 gap, .int .i64 sp, .slice L ls.length c], .string ⟨t.toArray⟩] w (FSetRes (fontErr (nameB nm) ht gap sp ls) ls ht gap sp t w) := by
 let w2 := ((w).alloc (.cells #[.string ⟨nm.toArray⟩, .int .i64 ht, .int .i64 gap, .int .i64 sp, .slice L ls.length c] 29)).alloc (.cells #[.int .i64 0, .int .i64 0, .slice none 0 0] 24)
 have w2b : Bl w w2 := ((Bl.refl w).alloc _).alloc _
 have w21 : Blk w2 (w.heap.size) 29 #[.string ⟨nm.toArray⟩, .int .i64 ht, .int .i64 gap, .int .i64 sp, .slice L ls.length c] := by
  have h0 := Blk.new (w) 29 #[.string ⟨nm.toArray⟩, .int .i64 ht, .int .i64 gap, .int .i64 sp, .slice L ls.length c]
  exact (h0.alloc _)
 have w22 : Blk w2 (w.heap.size + 1) 24 #[.int .i64 0, .int .i64 0, .slice none 0 0] := by
  have h0 := Blk.new ((w).alloc (.cells #[.string ⟨nm.toArray⟩, .int .i64 ht, .int .i64 gap, .int .i64 sp, .slice L ls.length c] 29)) 24 #[.int .i64 0, .int .i64 0, .slice none 0 0]
  simp only [World.size_alloc] at h0
  exact h0
 have lw2 : w2.heap.size = w.heap.size + 2 := by simp [w2]
 have HL := Lib.hid (hL.bl w2b)
 have HV := Lib.hid (hv.bl w2b)
 obtain ⟨fe, hfe⟩ : ∃ x, x = fontErr (nameB nm) ht gap sp ls := ⟨_, rfl⟩
 have hck := check_any nm ht gap sp L c ls w2 (hL.bl w2b) hnm hn
 rw [← hfe] at hck ⊢
 have Hck := Lib.hid hck; have HFe := Lib.hid hfe
 have k1 := w21.all5
 clear hL hck hfe hv
 go_enter Tryz.func128, Tryz.ntmps128
 go_wp2_with fail
 refine Hck.out.mono ?_
 rintro e w3 ⟨rfl, hb3⟩
 clear_value w2
 clear k1 Hck
 have kz := (w22.bl hb3).all3
 by_cases hz : fe = 0
 case neg =>
  have hq : (fe != 0) = true := by simp [hz]
  have hq2 : (fe == 0) = false := by simp [hz]
  have HZ := Lib.hid hz
  have HE := Lib.hid (show fsetErr fe ls ht gap sp t = fe from if_neg hz)
  clear hz
  go_wp2_with fail
  refine bodyPost_ret (v := .tuple #[.agg #[.int .i64 0, .int .i64 0, .slice none 0 0], .int .i64 fe]) (by simp [results, Tryz.results128, go_sem, kz]) rfl ⟨0, 0, none, 0, 0, by rw [HE.out], by rw [HE.out]; exact Res.zero _ _ _ _ _ HZ.out, ?_⟩
  exact (((w2b.trans hb3).setCell (by simp) _).setCell (by simp) _).setCell (by simp) _
 case pos =>
  subst hz
  obtain ⟨ht', gap', sp', rfl, rfl, rfl, hR⟩ := right_of HFe.out.symm
  obtain ⟨adl, rfl⟩ := some_at HL.out hR.many.1
  have hs := setG_any nm ht' gap' sp' adl c ls t w3 (HL.out.bl hb3) hR htl (HV.out.bl hb3)
  have Hs := Lib.hid hs; have HR := Lib.hid hR
  have k1 := (w21.bl hb3).all5
  clear hs hR kz
  go_wp2_with fail
  refine Hs.out.mono ?_
  rintro e w4 ⟨a, b, R, m, d, rfl, hres, hb4⟩
  have hfs : fsetErr 0 ls ht' gap' sp' t = setErr ls ht' gap' sp' t := by unfold fsetErr; rw [if_pos rfl]; simp
  have HFs := Lib.hid hfs; have HRes := Lib.hid hres
  have hle := hb3.le
  have kz := (w22.bl (hb3.trans hb4)).all3
  clear hfs hres k1 Hs
  go_wp2_with fail
  refine bodyPost_ret (v := .tuple #[.agg #[.int .i64 a, .int .i64 b, .slice R m d], .int .i64 (setErr ls ht' gap' sp' t)]) (by simp [results, Tryz.results128, go_sem, kz]) rfl ⟨a, b, R, m, d, by rw [HFs.out], ?_, ?_⟩
  · rw [HFs.out]
    simp only [Int.toNat_natCast]
    have hB : w.heap.size + 2 ≤ w3.heap.size := by omega
    exact ((((HRes.out.mono hB).store (by simp) _).store (by simp) _).store (by simp) _).mono (by omega)
  · exact (((w2b.trans (hb3.trans hb4)).setCell (by simp) _).setCell (by simp) _).setCell (by simp) _

end Go.Proofs.YthobmednnocklaaGreatDoor


/-! From a statement's row to a walk: fonts and samples that read as data are opened. No condition. -/
namespace Go.Proofs.YthobmednnocklaaGreatDoor
open Go.ChangeShapes Go.WideShapes Go.ChangeAt Go.RowKit Go.Joins

theorem build_list {α : Type} {Q : Nat → α → Prop} : ∀ (n : Nat), (∀ i, i < n → ∃ y, Q i y) → ∃ ys : List α, ys.length = n ∧ ∀ (i : Nat) y, ys[i]? = some y → Q i y
 | 0, _ => ⟨[], rfl, fun i y h => by simp at h⟩
 | n + 1, h => by
  obtain ⟨ys, hl, hy⟩ := build_list n fun i hi => h i (by omega)
  obtain ⟨z, hz⟩ := h n (by omega)
  refine ⟨ys ++ [z], by simp [hl], fun i y hi => ?_⟩
  rcases Nat.lt_or_ge i ys.length with h1 | h1
  · rw [List.getElem?_append_left h1] at hi
    exact hy i y hi
  · have hlt := (List.getElem?_eq_some_iff.1 hi).1
    have e : i = ys.length := by simp at hlt; omega
    subst e
    rw [List.getElem?_append_right (Nat.le_refl _), Nat.sub_self] at hi
    injection hi with hi
    subst hi
    rw [hl]
    exact hz
section
variable {H : Type} {enc : TypeId × Value → H} {P : Program} {w : World} {base : Nat} {spare : Nat → Bool} {held : Bool}
theorem cells_split {a : Addr} {n : Nat} {cs : List Value} (h : w.cells? base a n = some cs) : cs.length = n ∧ ∀ (j : Nat) u, cs[j]? = some u → w.cell? (a.add j) = some u := by
 unfold World.cells? at h
 split at h
 · have key : ∀ (m : Nat) (l : List Nat) (cs : List Value), l = (List.range' m (n - m)) → m ≤ n → l.mapM (fun i => w.cell? (a.add i)) = some cs → cs.length = n - m ∧ ∀ (j : Nat) u, cs[j]? = some u → w.cell? (a.add (m + j)) = some u := by
    intro m l
    induction l generalizing m with
    | nil =>
     intro cs hl hm hc
     simp at hc
     subst hc
     have : n - m = 0 := by
      have := congrArg List.length hl
      simpa using this.symm
     exact ⟨by simp [this], fun j u hj => by simp at hj⟩
    | cons x l ih =>
     intro cs hl hm hc
     have hlt : m < n := by
      have := congrArg List.length hl
      simp at this
      omega
     have e : n - m = (n - (m + 1)) + 1 := by omega
     rw [e, List.range'_succ] at hl
     injection hl with h1 h2
     subst h1
     simp only [List.mapM_cons, Option.bind_eq_bind, Option.bind_eq_some_iff, Option.pure_def, Option.some.injEq] at hc
     obtain ⟨v, hv, vs, hvs, rfl⟩ := hc
     obtain ⟨k1, k2⟩ := ih (x + 1) vs h2 (by omega) hvs
     refine ⟨by simp [k1]; omega, fun j u hj => ?_⟩
     rcases j with _ | j
     · simp at hj
       subst hj
       exact hv
     · have := k2 j u (by simpa using hj)
       rw [show x + (j + 1) = x + 1 + j by omega]
       exact this
   have := key 0 (List.range n) cs (by rw [List.range_eq_range']; rfl) (Nat.zero_le _) h
   simpa using this
 · cases h
theorem rd_cells {t e : TypeId} {fuel : Nat} {a0 : Option Addr} {len cap : Nat} {x : DataW H × List MemPlace} (ht : P.underlying t = some (.slice e)) (h : DataW.trod enc P w base spare held fuel t [.slice a0 len cap] = some x) :
 (a0 = none ∧ len = 0 ∧ cap = 0) ∨ ∃ a n', a0 = some a ∧ len ≤ cap ∧ cap ≤ maxLen ∧ ∀ i, i < len → ∃ cs x', cs.length = P.cellsOf e ∧ (∀ (j : Nat) u, cs[j]? = some u → w.cell? (a.add (i * P.cellsOf e + j)) = some u) ∧ DataW.trod enc P w base spare held n' e cs = some x' := by
 rcases DataW.trod_slice ht h with ⟨hcs, _⟩ | ⟨a, len', cap', elems, rest, n, _, hcs, _, _, hl, hm, hlen, hel, _⟩
 · simp at hcs
   exact .inl hcs
 · simp at hcs
   obtain ⟨rfl, rfl, rfl⟩ := hcs
   refine .inr ⟨a, n, rfl, hl, hm, fun i hi => ?_⟩
   have h1 := hel i hi
   rw [List.getElem?_eq_getElem (by omega)] at h1
   obtain ⟨cs, hcs, htr⟩ := Option.bind_eq_some_iff.1 h1
   obtain ⟨k1, k2⟩ := cells_split hcs
   refine ⟨cs, _, k1, fun j u hj => ?_, htr⟩
   have := k2 j u hj
   rwa [add_of_add] at this
end

section
variable {H : Type} {enc : TypeId × Value → H} {w : World} {base b0 : Nat} {spare : Nat → Bool} {held : Bool} {r : Reach}
theorem cells_str : Tryz.prog.cellsOf 9 = 1 := by kernel_rfl
theorem cells_int : Tryz.prog.cellsOf 3 = 1 := by kernel_rfl
theorem cells_bools : Tryz.prog.cellsOf 22 = 1 := by kernel_rfl
theorem cells_bits : Tryz.prog.cellsOf 24 = 3 := by kernel_rfl
theorem cells_ltr : Tryz.prog.cellsOf 88 = 4 := by kernel_rfl
theorem cells_font : Tryz.prog.cellsOf 29 = 5 := by kernel_rfl
set_option maxRecDepth 100000 in
theorem rd_page {fuel : Nat} {cs : List Value} {x : DataW H × List MemPlace} (h : DataW.trod enc Tryz.prog w base spare held fuel 24 cs = some x) : ∃ p : Pg, cs = p.cells ∧ p.bs.length = p.m ∧ Reads w 1 p.A p.m (p.bs.map .bool) := by
 obtain ⟨y0, y1, y2, n, _, hl, h0, h1, h2⟩ := Go.Deep.trod_struct3 Tryz.underlying24 h
 rw [cells_bits] at hl
 match cs, hl with
 | [c0, c1, c2], _ =>
  simp only [cells_int, cells_bools, List.drop_zero, List.drop_succ_cons, List.take_succ_cons, List.take_zero] at h0 h1 h2
  obtain ⟨W, e0, _, w0⟩ := DataW.trod_int Tryz.underlying3 h0
  obtain ⟨Ht, e1, _, w1⟩ := DataW.trod_int Tryz.underlying3 h1
  obtain ⟨A, m, c, rfl⟩ := slice_of_trod Tryz.underlying22 h2
  simp at e0 e1
  subst e0 e1
  obtain ⟨bs, hz, hr, hm⟩ := rd_bools Tryz.underlying22 Tryz.underlying4 (by kernel_rfl) h2
  exact ⟨⟨W, Ht, A, m, c, bs⟩, rfl, hz, hr⟩
set_option maxRecDepth 100000 in
theorem rd_letter {fuel : Nat} {cs : List Value} {x : DataW H × List MemPlace} (h : DataW.trod enc Tryz.prog w base spare held fuel 88 cs = some x) : ∃ l : Ltr, cs = l.cells ∧ l.bs.length = l.m ∧ Reads w 1 l.A l.m (l.bs.map .bool) ∧ l.text.length ≤ 9223372036854775807 := by
 obtain ⟨y0, y1, n, _, hl, h0, h1⟩ := trod_struct2 Tryz.underlying88 h
 rw [cells_ltr] at hl
 match cs, hl with
 | [c0, c1, c2, c3], _ =>
  simp only [cells_str, cells_bits, List.drop_zero, List.drop_succ_cons, List.take_succ_cons, List.take_zero] at h0 h1
  obtain ⟨s, e0, _, w0⟩ := DataW.trod_string Tryz.underlying9 h0
  obtain ⟨p, e1, hb, hr⟩ := rd_page h1
  obtain ⟨t, rfl⟩ := string_mk s
  simp at e0
  subst e0
  unfold Pg.cells at e1
  simp at e1
  obtain ⟨rfl, rfl, rfl⟩ := e1
  exact ⟨⟨t, p.W, p.H, p.A, p.m, p.c, p.bs⟩, rfl, hb, hr, by rw [Lib.size_mk] at w0; exact w0⟩
theorem mod4 (j : Nat) : j = j / 4 * 4 + j % 4 := by omega
set_option maxRecDepth 100000 in
theorem rd_letters {fuel : Nat} {a0 : Option Addr} {len cap : Nat} {x : DataW H × List MemPlace} (h : DataW.trod enc Tryz.prog w base spare held fuel 27 [.slice a0 len cap] = some x) : ∃ ls : List Ltr, ls.length = len ∧ LtrsAt w a0 ls ∧ len ≤ 9223372036854775807 ∧ len ≤ cap := by
 rcases rd_cells Tryz.underlying27 h with ⟨rfl, rfl, rfl⟩ | ⟨a, n', rfl, hlc, hcm, hel⟩
 · exact ⟨[], rfl, LtrsAt.none _, by omega, by omega⟩
 · obtain ⟨ls, hl, hls⟩ := build_list (Q := fun i (l : Ltr) => (∀ (j : Nat) u, l.cells[j]? = some u → w.cell? (a.add (i * 4 + j)) = some u) ∧ Reads w 1 l.A l.m (l.bs.map .bool) ∧ l.text.length ≤ 9223372036854775807) len (fun i hi => by
    obtain ⟨cs, x', _, hc, ht⟩ := hel i hi
    obtain ⟨l, rfl, _, hr, hx⟩ := rd_letter ht
    rw [cells_ltr] at hc
    exact ⟨l, hc, hr, hx⟩)
   refine ⟨ls, hl, ⟨⟨ltrCells_len ls, fun _ => ⟨a, rfl, fun j u hj => ?_⟩⟩, fun l hp => ?_⟩, by unfold maxLen at hcm; omega, hlc⟩
   · have hlt : j < ls.length * 4 := by rw [← ltrCells_len]; exact (List.getElem?_eq_some_iff.1 hj).1
     have hi : j / 4 < ls.length := by omega
     have hg : ls[j / 4]? = some ls[j / 4] := List.getElem?_eq_getElem hi
     rw [mod4 j] at hj ⊢
     rw [ltrCells_at hg (j % 4) (Nat.mod_lt _ (by decide))] at hj
     exact (hls _ _ hg).1 _ _ hj
   · obtain ⟨i, hi⟩ := List.getElem?_of_mem hp
     exact (hls i l hi).2
theorem array5 {α : Type} {cs : Array α} (h : cs.size = 5) : ∃ c0 c1 c2 c3 c4, cs = #[c0, c1, c2, c3, c4] := by
 obtain ⟨l⟩ := cs
 match l, h with
 | [c0, c1, c2, c3, c4], _ => exact ⟨c0, c1, c2, c3, c4, rfl⟩
set_option maxRecDepth 100000 in
theorem open_font {v : Value} {d : DataW H} {p : List MemPlace} (hv : Value.okWide Tryz.prog w r b0 29 v) (h : DataW.Trod enc Tryz.prog w base spare held 29 v d p) :
 ∃ (nm : List UInt8) (ht gap sp : Int) (L : Option Addr) (c : Nat) (ls : List Ltr), v = .agg #[.string ⟨nm.toArray⟩, .int .i64 ht, .int .i64 gap, .int .i64 sp, .slice L ls.length c] ∧ LtrsAt w L ls ∧ nm.length ≤ 9223372036854775807 ∧ ls.length ≤ 9223372036854775807 ∧ ls.length ≤ c := by
 obtain ⟨cs, rfl, hsz⟩ := okWide_struct Tryz.underlying29 hv
 obtain ⟨c0, c1, c2, c3, c4, rfl⟩ := array5 (hsz.trans cells_font)
 obtain ⟨fuel, hf⟩ := h
 obtain ⟨xs, n, _, _, _, hlen, hfs⟩ := DataW.trod_struct Tryz.underlying29 hf
 match xs, hlen with
 | [y0, y1, y2, y3, y4], _ =>
  have h0 := hfs 0 _ rfl
  have h1 := hfs 1 _ rfl
  have h2 := hfs 2 _ rfl
  have h3 := hfs 3 _ rfl
  have h4 := hfs 4 _ rfl
  simp only [Value.cells, List.getElem?_cons_zero, List.getElem?_cons_succ] at h0 h1 h2 h3 h4
  obtain ⟨s, e0, _, w0⟩ := DataW.trod_string Tryz.underlying9 h0
  obtain ⟨a, e1, _, _⟩ := DataW.trod_int Tryz.underlying3 h1
  obtain ⟨b, e2, _, _⟩ := DataW.trod_int Tryz.underlying3 h2
  obtain ⟨c, e3, _, _⟩ := DataW.trod_int Tryz.underlying3 h3
  obtain ⟨A, m, cc, rfl⟩ := slice_of_trod Tryz.underlying27 h4
  obtain ⟨t, rfl⟩ := string_mk s
  simp [cells_str, cells_int] at e0 e1 e2 e3
  subst e0 e1 e2 e3
  obtain ⟨ls, rfl, hL, hn, hc⟩ := rd_letters h4
  exact ⟨t, a, b, c, A, cc, ls, rfl, hL, by rw [Lib.size_mk] at w0; exact w0, hn, hc⟩
end

end Go.Proofs.YthobmednnocklaaGreatDoor
