/- strings.Repeat of one sign, '0' or '1', at most four times. -/
import Derived.Test.YtkipcobpnecmhaaGreatDoorMClaimBarCodes10
import Derived.Test.YtkipcobpnecmhaaGreatDoorMClaimBarCodes11
import Derived.Shelf.Bits.Mul64

namespace Go.Proofs
open Go.Shelf
def Tryz.lays212_ren : Go.Shelf.Ren := ⟨fun | 212 => 56 | 263 => 101 | 264 => 102 | n => n, fun | 46 => 41 | 51 => 126 | 146 => 127 | 53 => 129 | 148 => 130 | n => n, fun | n => n⟩
theorem Tryz.lays212 : Go.Proofs.Lays.n212 Tryz.prog Tryz.lays212_ren := {
  mixed := by kernel_rfl
  f212 := Tryz.func56.trans (congrArg some (by kernel_rfl))
  f263 := Tryz.func101.trans (congrArg some (by kernel_rfl))
  f264 := Tryz.func102.trans (congrArg some (by kernel_rfl))
  t46 := Tryz.underlying41
  a46 := Tryz.isAgg41
  z46 := Tryz.sizeOf41
  v46 := Tryz.zeroValue41
  t51 := Tryz.underlying126
  a51 := Tryz.isAgg126
  z51 := Tryz.sizeOf126
  v51 := Tryz.zeroValue126
  t53 := Tryz.underlying129
  a53 := Tryz.isAgg129
  z53 := Tryz.sizeOf129
  v53 := Tryz.zeroValue129
  t146 := Tryz.underlying127
  a146 := Tryz.isAgg127
  z146 := Tryz.sizeOf127
  v146 := Tryz.zeroValue127
  t148 := Tryz.underlying130
  a148 := Tryz.isAgg130
  z148 := Tryz.sizeOf130
  v148 := Tryz.zeroValue130 }

def Tryz.lays170_ren : Go.Shelf.Ren := ⟨fun | 170 => 60 | n => n, fun | 70 => 86 | 3 => 3 | 0 => 0 | 72 => 88 | 37 => 40 | 5 => 5 | n => n, fun | n => n⟩
theorem Tryz.lays170 : Go.Proofs.Lays.n170 Tryz.prog Tryz.lays170_ren := {
  mixed := by kernel_rfl
  f170 := Tryz.func60.trans (congrArg some (by kernel_rfl))
  t0 := Tryz.underlying0
  a0 := Tryz.isAgg0
  z0 := Tryz.sizeOf0
  v0 := Tryz.zeroValue0
  t3 := Tryz.underlying3
  a3 := Tryz.isAgg3
  z3 := Tryz.sizeOf3
  v3 := Tryz.zeroValue3
  t37 := Tryz.underlying40
  a37 := Tryz.isAgg40
  z37 := Tryz.sizeOf40
  v37 := Tryz.zeroValue40
  t70 := Tryz.underlying86
  a70 := Tryz.isAgg86
  z70 := Tryz.sizeOf86
  v70 := Tryz.zeroValue86
  t72 := Tryz.underlying88
  a72 := Tryz.isAgg88
  z72 := Tryz.sizeOf88
  v72 := Tryz.zeroValue88 }

end Go.Proofs
namespace Go.Proofs.YtkipcobpnecmhaaGreatDoor
open Go.RowKit Go.Shelf

theorem mul_any (x y : Nat) (h : x * y < 18446744073709551616) (hx : x < 18446744073709551616) (hy : y < 18446744073709551616) (w : World) :
    Calls Tryz.prog 56 #[.int .u64 x, .int .u64 y] w fun e w' => e = .returned (.tuple #[.int .u64 0, .int .u64 ((x * y : Nat) : Int)]) ∧ w = w' := by
  refine (Any.bits_Mul Tryz.lays212 x y hx hy w).mono ?_
  rintro e w' ⟨rfl, rfl⟩
  refine ⟨?_, rfl⟩
  rw [Nat.div_eq_of_lt h, Nat.mod_eq_of_lt h]
  rfl
theorem builderLen_any (B : Nat) (l : List UInt8) (w : World) (h : Bui B l w) :
    Calls Tryz.prog 60 #[.pointer (some ⟨B, 0, none⟩)] w fun e w' => e = .returned (.int .i64 l.length) ∧ w = w' := by
  refine (Any.Builder_Len_f Tryz.lays170 B B _ w h).mono ?_
  rintro e w' ⟨rfl, rfl⟩
  rw [Lib.byteCells_length]
  exact ⟨rfl, rfl⟩
theorem builderStringK_any (B : Nat) (l : List UInt8) (w : World) (h : Bui B l w) (hBw : B ≤ w.heap.size) :
    Calls Tryz.prog 61 #[.pointer (some ⟨B, 0, none⟩)] w fun e w' => e = .returned (.string ⟨l.toArray⟩) ∧ Bui B l w' ∧ Below B w w' := by
  refine (Any.Builder_String_any_k Tryz.lays169 Tryz.builderExtra B B l w h hBw).mono ?_
  rintro e w' ⟨rfl, h1, h2, _⟩
  exact ⟨rfl, h1, h2⟩
theorem min3_any (a b c : Int) (ts : Array TypeId) (t : TypeId) (w : World) : (Builtin.min_ ts t #[.int .i64 a, .int .i64 b, .int .i64 c]).run Tryz.prog w = .ok (.int .i64 (min (min a b) c)) w := by
  simp [Builtin.min_, Builtin.min2]
  omega

set_option maxRecDepth 100000 in
set_option maxHeartbeats 4000000 in
theorem repeat49_2 (w : World) : Calls Tryz.prog 32 #[.string ⟨#[49]⟩, .int .i64 2] w fun e w' => e = .returned (.string ⟨(List.replicate 2 (49 : UInt8)).toArray⟩) ∧ Bl w w' := by
  have Hmul := Lib.hid (mul_any 1 2 (by decide) (by decide) (by decide) w)
  have Hgr := Lib.hid (growB_any w.heap.size 2 w rfl (by decide))
  go_enter Tryz.func32, Tryz.ntmps32
  go_wp2_with fail
  refine Hmul.out.mono ?_
  rintro e w' ⟨rfl, rfl⟩
  go_wp2_with fail
  refine Hgr.out.mono ?_
  rintro e w1 ⟨rfl, hbu, hb1⟩
  obtain ⟨B, hB⟩ : ∃ B, B = w.heap.size := ⟨_, rfl⟩
  rw [← hB] at hbu ⊢
  have HB := Lib.hid hB
  have hBw1 : B ≤ w1.heap.size := by rw [hB]; exact hb1.le
  have Hw := Lib.hid (writeString_any B [] [49] w1 hbu (by decide) hBw1)
  clear hB Hmul Hgr hbu
  go_wp2_with fail
  refine Hw.out.mono ?_
  rintro e w2 ⟨rfl, hbu2, hbe2⟩
  have hb2 := Bl.trans' hb1 HB.out.symm hbe2
  have hBw2 : B ≤ w2.heap.size := Nat.le_trans hBw1 hbe2.size
  clear Hw hbe2 hb1 hBw1
  go_wp2_with fail
  refine wp_loop_rounds 2 ?_
  have HU1 := Lib.hid (show Bui B ([49] : List UInt8) w2 from hbu2)
  have hmin : ∀ (ts : Array TypeId) (t : TypeId) (W : World), (Builtin.min_ ts t #[.int .i64 1, .int .i64 1, .int .i64 2]).run Tryz.prog W = .ok (.int .i64 1) W := fun ts t W => by rw [min3_any]; rfl
  rw [rounds_succ]
  go_wp2_with fail
  refine (builderLen_any B [49] _ HU1.out).mono ?_
  rintro e w' ⟨rfl, rfl⟩
  go_wp2_with fail
  refine (builderLen_any B [49] _ HU1.out).mono ?_
  rintro e w' ⟨rfl, rfl⟩
  go_wp2_with fail
  refine (builderLen_any B [49] _ HU1.out).mono ?_
  rintro e w' ⟨rfl, rfl⟩
  go_wp2_with fail
  refine (builderStringK_any B [49] _ HU1.out hBw2).mono ?_
  rintro e w3 ⟨rfl, hu3, hbe3⟩
  have hBw3 : B ≤ w3.heap.size := Nat.le_trans hBw2 hbe3.size
  have hb3 := Bl.trans' hb2 HB.out.symm hbe3
  go_wp2_with fail
  refine (writeString_any B [49] [49] w3 hu3 (by decide) hBw3).mono ?_
  rintro e w4 ⟨rfl, hu4, hbe4⟩
  have hBw4 : B ≤ w4.heap.size := Nat.le_trans hBw3 hbe4.size
  have hb4 := Bl.trans' hb3 HB.out.symm hbe4
  clear hmin
  go_wp2_with fail
  have HUE := Lib.hid (show Bui B ([49, 49] : List UInt8) w4 from hu4)
  rw [rounds_succ]
  go_wp2_with fail
  refine (builderLen_any B [49, 49] _ HUE.out).mono ?_
  rintro e w' ⟨rfl, rfl⟩
  go_wp2_with fail
  refine (builderStringK_any B [49, 49] _ HUE.out hBw4).mono ?_
  rintro e we ⟨rfl, -, hbee⟩
  have hbe := Bl.trans' hb4 HB.out.symm hbee
  go_wp2_with fail
  go_ret
  exact ⟨rfl, hbe⟩

set_option maxRecDepth 100000 in
set_option maxHeartbeats 4000000 in
theorem repeat49_3 (w : World) : Calls Tryz.prog 32 #[.string ⟨#[49]⟩, .int .i64 3] w fun e w' => e = .returned (.string ⟨(List.replicate 3 (49 : UInt8)).toArray⟩) ∧ Bl w w' := by
  have Hmul := Lib.hid (mul_any 1 3 (by decide) (by decide) (by decide) w)
  have Hgr := Lib.hid (growB_any w.heap.size 3 w rfl (by decide))
  go_enter Tryz.func32, Tryz.ntmps32
  go_wp2_with fail
  refine Hmul.out.mono ?_
  rintro e w' ⟨rfl, rfl⟩
  go_wp2_with fail
  refine Hgr.out.mono ?_
  rintro e w1 ⟨rfl, hbu, hb1⟩
  obtain ⟨B, hB⟩ : ∃ B, B = w.heap.size := ⟨_, rfl⟩
  rw [← hB] at hbu ⊢
  have HB := Lib.hid hB
  have hBw1 : B ≤ w1.heap.size := by rw [hB]; exact hb1.le
  have Hw := Lib.hid (writeString_any B [] [49] w1 hbu (by decide) hBw1)
  clear hB Hmul Hgr hbu
  go_wp2_with fail
  refine Hw.out.mono ?_
  rintro e w2 ⟨rfl, hbu2, hbe2⟩
  have hb2 := Bl.trans' hb1 HB.out.symm hbe2
  have hBw2 : B ≤ w2.heap.size := Nat.le_trans hBw1 hbe2.size
  clear Hw hbe2 hb1 hBw1
  go_wp2_with fail
  refine wp_loop_rounds 3 ?_
  have HU1 := Lib.hid (show Bui B ([49] : List UInt8) w2 from hbu2)
  have hmin : ∀ (ts : Array TypeId) (t : TypeId) (W : World), (Builtin.min_ ts t #[.int .i64 2, .int .i64 1, .int .i64 3]).run Tryz.prog W = .ok (.int .i64 1) W := fun ts t W => by rw [min3_any]; rfl
  rw [rounds_succ]
  go_wp2_with fail
  refine (builderLen_any B [49] _ HU1.out).mono ?_
  rintro e w' ⟨rfl, rfl⟩
  go_wp2_with fail
  refine (builderLen_any B [49] _ HU1.out).mono ?_
  rintro e w' ⟨rfl, rfl⟩
  go_wp2_with fail
  refine (builderLen_any B [49] _ HU1.out).mono ?_
  rintro e w' ⟨rfl, rfl⟩
  go_wp2_with fail
  refine (builderStringK_any B [49] _ HU1.out hBw2).mono ?_
  rintro e w3 ⟨rfl, hu3, hbe3⟩
  have hBw3 : B ≤ w3.heap.size := Nat.le_trans hBw2 hbe3.size
  have hb3 := Bl.trans' hb2 HB.out.symm hbe3
  go_wp2_with fail
  refine (writeString_any B [49] [49] w3 hu3 (by decide) hBw3).mono ?_
  rintro e w4 ⟨rfl, hu4, hbe4⟩
  have hBw4 : B ≤ w4.heap.size := Nat.le_trans hBw3 hbe4.size
  have hb4 := Bl.trans' hb3 HB.out.symm hbe4
  clear hmin
  go_wp2_with fail
  have HU2 := Lib.hid (show Bui B ([49, 49] : List UInt8) w4 from hu4)
  have hmin : ∀ (ts : Array TypeId) (t : TypeId) (W : World), (Builtin.min_ ts t #[.int .i64 1, .int .i64 2, .int .i64 3]).run Tryz.prog W = .ok (.int .i64 1) W := fun ts t W => by rw [min3_any]; rfl
  rw [rounds_succ]
  go_wp2_with fail
  refine (builderLen_any B [49, 49] _ HU2.out).mono ?_
  rintro e w' ⟨rfl, rfl⟩
  go_wp2_with fail
  refine (builderLen_any B [49, 49] _ HU2.out).mono ?_
  rintro e w' ⟨rfl, rfl⟩
  go_wp2_with fail
  refine (builderLen_any B [49, 49] _ HU2.out).mono ?_
  rintro e w' ⟨rfl, rfl⟩
  go_wp2_with fail
  refine (builderStringK_any B [49, 49] _ HU2.out hBw4).mono ?_
  rintro e w5 ⟨rfl, hu5, hbe5⟩
  have hBw5 : B ≤ w5.heap.size := Nat.le_trans hBw4 hbe5.size
  have hb5 := Bl.trans' hb4 HB.out.symm hbe5
  go_wp2_with fail
  refine (writeString_any B [49, 49] [49] w5 hu5 (by decide) hBw5).mono ?_
  rintro e w6 ⟨rfl, hu6, hbe6⟩
  have hBw6 : B ≤ w6.heap.size := Nat.le_trans hBw5 hbe6.size
  have hb6 := Bl.trans' hb5 HB.out.symm hbe6
  clear hmin
  go_wp2_with fail
  have HUE := Lib.hid (show Bui B ([49, 49, 49] : List UInt8) w6 from hu6)
  rw [rounds_succ]
  go_wp2_with fail
  refine (builderLen_any B [49, 49, 49] _ HUE.out).mono ?_
  rintro e w' ⟨rfl, rfl⟩
  go_wp2_with fail
  refine (builderStringK_any B [49, 49, 49] _ HUE.out hBw6).mono ?_
  rintro e we ⟨rfl, -, hbee⟩
  have hbe := Bl.trans' hb6 HB.out.symm hbee
  go_wp2_with fail
  go_ret
  exact ⟨rfl, hbe⟩

set_option maxRecDepth 100000 in
set_option maxHeartbeats 4000000 in
theorem repeat49_4 (w : World) : Calls Tryz.prog 32 #[.string ⟨#[49]⟩, .int .i64 4] w fun e w' => e = .returned (.string ⟨(List.replicate 4 (49 : UInt8)).toArray⟩) ∧ Bl w w' := by
  have Hmul := Lib.hid (mul_any 1 4 (by decide) (by decide) (by decide) w)
  have Hgr := Lib.hid (growB_any w.heap.size 4 w rfl (by decide))
  go_enter Tryz.func32, Tryz.ntmps32
  go_wp2_with fail
  refine Hmul.out.mono ?_
  rintro e w' ⟨rfl, rfl⟩
  go_wp2_with fail
  refine Hgr.out.mono ?_
  rintro e w1 ⟨rfl, hbu, hb1⟩
  obtain ⟨B, hB⟩ : ∃ B, B = w.heap.size := ⟨_, rfl⟩
  rw [← hB] at hbu ⊢
  have HB := Lib.hid hB
  have hBw1 : B ≤ w1.heap.size := by rw [hB]; exact hb1.le
  have Hw := Lib.hid (writeString_any B [] [49] w1 hbu (by decide) hBw1)
  clear hB Hmul Hgr hbu
  go_wp2_with fail
  refine Hw.out.mono ?_
  rintro e w2 ⟨rfl, hbu2, hbe2⟩
  have hb2 := Bl.trans' hb1 HB.out.symm hbe2
  have hBw2 : B ≤ w2.heap.size := Nat.le_trans hBw1 hbe2.size
  clear Hw hbe2 hb1 hBw1
  go_wp2_with fail
  refine wp_loop_rounds 3 ?_
  have HU1 := Lib.hid (show Bui B ([49] : List UInt8) w2 from hbu2)
  have hmin : ∀ (ts : Array TypeId) (t : TypeId) (W : World), (Builtin.min_ ts t #[.int .i64 3, .int .i64 1, .int .i64 4]).run Tryz.prog W = .ok (.int .i64 1) W := fun ts t W => by rw [min3_any]; rfl
  rw [rounds_succ]
  go_wp2_with fail
  refine (builderLen_any B [49] _ HU1.out).mono ?_
  rintro e w' ⟨rfl, rfl⟩
  go_wp2_with fail
  refine (builderLen_any B [49] _ HU1.out).mono ?_
  rintro e w' ⟨rfl, rfl⟩
  go_wp2_with fail
  refine (builderLen_any B [49] _ HU1.out).mono ?_
  rintro e w' ⟨rfl, rfl⟩
  go_wp2_with fail
  refine (builderStringK_any B [49] _ HU1.out hBw2).mono ?_
  rintro e w3 ⟨rfl, hu3, hbe3⟩
  have hBw3 : B ≤ w3.heap.size := Nat.le_trans hBw2 hbe3.size
  have hb3 := Bl.trans' hb2 HB.out.symm hbe3
  go_wp2_with fail
  refine (writeString_any B [49] [49] w3 hu3 (by decide) hBw3).mono ?_
  rintro e w4 ⟨rfl, hu4, hbe4⟩
  have hBw4 : B ≤ w4.heap.size := Nat.le_trans hBw3 hbe4.size
  have hb4 := Bl.trans' hb3 HB.out.symm hbe4
  clear hmin
  go_wp2_with fail
  have HU2 := Lib.hid (show Bui B ([49, 49] : List UInt8) w4 from hu4)
  have hmin : ∀ (ts : Array TypeId) (t : TypeId) (W : World), (Builtin.min_ ts t #[.int .i64 2, .int .i64 2, .int .i64 4]).run Tryz.prog W = .ok (.int .i64 2) W := fun ts t W => by rw [min3_any]; rfl
  rw [rounds_succ]
  go_wp2_with fail
  refine (builderLen_any B [49, 49] _ HU2.out).mono ?_
  rintro e w' ⟨rfl, rfl⟩
  go_wp2_with fail
  refine (builderLen_any B [49, 49] _ HU2.out).mono ?_
  rintro e w' ⟨rfl, rfl⟩
  go_wp2_with fail
  refine (builderLen_any B [49, 49] _ HU2.out).mono ?_
  rintro e w' ⟨rfl, rfl⟩
  go_wp2_with fail
  refine (builderStringK_any B [49, 49] _ HU2.out hBw4).mono ?_
  rintro e w5 ⟨rfl, hu5, hbe5⟩
  have hBw5 : B ≤ w5.heap.size := Nat.le_trans hBw4 hbe5.size
  have hb5 := Bl.trans' hb4 HB.out.symm hbe5
  go_wp2_with fail
  refine (writeString_any B [49, 49] [49, 49] w5 hu5 (by decide) hBw5).mono ?_
  rintro e w6 ⟨rfl, hu6, hbe6⟩
  have hBw6 : B ≤ w6.heap.size := Nat.le_trans hBw5 hbe6.size
  have hb6 := Bl.trans' hb5 HB.out.symm hbe6
  clear hmin
  go_wp2_with fail
  have HUE := Lib.hid (show Bui B ([49, 49, 49, 49] : List UInt8) w6 from hu6)
  rw [rounds_succ]
  go_wp2_with fail
  refine (builderLen_any B [49, 49, 49, 49] _ HUE.out).mono ?_
  rintro e w' ⟨rfl, rfl⟩
  go_wp2_with fail
  refine (builderStringK_any B [49, 49, 49, 49] _ HUE.out hBw6).mono ?_
  rintro e we ⟨rfl, -, hbee⟩
  have hbe := Bl.trans' hb6 HB.out.symm hbee
  go_wp2_with fail
  go_ret
  exact ⟨rfl, hbe⟩

set_option maxRecDepth 100000 in
set_option maxHeartbeats 4000000 in
theorem repeat48_2 (w : World) : Calls Tryz.prog 32 #[.string ⟨#[48]⟩, .int .i64 2] w fun e w' => e = .returned (.string ⟨(List.replicate 2 (48 : UInt8)).toArray⟩) ∧ Bl w w' := by
  have Hmul := Lib.hid (mul_any 1 2 (by decide) (by decide) (by decide) w)
  go_enter Tryz.func32, Tryz.ntmps32
  go_wp2_with fail
  refine Hmul.out.mono ?_
  rintro e w' ⟨rfl, rfl⟩
  go_wp2_with fail
  refine (hasPrefix_any _ [48] _).mono ?_
  rintro e w' ⟨rfl, rfl⟩
  rw [show ∀ l : List UInt8, Lib.hasPrefix (32 :: l) [48] = false from fun _ => rfl]
  go_wp2_with fail
  refine (hasPrefix_any _ [48] _).mono ?_
  rintro e w' ⟨rfl, rfl⟩
  rw [show ∀ l : List UInt8, Lib.hasPrefix (45 :: l) [48] = false from fun _ => rfl]
  go_wp2_with fail
  refine (hasPrefix_any _ [48] _).mono ?_
  rintro e w' ⟨rfl, rfl⟩
  rw [show ∀ l : List UInt8, Lib.hasPrefix (48 :: l) [48] = true from fun _ => rfl]
  go_wp2_with fail
  try simp only [Exit.inBlock, Exit.then]
  go_ret
  exact ⟨rfl, Bl.refl _⟩

set_option maxRecDepth 100000 in
set_option maxHeartbeats 4000000 in
theorem repeat48_3 (w : World) : Calls Tryz.prog 32 #[.string ⟨#[48]⟩, .int .i64 3] w fun e w' => e = .returned (.string ⟨(List.replicate 3 (48 : UInt8)).toArray⟩) ∧ Bl w w' := by
  have Hmul := Lib.hid (mul_any 1 3 (by decide) (by decide) (by decide) w)
  go_enter Tryz.func32, Tryz.ntmps32
  go_wp2_with fail
  refine Hmul.out.mono ?_
  rintro e w' ⟨rfl, rfl⟩
  go_wp2_with fail
  refine (hasPrefix_any _ [48] _).mono ?_
  rintro e w' ⟨rfl, rfl⟩
  rw [show ∀ l : List UInt8, Lib.hasPrefix (32 :: l) [48] = false from fun _ => rfl]
  go_wp2_with fail
  refine (hasPrefix_any _ [48] _).mono ?_
  rintro e w' ⟨rfl, rfl⟩
  rw [show ∀ l : List UInt8, Lib.hasPrefix (45 :: l) [48] = false from fun _ => rfl]
  go_wp2_with fail
  refine (hasPrefix_any _ [48] _).mono ?_
  rintro e w' ⟨rfl, rfl⟩
  rw [show ∀ l : List UInt8, Lib.hasPrefix (48 :: l) [48] = true from fun _ => rfl]
  go_wp2_with fail
  try simp only [Exit.inBlock, Exit.then]
  go_ret
  exact ⟨rfl, Bl.refl _⟩

set_option maxRecDepth 100000 in
set_option maxHeartbeats 4000000 in
theorem repeat48_4 (w : World) : Calls Tryz.prog 32 #[.string ⟨#[48]⟩, .int .i64 4] w fun e w' => e = .returned (.string ⟨(List.replicate 4 (48 : UInt8)).toArray⟩) ∧ Bl w w' := by
  have Hmul := Lib.hid (mul_any 1 4 (by decide) (by decide) (by decide) w)
  go_enter Tryz.func32, Tryz.ntmps32
  go_wp2_with fail
  refine Hmul.out.mono ?_
  rintro e w' ⟨rfl, rfl⟩
  go_wp2_with fail
  refine (hasPrefix_any _ [48] _).mono ?_
  rintro e w' ⟨rfl, rfl⟩
  rw [show ∀ l : List UInt8, Lib.hasPrefix (32 :: l) [48] = false from fun _ => rfl]
  go_wp2_with fail
  refine (hasPrefix_any _ [48] _).mono ?_
  rintro e w' ⟨rfl, rfl⟩
  rw [show ∀ l : List UInt8, Lib.hasPrefix (45 :: l) [48] = false from fun _ => rfl]
  go_wp2_with fail
  refine (hasPrefix_any _ [48] _).mono ?_
  rintro e w' ⟨rfl, rfl⟩
  rw [show ∀ l : List UInt8, Lib.hasPrefix (48 :: l) [48] = true from fun _ => rfl]
  go_wp2_with fail
  try simp only [Exit.inBlock, Exit.then]
  go_ret
  exact ⟨rfl, Bl.refl _⟩

set_option maxRecDepth 100000 in
theorem repeat_one (b : UInt8) (w : World) : Calls Tryz.prog 32 #[.string ⟨#[b]⟩, .int .i64 1] w fun e w' => e = .returned (.string ⟨(List.replicate 1 b).toArray⟩) ∧ Bl w w' := by
  go_enter Tryz.func32, Tryz.ntmps32
  go_wp2_with fail
  try simp only [Exit.inBlock, Exit.then]
  go_ret
  exact ⟨rfl, Bl.refl _⟩
theorem repeat_any (b : UInt8) (hb : b = 48 ∨ b = 49) (k : Nat) (h1 : 1 ≤ k) (h4 : k ≤ 4) (w : World) : Calls Tryz.prog 32 #[.string ⟨#[b]⟩, .int .i64 k] w fun e w' => e = .returned (.string ⟨(List.replicate k b).toArray⟩) ∧ Bl w w' := by
  have hk : k = 1 ∨ k = 2 ∨ k = 3 ∨ k = 4 := by omega
  rcases hk with rfl | rfl | rfl | rfl
  · exact repeat_one b w
  · rcases hb with rfl | rfl
    · exact repeat48_2 w
    · exact repeat49_2 w
  · rcases hb with rfl | rfl
    · exact repeat48_3 w
    · exact repeat49_3 w
  · rcases hb with rfl | rfl
    · exact repeat48_4 w
    · exact repeat49_4 w

end Go.Proofs.YtkipcobpnecmhaaGreatDoor
