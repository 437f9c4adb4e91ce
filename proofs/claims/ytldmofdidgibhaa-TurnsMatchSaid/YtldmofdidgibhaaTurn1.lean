/- The closures that read one place, or reckon it. -/
import Derived.Test.YtldmofdidgibhaaPages
namespace Go.Proofs.Ytldmofdidgibhaa
open Go.RowKit

set_option maxRecDepth 100000 in
set_option maxHeartbeats 400000 in
theorem mirror1_any (p : Nat) (W H : Nat) (A : Option Addr) (c : Nat) (bs : List Bool) (x y : Nat) (w : World) (hp : Blk w p 39 #[.int .i64 W, .int .i64 H, .slice A (W * H) c]) (hr : Reads w 1 A (W * H) (bs.map .bool)) (hW : W ≤ 4000) (hH : H ≤ 4000) (hx : x < W) (hy : y < H) :
    Calls Try.prog 110 #[.int .i64 x, .int .i64 y, .pointer (some ⟨p, 0, none⟩)] w fun e w' => e = .returned (.bool (pix bs W (W - 1 - x) y)) ∧ Bl w w' := by
  have kp := hp.all3
  have hkx : W - 1 - x < W := by omega
  have hky : y < H := by omega
  have hk := place_lt hkx hky
  obtain ⟨ad, rfl, hc⟩ := hr.place hkx hky
  obtain ⟨k, hkk⟩ : ∃ k, k = (y) * W + (W - 1 - x) := ⟨_, rfl⟩
  rw [← hkk] at hk hc
  obtain ⟨j, hj⟩ : ∃ j, j = y := ⟨_, rfl⟩
  rw [← hj] at hkk hky
  have hjw := Int.natCast_mul j W
  have hq : (0 : Int) ≤ (j : Int) * (W : Int) ∧ (j : Int) * (W : Int) ≤ 16000000 := by
    have h6 := Nat.mul_le_mul (show j ≤ 4000 by omega) hW
    omega
  obtain rfl : y = j := hj.symm
  have ek : (y : Int) * (W : Int) + (W : Int) - 1 - (x : Int) = (k : Int) := by rw [hkk]; omega
  have hkl : (k : Int) < (W : Int) * (H : Int) := by have := Int.natCast_mul W H; omega
  have Hk := Lib.hid hkk
  clear hkk hjw
  go_enter Try.func110, Try.ntmps110
  go_wp2_with fail
  go_ret
  exact ⟨rfl, Bl.refl _⟩

set_option maxRecDepth 100000 in
set_option maxHeartbeats 400000 in
theorem invert1_any (p : Nat) (W H : Nat) (A : Option Addr) (c : Nat) (bs : List Bool) (x y : Nat) (w : World) (hp : Blk w p 39 #[.int .i64 W, .int .i64 H, .slice A (W * H) c]) (hr : Reads w 1 A (W * H) (bs.map .bool)) (hW : W ≤ 4000) (hH : H ≤ 4000) (hx : x < W) (hy : y < H) :
    Calls Try.prog 111 #[.int .i64 x, .int .i64 y, .pointer (some ⟨p, 0, none⟩)] w fun e w' => e = .returned (.bool (!pix bs W x y)) ∧ Bl w w' := by
  have kp := hp.all3
  have hkx : x < W := by omega
  have hky : y < H := by omega
  have hk := place_lt hkx hky
  obtain ⟨ad, rfl, hc⟩ := hr.place hkx hky
  obtain ⟨k, hkk⟩ : ∃ k, k = (y) * W + (x) := ⟨_, rfl⟩
  rw [← hkk] at hk hc
  obtain ⟨j, hj⟩ : ∃ j, j = y := ⟨_, rfl⟩
  rw [← hj] at hkk hky
  have hjw := Int.natCast_mul j W
  have hq : (0 : Int) ≤ (j : Int) * (W : Int) ∧ (j : Int) * (W : Int) ≤ 16000000 := by
    have h6 := Nat.mul_le_mul (show j ≤ 4000 by omega) hW
    omega
  obtain rfl : y = j := hj.symm
  have ek : (y : Int) * (W : Int) + (x : Int) = (k : Int) := by rw [hkk]; omega
  have hkl : (k : Int) < (W : Int) * (H : Int) := by have := Int.natCast_mul W H; omega
  have Hk := Lib.hid hkk
  clear hkk hjw
  go_enter Try.func111, Try.ntmps111
  go_wp2_with fail
  go_ret
  exact ⟨rfl, Bl.refl _⟩

set_option maxRecDepth 100000 in
set_option maxHeartbeats 400000 in
theorem turned1_any (ph : Nat) (pw : Nat) (W H : Nat) (x y : Nat) (w : World) (hph : Blk w ph 3 #[.int .i64 H]) (hpw : Blk w pw 3 #[.int .i64 W]) (hW : W ≤ 4000) (hH : H ≤ 4000) (hx : x < H) (hy : y < W) :
    Calls Try.prog 150 #[.int .i64 x, .int .i64 y, .pointer (some ⟨ph, 0, none⟩), .pointer (some ⟨pw, 0, none⟩)] w fun e w' => e = .returned (.int .i64 (((H - 1 - x) * W + y : Nat) : Int)) ∧ Bl w w' := by
  have kph := hph.all1
  have kpw := hpw.all1
  have hkx : y < W := by omega
  have hky : H - 1 - x < H := by omega
  have hk := place_lt hkx hky
  obtain ⟨k, hkk⟩ : ∃ k, k = (H - 1 - x) * W + (y) := ⟨_, rfl⟩
  rw [← hkk] at hk
  obtain ⟨j, hj⟩ : ∃ j, j = H - 1 - x := ⟨_, rfl⟩
  rw [← hj] at hkk hky
  have hjw := Int.natCast_mul j W
  have hq : (0 : Int) ≤ (j : Int) * (W : Int) ∧ (j : Int) * (W : Int) ≤ 16000000 := by
    have h6 := Nat.mul_le_mul (show j ≤ 4000 by omega) hW
    omega
  have ej : (H : Int) - 1 - (x : Int) = (j : Int) := by omega
  have ek : (j : Int) * (W : Int) + (y : Int) = (k : Int) := by rw [hkk]; omega
  have Hk := Lib.hid hkk
  have Hj := Lib.hid hj
  clear hkk hjw hj
  go_enter Try.func150, Try.ntmps150
  go_wp2_with fail
  go_ret
  exact ⟨ret_int (by rw [Hk.out, Hj.out]), Bl.refl _⟩

set_option maxRecDepth 100000 in
set_option maxHeartbeats 400000 in
theorem turned2_any (ph : Nat) (pw : Nat) (W H : Nat) (x y : Nat) (w : World) (hph : Blk w ph 3 #[.int .i64 H]) (hpw : Blk w pw 3 #[.int .i64 W]) (hW : W ≤ 4000) (hH : H ≤ 4000) (hx : x < W) (hy : y < H) :
    Calls Try.prog 151 #[.int .i64 x, .int .i64 y, .pointer (some ⟨ph, 0, none⟩), .pointer (some ⟨pw, 0, none⟩)] w fun e w' => e = .returned (.int .i64 (((H - 1 - y) * W + (W - 1 - x) : Nat) : Int)) ∧ Bl w w' := by
  have kph := hph.all1
  have kpw := hpw.all1
  have hkx : W - 1 - x < W := by omega
  have hky : H - 1 - y < H := by omega
  have hk := place_lt hkx hky
  obtain ⟨k, hkk⟩ : ∃ k, k = (H - 1 - y) * W + (W - 1 - x) := ⟨_, rfl⟩
  rw [← hkk] at hk
  obtain ⟨j, hj⟩ : ∃ j, j = H - 1 - y := ⟨_, rfl⟩
  rw [← hj] at hkk hky
  have hjw := Int.natCast_mul j W
  have hq : (0 : Int) ≤ (j : Int) * (W : Int) ∧ (j : Int) * (W : Int) ≤ 16000000 := by
    have h6 := Nat.mul_le_mul (show j ≤ 4000 by omega) hW
    omega
  have ej : (H : Int) - 1 - (y : Int) = (j : Int) := by omega
  have ek : (j : Int) * (W : Int) + (W : Int) - 1 - (x : Int) = (k : Int) := by rw [hkk]; omega
  have Hk := Lib.hid hkk
  have Hj := Lib.hid hj
  clear hkk hjw hj
  go_enter Try.func151, Try.ntmps151
  go_wp2_with fail
  go_ret
  exact ⟨ret_int (by rw [Hk.out, Hj.out]), Bl.refl _⟩

set_option maxRecDepth 100000 in
set_option maxHeartbeats 400000 in
theorem turned3_any (pw : Nat) (W H : Nat) (x y : Nat) (w : World) (hpw : Blk w pw 3 #[.int .i64 W]) (hW : W ≤ 4000) (hH : H ≤ 4000) (hx : x < H) (hy : y < W) :
    Calls Try.prog 152 #[.int .i64 x, .int .i64 y, .pointer (some ⟨pw, 0, none⟩)] w fun e w' => e = .returned (.int .i64 ((x * W + (W - 1 - y) : Nat) : Int)) ∧ Bl w w' := by
  have kpw := hpw.all1
  have hkx : W - 1 - y < W := by omega
  have hky : x < H := by omega
  have hk := place_lt hkx hky
  obtain ⟨k, hkk⟩ : ∃ k, k = (x) * W + (W - 1 - y) := ⟨_, rfl⟩
  rw [← hkk] at hk
  obtain ⟨j, hj⟩ : ∃ j, j = x := ⟨_, rfl⟩
  rw [← hj] at hkk hky
  have hjw := Int.natCast_mul j W
  have hq : (0 : Int) ≤ (j : Int) * (W : Int) ∧ (j : Int) * (W : Int) ≤ 16000000 := by
    have h6 := Nat.mul_le_mul (show j ≤ 4000 by omega) hW
    omega
  obtain rfl : x = j := hj.symm
  have ek : (x : Int) * (W : Int) + (W : Int) - 1 - (y : Int) = (k : Int) := by rw [hkk]; omega
  have Hk := Lib.hid hkk
  clear hkk hjw
  go_enter Try.func152, Try.ntmps152
  go_wp2_with fail
  go_ret
  exact ⟨ret_int (by rw [Hk.out]; first | done | simp), Bl.refl _⟩

set_option maxRecDepth 100000 in
set_option maxHeartbeats 400000 in
theorem turned4_any (pw : Nat) (W H : Nat) (x y : Nat) (w : World) (hpw : Blk w pw 3 #[.int .i64 W]) (hW : W ≤ 4000) (hH : H ≤ 4000) (hx : x < W) (hy : y < H) :
    Calls Try.prog 153 #[.int .i64 x, .int .i64 y, .pointer (some ⟨pw, 0, none⟩)] w fun e w' => e = .returned (.int .i64 ((y * W + x : Nat) : Int)) ∧ Bl w w' := by
  have kpw := hpw.all1
  have hkx : x < W := by omega
  have hky : y < H := by omega
  have hk := place_lt hkx hky
  obtain ⟨k, hkk⟩ : ∃ k, k = (y) * W + (x) := ⟨_, rfl⟩
  rw [← hkk] at hk
  obtain ⟨j, hj⟩ : ∃ j, j = y := ⟨_, rfl⟩
  rw [← hj] at hkk hky
  have hjw := Int.natCast_mul j W
  have hq : (0 : Int) ≤ (j : Int) * (W : Int) ∧ (j : Int) * (W : Int) ≤ 16000000 := by
    have h6 := Nat.mul_le_mul (show j ≤ 4000 by omega) hW
    omega
  obtain rfl : y = j := hj.symm
  have ek : (y : Int) * (W : Int) + (x : Int) = (k : Int) := by rw [hkk]; omega
  have Hk := Lib.hid hkk
  clear hkk hjw
  go_enter Try.func153, Try.ntmps153
  go_wp2_with fail
  go_ret
  exact ⟨ret_int (by rw [Hk.out]; first | done | simp), Bl.refl _⟩

set_option maxRecDepth 100000 in
set_option maxHeartbeats 400000 in
theorem turns4_any (p : Nat) (W H : Nat) (A : Option Addr) (c : Nat) (zs : List Int) (x y : Nat) (w : World) (hp : Blk w p 24 #[.int .i64 W, .int .i64 H, .slice A (W * H) c]) (hr : Reads w 1 A (W * H) (zs.map (.int .u8))) (hW : W ≤ 4000) (hH : H ≤ 4000) (hx : x < H) (hy : y < W) :
    Calls Try.prog 42 #[.int .i64 x, .int .i64 y, .pointer (some ⟨p, 0, none⟩)] w fun e w' => e = .returned (.int .u8 (vix zs W y (H - 1 - x))) ∧ Bl w w' := by
  have kp := hp.all3
  have hkx : y < W := by omega
  have hky : H - 1 - x < H := by omega
  have hk := place_lt hkx hky
  obtain ⟨ad, rfl, hc⟩ := hr.vplace hkx hky
  obtain ⟨k, hkk⟩ : ∃ k, k = (H - 1 - x) * W + (y) := ⟨_, rfl⟩
  rw [← hkk] at hk hc
  obtain ⟨j, hj⟩ : ∃ j, j = H - 1 - x := ⟨_, rfl⟩
  rw [← hj] at hkk hky
  have hjw := Int.natCast_mul j W
  have hq : (0 : Int) ≤ (j : Int) * (W : Int) ∧ (j : Int) * (W : Int) ≤ 16000000 := by
    have h6 := Nat.mul_le_mul (show j ≤ 4000 by omega) hW
    omega
  have ej : (H : Int) - 1 - (x : Int) = (j : Int) := by omega
  have ek : (j : Int) * (W : Int) + (y : Int) = (k : Int) := by rw [hkk]; omega
  have hkl : (k : Int) < (W : Int) * (H : Int) := by have := Int.natCast_mul W H; omega
  have Hk := Lib.hid hkk
  have Hj := Lib.hid hj
  clear hkk hjw hj
  go_enter Try.func42, Try.ntmps42
  go_wp2_with fail
  go_ret
  exact ⟨rfl, Bl.refl _⟩

end Go.Proofs.Ytldmofdidgibhaa
