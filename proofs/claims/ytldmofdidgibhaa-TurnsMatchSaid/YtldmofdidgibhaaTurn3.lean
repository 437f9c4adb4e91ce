/- Grow; TurnOf; the closures of the law on turning. -/
import Derived.Test.YtldmofdidgibhaaTurn2
namespace Go.Proofs.Ytldmofdidgibhaa
open Go.RowKit

def growErr (W H : Int) (n : Nat) (t : Int) : Int := if pageErr W H n = 0 then (if inB t 1 16 then sizeErr (W * t) (H * t) else 3) else pageErr W H n
def growF (bs : List Bool) (W t x y : Nat) : Bool := pix bs W (x / t) (y / t)


set_option maxRecDepth 100000 in
set_option maxHeartbeats 400000 in
theorem turnOf1_any (p W H : Nat) (A : Option Addr) (c : Nat) (bs : List Bool) (x y : Nat) (w : World) (hp : Blk w p 39 #[.int .i64 W, .int .i64 H, .slice A (W * H) c]) (hr : Reads w 1 A (W * H) (bs.map .bool)) (hW : W ≤ 4000) (hH : H ≤ 4000) (hx : x < H) (hy : y < W) :
    Calls Try.prog 107 #[.int .i64 x, .int .i64 y, .pointer (some ⟨p, 0, none⟩)] w fun e w' => e = .returned (.bool (pix bs W (y) (H - 1 - x))) ∧ Bl w w' := by
  have kp := hp.all3
  obtain ⟨i, hi⟩ : ∃ i, i = y := ⟨_, rfl⟩
  obtain ⟨j, hj⟩ : ∃ j, j = H - 1 - x := ⟨_, rfl⟩
  have ei : (y : Int) = (i : Int) := by omega
  have ej : (H : Int) - 1 - (x : Int) = (j : Int) := by omega
  have hat := at_any W H A c bs (i : Int) (j : Int) w hr hW hH
  rw [atI_in bs W H i j (by omega) (by omega)] at hat
  rw [← hi, ← hj]
  have Hat := Lib.hid hat
  clear hat hi hj hr
  go_enter Try.func107, Try.ntmps107
  go_wp2_with fail
  refine Hat.out.mono ?_
  rintro e w1 ⟨rfl, hb1⟩
  go_wp2_with fail
  go_ret
  exact ⟨rfl, hb1⟩


def turnF (bs : List Bool) (W H x y : Nat) : Bool := pix bs W y (H - 1 - x)
set_option maxRecDepth 100000 in
set_option maxHeartbeats 1000000 in
theorem turnOf_any (W H : Nat) (A : Option Addr) (c : Nat) (bs : List Bool) (w : World) (hr : Reads w 1 A (W * H) (bs.map .bool)) (hW : W ≤ 4000) (hH : H ≤ 4000) :
    Calls Try.prog 30 #[.agg #[.int .i64 W, .int .i64 H, .slice A (W * H) c]] w fun e w' => ∃ R rc, e = .returned (.agg #[.int .i64 H, .int .i64 W, .slice R (H * W) rc]) ∧ Reads w' 1 R (H * W) ((grid H W (turnF bs W H)).map .bool) ∧ (∀ ad, R = some ad → w.heap.size + 2 ≤ ad.block) ∧ Bl w w' := by
  let w2 := ((w).alloc (.cells #[.int .i64 W, .int .i64 H, .slice A (W * H) c] 39)).alloc (.cells #[.int .i64 0, .int .i64 0, .slice none 0 0] 39)
  have w2b : Bl w w2 := ((Bl.refl w).alloc _).alloc _
  have w21 : Blk w2 (w.heap.size) 39 #[.int .i64 W, .int .i64 H, .slice A (W * H) c] := by
    have h0 := Blk.new (w) 39 #[.int .i64 W, .int .i64 H, .slice A (W * H) c]
    exact (h0.alloc _)
  have w22 : Blk w2 (w.heap.size + 1) 39 #[.int .i64 0, .int .i64 0, .slice none 0 0] := by
    have h0 := Blk.new ((w).alloc (.cells #[.int .i64 W, .int .i64 H, .slice A (W * H) c] 39)) 39 #[.int .i64 0, .int .i64 0, .slice none 0 0]
    simp only [World.size_alloc] at h0
    exact h0
  have hbd : H * W ≤ 16000000 := by have := Nat.mul_le_mul hH hW; omega
  have hP : Paints Try.prog 107 #[.pointer (some ⟨w.heap.size, 0, none⟩)] Value.bool w2 H W (turnF bs W H) :=
    ⟨enters Try.func107 (by kernel_rfl) rfl, fun wy x y hb hx hy => turnOf1_any _ W H A c bs x y wy (w21.bl hb) ((hr.bl w2b).bl hb) hW hH hx hy⟩
  have HP := Lib.hid hP
  clear hP hr
  have k1 := w21.all3
  go_enter Try.func30, Try.ntmps30
  go_wp2_with fail
  refine (Made_any H W _ _ _ _ (by omega) (by omega) (by omega) HP.out).mono ?_
  rintro e w6 ⟨r, rfl, hpg, hb6⟩
  have kr3 := (w22.bl hb6).all3
  have hsz3 := w22.lt
  have hle6 := w2b.trans hb6
  obtain ⟨R, rc, rfl, hR, hRn⟩ := hpg
  have hRn' : ∀ ad, R = some ad → w.heap.size + 2 ≤ ad.block := fun ad h => by have := hRn ad h; omega
  have HR := Lib.hid hR; have HRn := Lib.hid hRn'
  clear hR hRn hRn'
  go_wp2_with fail
  refine bodyPost_ret (v := .agg #[.int .i64 H, .int .i64 W, .slice R (H * W) rc]) (by simp [results, Try.results30, go_sem, kr3]) rfl ⟨R, rc, rfl, ?_, HRn.out, ?_⟩
  · exact ((HR.out.store HRn.out (by simp) _).store HRn.out (by simp) _).store HRn.out (by simp) _
  · exact (((hle6.setCell (by simp) _).setCell (by simp) _).setCell (by simp) _)


set_option maxRecDepth 100000 in
set_option maxHeartbeats 400000 in
theorem turns21_any (p W H : Nat) (A : Option Addr) (c : Nat) (bs : List Bool) (x y : Nat) (w : World) (hp : Blk w p 39 #[.int .i64 W, .int .i64 H, .slice A (W * H) c]) (hr : Reads w 1 A (W * H) (bs.map .bool)) (hW : W ≤ 4000) (hH : H ≤ 4000) (hx : x < W) (hy : y < H) :
    Calls Try.prog 37 #[.int .i64 x, .int .i64 y, .pointer (some ⟨p, 0, none⟩)] w fun e w' => e = .returned (.bool (pix bs W (W - 1 - x) (y))) ∧ Bl w w' := by
  have kp := hp.all3
  obtain ⟨i, hi⟩ : ∃ i, i = W - 1 - x := ⟨_, rfl⟩
  obtain ⟨j, hj⟩ : ∃ j, j = y := ⟨_, rfl⟩
  have ei : (W : Int) - 1 - (x : Int) = (i : Int) := by omega
  have ej : (y : Int) = (j : Int) := by omega
  have hat := at_any W H A c bs (i : Int) (j : Int) w hr hW hH
  rw [atI_in bs W H i j (by omega) (by omega)] at hat
  rw [← hi, ← hj]
  have Hat := Lib.hid hat
  clear hat hi hj hr
  go_enter Try.func37, Try.ntmps37
  go_wp2_with fail
  refine Hat.out.mono ?_
  rintro e w1 ⟨rfl, hb1⟩
  go_wp2_with fail
  go_ret
  exact ⟨rfl, hb1⟩


set_option maxRecDepth 100000 in
set_option maxHeartbeats 400000 in
theorem turns31_any (p W H : Nat) (A : Option Addr) (c : Nat) (bs : List Bool) (x y : Nat) (w : World) (hp : Blk w p 39 #[.int .i64 W, .int .i64 H, .slice A (W * H) c]) (hr : Reads w 1 A (W * H) (bs.map .bool)) (hW : W ≤ 4000) (hH : H ≤ 4000) (hx : x < W) (hy : y < H) :
    Calls Try.prog 40 #[.int .i64 x, .int .i64 y, .pointer (some ⟨p, 0, none⟩)] w fun e w' => e = .returned (.bool (!pix bs W (x) (y))) ∧ Bl w w' := by
  have kp := hp.all3
  obtain ⟨i, hi⟩ : ∃ i, i = x := ⟨_, rfl⟩
  obtain ⟨j, hj⟩ : ∃ j, j = y := ⟨_, rfl⟩
  have ei : (x : Int) = (i : Int) := by omega
  have ej : (y : Int) = (j : Int) := by omega
  have hat := at_any W H A c bs (i : Int) (j : Int) w hr hW hH
  rw [atI_in bs W H i j (by omega) (by omega)] at hat
  rw [← hi, ← hj]
  have Hat := Lib.hid hat
  clear hat hi hj hr
  go_enter Try.func40, Try.ntmps40
  go_wp2_with fail
  refine Hat.out.mono ?_
  rintro e w1 ⟨rfl, hb1⟩
  go_wp2_with fail
  go_ret
  exact ⟨rfl, hb1⟩


set_option maxRecDepth 100000 in
set_option maxHeartbeats 1000000 in
theorem turns2_makes (p W H : Nat) (A : Option Addr) (c : Nat) (bs : List Bool) (w : World) (hp : Blk w p 39 #[.int .i64 W, .int .i64 H, .slice A (W * H) c]) (hr : Reads w 1 A (W * H) (bs.map .bool)) (hW : W ≤ 4000) (hH : H ≤ 4000) :
    MakesPage Try.prog 35 #[.pointer (some ⟨p, 0, none⟩)] w W H ((grid W H (mirF bs W)).map .bool) := by
  refine ⟨enters Try.func35 (by kernel_rfl) rfl, fun wx hx => ?_⟩
  have hb5 : Bl wx (wx.alloc (.cells #[.int .i64 0, .int .i64 0, .slice none 0 0] 39)) := (Bl.refl wx).alloc _
  have hxx := hx.trans hb5
  have k1 := (hp.bl hxx).all3
  have l1 := (hp.bl hx).lt
  have kr := Blk.new wx 39 #[.int .i64 0, .int .i64 0, .slice none 0 0]
  have hbd : W * H ≤ 16000000 := by have := Nat.mul_le_mul hW hH; omega
  have hP : Paints Try.prog 37 #[.pointer (some ⟨p, 0, none⟩)] Value.bool (wx.alloc (.cells #[.int .i64 0, .int .i64 0, .slice none 0 0] 39)) W H (mirF bs W) :=
    ⟨enters Try.func37 (by kernel_rfl) rfl, fun wy x y hb hx hy => turns21_any _ W H A c bs x y wy ((hp.bl hxx).bl hb) ((hr.bl hxx).bl hb) hW hH hx hy⟩
  have HP := Lib.hid hP
  clear hP hr hp
  go_enter Try.func35, Try.ntmps35
  go_wp2_with fail
  refine (Made_any W H _ _ _ _ (by omega) (by omega) (by omega) HP.out).mono ?_
  rintro e w6 ⟨r, rfl, hpg, hb6⟩
  have kr3 := (kr.bl hb6).all3
  obtain ⟨R, rc, rfl, hR, hRn⟩ := hpg
  have hRn' : ∀ ad, R = some ad → wx.heap.size + 1 ≤ ad.block := by simpa using hRn
  go_wp2_with fail
  refine bodyPost_ret (v := .agg #[.int .i64 W, .int .i64 H, .slice R (W * H) rc]) (by simp [results, Try.results35, go_sem, kr3]) rfl ⟨_, rfl, ⟨R, rc, rfl, ?_⟩, ?_⟩
  · exact ((hR.store hRn' (by simp) _).store hRn' (by simp) _).store hRn' (by simp) _
  · exact ((((hb5.trans hb6).setCell (by simp) _).setCell (by simp) _).setCell (by simp) _)


set_option maxRecDepth 100000 in
set_option maxHeartbeats 1000000 in
theorem turns3_makes (p W H : Nat) (A : Option Addr) (c : Nat) (bs : List Bool) (w : World) (hp : Blk w p 39 #[.int .i64 W, .int .i64 H, .slice A (W * H) c]) (hr : Reads w 1 A (W * H) (bs.map .bool)) (hW : W ≤ 4000) (hH : H ≤ 4000) :
    MakesPage Try.prog 39 #[.pointer (some ⟨p, 0, none⟩)] w W H ((grid W H (invF bs W)).map .bool) := by
  refine ⟨enters Try.func39 (by kernel_rfl) rfl, fun wx hx => ?_⟩
  have hb5 : Bl wx (wx.alloc (.cells #[.int .i64 0, .int .i64 0, .slice none 0 0] 39)) := (Bl.refl wx).alloc _
  have hxx := hx.trans hb5
  have k1 := (hp.bl hxx).all3
  have l1 := (hp.bl hx).lt
  have kr := Blk.new wx 39 #[.int .i64 0, .int .i64 0, .slice none 0 0]
  have hbd : W * H ≤ 16000000 := by have := Nat.mul_le_mul hW hH; omega
  have hP : Paints Try.prog 40 #[.pointer (some ⟨p, 0, none⟩)] Value.bool (wx.alloc (.cells #[.int .i64 0, .int .i64 0, .slice none 0 0] 39)) W H (invF bs W) :=
    ⟨enters Try.func40 (by kernel_rfl) rfl, fun wy x y hb hx hy => turns31_any _ W H A c bs x y wy ((hp.bl hxx).bl hb) ((hr.bl hxx).bl hb) hW hH hx hy⟩
  have HP := Lib.hid hP
  clear hP hr hp
  go_enter Try.func39, Try.ntmps39
  go_wp2_with fail
  refine (Made_any W H _ _ _ _ (by omega) (by omega) (by omega) HP.out).mono ?_
  rintro e w6 ⟨r, rfl, hpg, hb6⟩
  have kr3 := (kr.bl hb6).all3
  obtain ⟨R, rc, rfl, hR, hRn⟩ := hpg
  have hRn' : ∀ ad, R = some ad → wx.heap.size + 1 ≤ ad.block := by simpa using hRn
  go_wp2_with fail
  refine bodyPost_ret (v := .agg #[.int .i64 W, .int .i64 H, .slice R (W * H) rc]) (by simp [results, Try.results39, go_sem, kr3]) rfl ⟨_, rfl, ⟨R, rc, rfl, ?_⟩, ?_⟩
  · exact ((hR.store hRn' (by simp) _).store hRn' (by simp) _).store hRn' (by simp) _
  · exact ((((hb5.trans hb6).setCell (by simp) _).setCell (by simp) _).setCell (by simp) _)


set_option maxRecDepth 100000 in
set_option maxHeartbeats 1000000 in
theorem turns1_makes (p W H : Nat) (A : Option Addr) (c : Nat) (xs : List Bool) (w : World) (hp : Blk w p 39 #[.int .i64 W, .int .i64 H, .slice A (W * H) c]) (hr : Reads w 1 A (W * H) (xs.map .bool)) :
    MakesPage Try.prog 34 #[.pointer (some ⟨p, 0, none⟩)] w W H (xs.map .bool) := by
  refine ⟨enters Try.func34 (by kernel_rfl) rfl, fun wx hx => ?_⟩
  have k1 := (hp.bl hx).all3
  have l1 := (hp.bl hx).lt
  have hr' := hr.bl hx
  have Hr := Lib.hid hr'
  clear hr hr' hp
  go_enter Try.func34, Try.ntmps34
  go_wp2_with fail
  have hb : Bl wx (wx.alloc (.cells #[.int .i64 W, .int .i64 H, .slice A (W * H) c] 39)) := (Bl.refl wx).alloc _
  refine bodyPost_ret (v := .agg #[.int .i64 W, .int .i64 H, .slice A (W * H) c]) (by simp [results, Try.results34, go_sem]) rfl ⟨_, rfl, ⟨A, c, rfl, ?_⟩, ?_⟩
  · exact Hr.out.bl hb
  · exact hb


end Go.Proofs.Ytldmofdidgibhaa
