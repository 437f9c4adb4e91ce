/- bedref2.CutOf. -/
import Derived.Test.YtkhajhcfplicpaaDoorS5
import Derived.Test.YtkhajhcfplicpaaDoorS4

namespace Go.Proofs.YtkhajhcfplicpaaDoor
open Go.RowKit

set_option maxRecDepth 100000 in
set_option maxHeartbeats 1000000 in
theorem cutOf1_any (p q W H X Y BW BH : Nat) (A : Option Addr) (ac : Nat) (bs : List Bool) (x y : Nat) (w : World) (hp : Blk w p 24 #[.int .i64 W, .int .i64 H, .slice A (W * H) ac]) (hq : Blk w q 29 #[.int .i64 X, .int .i64 Y, .int .i64 BW, .int .i64 BH])
    (hA : Reads w 1 A (W * H) (bs.map .bool)) (hW : W ≤ 4000) (hH : H ≤ 4000) (hx : x < BW) (hy : y < BH) (hX : X + BW ≤ W) (hY : Y + BH ≤ H) :
    Calls Tryd.prog 129 #[.int .i64 x, .int .i64 y, .pointer (some ⟨p, 0, none⟩), .pointer (some ⟨q, 0, none⟩)] w fun e w' => e = .returned (.bool (cutF bs W X Y x y)) ∧ Bl w w' := by
  have kp := hp.all3
  have kq := hq.all4
  have hat := at_any W H A ac bs ((X + x : Nat) : Int) ((Y + y : Nat) : Int) w hA hW hH
  rw [atI_in bs W H _ _ (by omega) (by omega)] at hat
  have e1 : ((X + x : Nat) : Int) = (X : Int) + (x : Int) := by simp
  have e2 : ((Y + y : Nat) : Int) = (Y : Int) + (y : Int) := by simp
  rw [e1, e2] at hat
  have Hat := Lib.hid hat
  clear hat hA e1 e2
  go_enter Tryd.func129, Tryd.ntmps129
  go_wp2_with fail
  refine Hat.out.mono ?_
  rintro e w1 ⟨rfl, hb1⟩
  go_wp2_with fail
  go_ret
  exact ⟨rfl, hb1⟩
set_option maxRecDepth 100000 in
set_option maxHeartbeats 1000000 in
theorem cutOf_any (W H X Y BW BH : Nat) (A : Option Addr) (ac : Nat) (bs : List Bool) (w : World) (hA : Reads w 1 A (W * H) (bs.map .bool)) (hW : W ≤ 4000) (hH : H ≤ 4000) (hX : X + BW ≤ W) (hY : Y + BH ≤ H) :
    Calls Tryd.prog 33 #[.agg #[.int .i64 W, .int .i64 H, .slice A (W * H) ac], .agg #[.int .i64 X, .int .i64 Y, .int .i64 BW, .int .i64 BH]] w fun e w' => ∃ R rc, e = .returned (.agg #[.int .i64 BW, .int .i64 BH, .slice R (BW * BH) rc]) ∧ Reads w' 1 R (BW * BH) ((grid BW BH (cutF bs W X Y)).map .bool) ∧ (∀ ad, R = some ad → w.heap.size + 3 ≤ ad.block) ∧ Bl w w' := by
  let w2 := (((w).alloc (.cells #[.int .i64 W, .int .i64 H, .slice A (W * H) ac] 24)).alloc (.cells #[.int .i64 X, .int .i64 Y, .int .i64 BW, .int .i64 BH] 29)).alloc (.cells #[.int .i64 0, .int .i64 0, .slice none 0 0] 24)
  have w2b : Bl w w2 := (((Bl.refl w).alloc _).alloc _).alloc _
  have w21 : Blk w2 (w.heap.size) 24 #[.int .i64 W, .int .i64 H, .slice A (W * H) ac] := by
    have h0 := Blk.new (w) 24 #[.int .i64 W, .int .i64 H, .slice A (W * H) ac]
    exact ((h0.alloc _).alloc _)
  have w22 : Blk w2 (w.heap.size + 1) 29 #[.int .i64 X, .int .i64 Y, .int .i64 BW, .int .i64 BH] := by
    have h0 := Blk.new ((w).alloc (.cells #[.int .i64 W, .int .i64 H, .slice A (W * H) ac] 24)) 29 #[.int .i64 X, .int .i64 Y, .int .i64 BW, .int .i64 BH]
    simp only [World.size_alloc] at h0
    exact (h0.alloc _)
  have w23 : Blk w2 (w.heap.size + 1 + 1) 24 #[.int .i64 0, .int .i64 0, .slice none 0 0] := by
    have h0 := Blk.new (((w).alloc (.cells #[.int .i64 W, .int .i64 H, .slice A (W * H) ac] 24)).alloc (.cells #[.int .i64 X, .int .i64 Y, .int .i64 BW, .int .i64 BH] 29)) 24 #[.int .i64 0, .int .i64 0, .slice none 0 0]
    simp only [World.size_alloc] at h0
    exact h0
  have hbd : BW * BH ≤ 16000000 := by have := Nat.mul_le_mul (show BW ≤ 4000 by omega) (show BH ≤ 4000 by omega); omega
  have hP : Paints Tryd.prog 129 #[.pointer (some ⟨w.heap.size, 0, none⟩), .pointer (some ⟨w.heap.size + 1, 0, none⟩)] Value.bool w2 BW BH (cutF bs W X Y) :=
    ⟨enters Tryd.func129 (by kernel_rfl) rfl, fun wy x y hb hx hy => cutOf1_any _ _ W H X Y BW BH A ac bs x y wy (w21.bl hb) (w22.bl hb) ((hA.bl w2b).bl hb) hW hH hx hy hX hY⟩
  have HP := Lib.hid hP
  clear hP hA
  have k2 := w22.all4
  go_enter Tryd.func33, Tryd.ntmps33
  go_wp2_with fail
  refine (Made_any BW BH _ _ _ _ (by omega) (by omega) (by omega) HP.out).mono ?_
  rintro e w6 ⟨r, rfl, hpg, hb6⟩
  have kr3 := (w23.bl hb6).all3
  have hsz3 := w23.lt
  have hle6 := w2b.trans hb6
  obtain ⟨R, rc, rfl, hR, hRn⟩ := hpg
  have hRn' : ∀ ad, R = some ad → w.heap.size + 3 ≤ ad.block := fun ad h => by have := hRn ad h; omega
  have HR := Lib.hid hR; have HRn := Lib.hid hRn'
  clear hR hRn hRn'
  go_wp2_with fail
  refine bodyPost_ret (v := .agg #[.int .i64 BW, .int .i64 BH, .slice R (BW * BH) rc]) (by simp [results, Tryd.results33, go_sem, kr3]) rfl ⟨R, rc, rfl, ?_, HRn.out, ?_⟩
  · exact ((HR.out.store HRn.out (by simp) _).store HRn.out (by simp) _).store HRn.out (by simp) _
  · exact (((hle6.setCell (by simp; omega) _).setCell (by simp; omega) _).setCell (by simp; omega) _)

end Go.Proofs.YtkhajhcfplicpaaDoor
