/- page.Halve. -/
import Derived.Test.YtldmofdidgibhaaHalve
namespace Go.Proofs.Ytldmofdidgibhaa
open Go.RowKit

set_option maxRecDepth 100000 in
set_option maxHeartbeats 1000000 in
theorem halve_bad (W H : Int) (A : Option Addr) (n c : Nat) (w : World) (h : pageErr W H n ≠ 0) :
    Calls Try.prog 19 #[.agg #[.int .i64 W, .int .i64 H, .slice A n c]] w fun e w' => e = .returned (.tuple #[.agg #[.int .i64 0, .int .i64 0, .slice none 0 0], .int .i64 (pageErr W H n)]) ∧ Bl w w' := by
  have hq : (pageErr W H n != 0) = true := by simp [h]
  clear h
  let w2 := ((w).alloc (.cells #[.int .i64 W, .int .i64 H, .slice A n c] 24)).alloc (.cells #[.int .i64 0, .int .i64 0, .slice none 0 0] 24)
  have w2b : Bl w w2 := ((Bl.refl w).alloc _).alloc _
  have w21 : Blk w2 (w.heap.size) 24 #[.int .i64 W, .int .i64 H, .slice A n c] := by
    have h0 := Blk.new (w) 24 #[.int .i64 W, .int .i64 H, .slice A n c]
    exact (h0.alloc _)
  have w22 : Blk w2 (w.heap.size + 1) 24 #[.int .i64 0, .int .i64 0, .slice none 0 0] := by
    have h0 := Blk.new ((w).alloc (.cells #[.int .i64 W, .int .i64 H, .slice A n c] 24)) 24 #[.int .i64 0, .int .i64 0, .slice none 0 0]
    simp only [World.size_alloc] at h0
    exact h0
  go_enter Try.func19, Try.ntmps19
  go_wp2_with fail
  refine (checkGray_any _ _ _ _ _ _).mono ?_
  rintro e w3 ⟨rfl, hb3⟩
  have k2 := (w22.bl hb3).all3
  have hle := w2b.trans hb3
  go_wp2_with fail
  refine bodyPost_ret (v := .tuple #[.agg #[.int .i64 0, .int .i64 0, .slice none 0 0], .int .i64 (pageErr W H n)]) (by simp [results, Try.results19, go_sem, k2]) rfl ⟨rfl, ?_⟩
  exact ((hle.setCell (by simp) _).setCell (by simp) _).setCell (by simp) _

set_option maxRecDepth 100000 in
set_option maxHeartbeats 1000000 in
theorem halve_ok (W H : Nat) (v : Value) (zs : List Int) (w : World) (hv : IsPage w v W H (zs.map (.int .u8))) (hz : Bytes zs) (hs : sizeErr W H = 0) :
    Calls Try.prog 19 #[v] w fun e w' => ∃ u, e = .returned (.tuple #[u, .int .i64 0]) ∧ NPage w.heap.size w' u ((W + 1) / 2) ((H + 1) / 2) ((grid ((W + 1) / 2) ((H + 1) / 2) (halfAt zs W H)).map (.int .u8)) ∧ Bl w w' := by
  obtain ⟨A, c, rfl, hr⟩ := hv
  have hp : pageErr W H (W * H) = 0 := by unfold pageErr; rw [if_pos hs, if_pos (by simp)]
  have hz' := sizeErr_zero hs
  have hW4 : W ≤ 4000 ∧ 1 ≤ W := by omega
  have hH4 : H ≤ 4000 ∧ 1 ≤ H := by omega
  have hbd : W * H ≤ 1048576 := by have := Int.natCast_mul W H; omega
  have Hs := Lib.hid hs
  clear hs hz'
  obtain ⟨hw, ehw⟩ : ∃ h, h = (W + 1) / 2 := ⟨_, rfl⟩
  obtain ⟨hh, ehh⟩ : ∃ h, h = (H + 1) / 2 := ⟨_, rfl⟩
  have e1 : ((W : Int) + 1) / 2 = (hw : Int) := by omega
  have e2 : ((H : Int) + 1) / 2 = (hh : Int) := by omega
  rw [← ehw, ← ehh]
  have hle1 : hw ≤ W := by omega
  have hle2 : hh ≤ H := by omega
  have hbd2 : hw * hh ≤ 1048576 := Nat.le_trans (Nat.mul_le_mul hle1 hle2) hbd
  have Ew := Lib.hid ehw; have Eh := Lib.hid ehh
  clear ehw ehh
  let w2 := ((w).alloc (.cells #[.int .i64 W, .int .i64 H, .slice A (W * H) c] 24)).alloc (.cells #[.int .i64 0, .int .i64 0, .slice none 0 0] 24)
  have w2b : Bl w w2 := ((Bl.refl w).alloc _).alloc _
  have w21 : Blk w2 (w.heap.size) 24 #[.int .i64 W, .int .i64 H, .slice A (W * H) c] := by
    have h0 := Blk.new (w) 24 #[.int .i64 W, .int .i64 H, .slice A (W * H) c]
    exact (h0.alloc _)
  have w22 : Blk w2 (w.heap.size + 1) 24 #[.int .i64 0, .int .i64 0, .slice none 0 0] := by
    have h0 := Blk.new ((w).alloc (.cells #[.int .i64 W, .int .i64 H, .slice A (W * H) c] 24)) 24 #[.int .i64 0, .int .i64 0, .slice none 0 0]
    simp only [World.size_alloc] at h0
    exact h0
  go_enter Try.func19, Try.ntmps19
  go_wp2_with fail
  refine (checkGray_any _ _ _ _ _ _).mono ?_
  rintro e w3 ⟨rfl, hb3⟩
  have k1 := (w21.bl hb3).all3
  have hle := w2b.trans hb3
  have hP : Paints Try.prog 101 #[.pointer (some ⟨w.heap.size, 0, none⟩)] (Value.int .u8) w3 hw hh (halfAt zs W H) :=
    ⟨enters Try.func101 (by kernel_rfl) rfl, fun wx x y hb hx hy => halve1_any _ W H A c zs x y wx ((w21.bl hb3).bl hb) ((hr.bl hle).bl hb) hz hW4.1 hH4.1 (by rw [← Ew.out]; exact hx) (by rw [← Eh.out]; exact hy)⟩
  have HP := Lib.hid hP
  clear hP
  go_wp2_with fail
  refine (madeGray_any hw hh _ _ _ _ (by omega) (by omega) hbd2 HP.out).mono ?_
  rintro e w4 ⟨r, rfl, hpg, hb4⟩
  have k2 := ((w22.bl hb3).bl hb4).all3
  have hle4 := hle.trans hb4
  have hsz3 := (w22.bl hb3).lt
  obtain ⟨R, rc, rfl, hR, hRn⟩ := hpg
  have hRn' : ∀ ad, R = some ad → w.heap.size + 2 ≤ ad.block := fun ad h => by have := hRn ad h; omega
  have HR := Lib.hid hR; have HRn := Lib.hid hRn'
  clear hR hRn hRn' hr
  go_wp2_with fail
  refine bodyPost_ret (v := .tuple #[.agg #[.int .i64 hw, .int .i64 hh, .slice R (hw * hh) rc], .int .i64 0]) (by simp [results, Try.results19, go_sem, k2]) rfl ⟨_, rfl, ⟨R, rc, rfl, ?_, fun ad h => by have := HRn.out ad h; omega⟩, ?_⟩
  · exact ((HR.out.store HRn.out (by simp) _).store HRn.out (by simp) _).store HRn.out (by simp) _
  · exact ((hle4.setCell (by simp) _).setCell (by simp) _).setCell (by simp) _

end Go.Proofs.Ytldmofdidgibhaa
