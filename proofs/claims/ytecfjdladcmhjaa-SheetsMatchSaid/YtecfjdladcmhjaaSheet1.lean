/- Margins; bedref2.Moved and CutOf. -/
import Derived.Test.YtecfjdladcmhjaaCount3
import Derived.Test.YtecfjdladcmhjaaCut
import Derived.Test.YtecfjdladcmhjaaInkOf
namespace Go.Proofs.Ytecfjdladcmhjaa
open Go.RowKit

/-! ### Margins -/
def boundErr (W H : Int) (k : Nat) (is : Bool) : Int := firstNZ [pageErr W H k, whenI (!is) 10]
set_option maxRecDepth 100000 in
set_option maxHeartbeats 2000000 in
theorem margins_any (W H : Int) (A : Option Addr) (an ac : Nat) (bs : List Bool) (w : World) (hA : Reads w 1 A an (bs.map .bool)) :
    Calls Try.prog 11 #[.agg #[.int .i64 W, .int .i64 H, .slice A an ac]] w fun e w' =>
      ∃ X Y BW BH err m1 m2 m3 m4, e = .returned (.tuple #[.agg #[.int .i64 m1, .int .i64 m2, .int .i64 m3, .int .i64 m4], .int .i64 err]) ∧ (pageErr W H an ≠ 0 → err = pageErr W H an) ∧
        (pageErr W H an = 0 → ∃ is, BoundsIs bs W.toNat H.toNat is X Y BW BH ∧ err = whenI (!is) 10) ∧ (err ≠ 0 → m1 = 0 ∧ m2 = 0 ∧ m3 = 0 ∧ m4 = 0) ∧ (err = 0 → m1 = X ∧ m2 = Y ∧ m3 = W - X - BW ∧ m4 = H - Y - BH) ∧ Bl w w' := by
  let w2 := ((w).alloc (.cells #[.int .i64 W, .int .i64 H, .slice A an ac] 27)).alloc (.cells #[.int .i64 0, .int .i64 0, .int .i64 0, .int .i64 0] 41)
  have w2b : Bl w w2 := ((Bl.refl w).alloc _).alloc _
  have w21 : Blk w2 (w.heap.size) 27 #[.int .i64 W, .int .i64 H, .slice A an ac] := by
    have h0 := Blk.new (w) 27 #[.int .i64 W, .int .i64 H, .slice A an ac]
    exact (h0.alloc _)
  have w22 : Blk w2 (w.heap.size + 1) 41 #[.int .i64 0, .int .i64 0, .int .i64 0, .int .i64 0] := by
    have h0 := Blk.new ((w).alloc (.cells #[.int .i64 W, .int .i64 H, .slice A an ac] 27)) 41 #[.int .i64 0, .int .i64 0, .int .i64 0, .int .i64 0]
    simp only [World.size_alloc] at h0
    exact h0
  have k1 := w21.all3
  have HA := Lib.hid (hA.bl w2b)
  clear hA
  go_enter Try.func11, Try.ntmps11
  go_wp2_with fail
  refine (bounds_any W H A an ac bs _ HA.out).mono ?_
  rintro e w3 ⟨X, Y, BW, BH, err, rfl, h1, h2, hb3⟩
  have hb4 : Bl w2 (w3.alloc (.cells #[.int .i64 X, .int .i64 Y, .int .i64 BW, .int .i64 BH] 29)) := hb3.alloc _
  have b4 := Blk.new w3 29 #[.int .i64 X, .int .i64 Y, .int .i64 BW, .int .i64 BH]
  have H1 := Lib.hid h1; have H2 := Lib.hid h2
  go_upto_region 2 with fail
  generalize hw4 : w3.alloc (.cells #[.int .i64 X, .int .i64 Y, .int .i64 BW, .int .i64 BH] 29) = w4 at hb4 b4 ⊢
  have k4 := b4.all4
  have k5 := (w21.bl hb4).all3
  have k6 := (w22.bl hb4).all4
  have hle := w2b.trans hb4
  clear hw4 hb3
  clear k1 h1 h2
  by_cases he : err = 0
  · have hq : (err != 0) = false := by simp [he]
    have hp : pageErr W H an = 0 := by
      by_cases hp : pageErr W H an = 0
      · exact hp
      · exact absurd ((H1.out hp).1.symm.trans he) hp
    obtain ⟨is, hbi, hie⟩ := H2.out hp
    have hbd := hbi.bd
    obtain ⟨W, H, rfl, rfl, rfl, u1, u2, u3⟩ := page_nat hp
    simp only [Int.toNat_natCast] at hbd
    have bX : (0 ≤ X ∧ X ≤ 4000) ∧ (0 ≤ Y ∧ Y ≤ 4000) ∧ (0 ≤ BW ∧ BW ≤ 4000) ∧ (0 ≤ BH ∧ BH ≤ 4000) := by omega
    have He := Lib.hid he; have Hp := Lib.hid hp
    clear he hp hbi hbd hie
    go_wp2_with fail
    have he := He.out
    refine bodyPost_ret (v := .tuple #[.agg #[.int .i64 X, .int .i64 Y, .int .i64 ((W : Int) - X - BW), .int .i64 ((H : Int) - Y - BH)], .int .i64 0]) (by simp [results, Try.results11, go_sem, k6]) rfl ⟨X, Y, BW, BH, err, _, _, _, _, by rw [he], fun h => (H1.out h).1, H2.out, fun h => absurd he h, fun _ => ⟨rfl, rfl, rfl, rfl⟩, ?_⟩
    exact ((((hle.setCell (by simp) _).setCell (by simp) _).setCell (by simp) _).setCell (by simp) _)
  · have hq : (err != 0) = true := by simp [he]
    have He := Lib.hid he
    clear he
    go_wp2_with fail
    refine bodyPost_ret (v := .tuple #[.agg #[.int .i64 0, .int .i64 0, .int .i64 0, .int .i64 0], .int .i64 err]) (by simp [results, Try.results11, go_sem, k6]) rfl ⟨X, Y, BW, BH, err, 0, 0, 0, 0, rfl, fun h => (H1.out h).1, H2.out, fun _ => ⟨rfl, rfl, rfl, rfl⟩, fun h => absurd h He.out, ?_⟩
    exact ((((hle.setCell (by simp) _).setCell (by simp) _).setCell (by simp) _).setCell (by simp) _)

/-! ### bedref2.Moved and CutOf -/
def movedF (bs : List Bool) (W H : Nat) (dx dy : Int) (x y : Nat) : Bool := atI bs W H ((x : Int) - dx) ((y : Int) - dy)
set_option maxRecDepth 100000 in
set_option maxHeartbeats 1000000 in
theorem moved1_any (p q r W H : Nat) (A : Option Addr) (ac : Nat) (bs : List Bool) (dx dy : Int) (x y : Nat) (w : World) (hp : Blk w p 27 #[.int .i64 W, .int .i64 H, .slice A (W * H) ac]) (hq : Blk w q 3 #[.int .i64 dx]) (hr : Blk w r 3 #[.int .i64 dy])
    (hA : Reads w 1 A (W * H) (bs.map .bool)) (hW : W ≤ 4000) (hH : H ≤ 4000) (hdx : -8000 ≤ dx ∧ dx ≤ 8000) (hdy : -8000 ≤ dy ∧ dy ≤ 8000) (hx : x ≤ 4000) (hy : y ≤ 4000) :
    Calls Try.prog 58 #[.int .i64 x, .int .i64 y, .pointer (some ⟨p, 0, none⟩), .pointer (some ⟨q, 0, none⟩), .pointer (some ⟨r, 0, none⟩)] w fun e w' => e = .returned (.bool (movedF bs W H dx dy x y)) ∧ Bl w w' := by
  have kp := hp.all3
  have kq := hq.all1
  have kr := hr.all1
  have hat := at_any W H A ac bs ((x : Int) - dx) ((y : Int) - dy) w hA hW hH
  have Hat := Lib.hid hat
  clear hat hA
  go_enter Try.func58, Try.ntmps58
  go_wp2_with fail
  refine Hat.out.mono ?_
  rintro e w1 ⟨rfl, hb1⟩
  go_wp2_with fail
  go_ret
  exact ⟨rfl, hb1⟩
set_option maxRecDepth 100000 in
set_option maxHeartbeats 1000000 in
theorem movedOf_any (W H NW NH : Nat) (A : Option Addr) (ac : Nat) (bs : List Bool) (dx dy : Int) (w : World) (hA : Reads w 1 A (W * H) (bs.map .bool)) (hW : W ≤ 4000) (hH : H ≤ 4000) (hNW : NW ≤ 4000) (hNH : NH ≤ 4000) (hdx : -8000 ≤ dx ∧ dx ≤ 8000) (hdy : -8000 ≤ dy ∧ dy ≤ 8000) :
    Calls Try.prog 38 #[.agg #[.int .i64 W, .int .i64 H, .slice A (W * H) ac], .int .i64 NW, .int .i64 NH, .int .i64 dx, .int .i64 dy] w fun e w' => ∃ R rc, e = .returned (.agg #[.int .i64 NW, .int .i64 NH, .slice R (NW * NH) rc]) ∧ Reads w' 1 R (NW * NH) ((grid NW NH (movedF bs W H dx dy)).map .bool) ∧ (∀ ad, R = some ad → w.heap.size + 4 ≤ ad.block) ∧ Bl w w' := by
  let w2 := ((((w).alloc (.cells #[.int .i64 W, .int .i64 H, .slice A (W * H) ac] 27)).alloc (.cells #[.int .i64 dx] 3)).alloc (.cells #[.int .i64 dy] 3)).alloc (.cells #[.int .i64 0, .int .i64 0, .slice none 0 0] 27)
  have w2b : Bl w w2 := ((((Bl.refl w).alloc _).alloc _).alloc _).alloc _
  have w21 : Blk w2 (w.heap.size) 27 #[.int .i64 W, .int .i64 H, .slice A (W * H) ac] := by
    have h0 := Blk.new (w) 27 #[.int .i64 W, .int .i64 H, .slice A (W * H) ac]
    exact (((h0.alloc _).alloc _).alloc _)
  have w22 : Blk w2 (w.heap.size + 1) 3 #[.int .i64 dx] := by
    have h0 := Blk.new ((w).alloc (.cells #[.int .i64 W, .int .i64 H, .slice A (W * H) ac] 27)) 3 #[.int .i64 dx]
    simp only [World.size_alloc] at h0
    exact ((h0.alloc _).alloc _)
  have w23 : Blk w2 (w.heap.size + 1 + 1) 3 #[.int .i64 dy] := by
    have h0 := Blk.new (((w).alloc (.cells #[.int .i64 W, .int .i64 H, .slice A (W * H) ac] 27)).alloc (.cells #[.int .i64 dx] 3)) 3 #[.int .i64 dy]
    simp only [World.size_alloc] at h0
    exact (h0.alloc _)
  have w24 : Blk w2 (w.heap.size + 1 + 1 + 1) 27 #[.int .i64 0, .int .i64 0, .slice none 0 0] := by
    have h0 := Blk.new ((((w).alloc (.cells #[.int .i64 W, .int .i64 H, .slice A (W * H) ac] 27)).alloc (.cells #[.int .i64 dx] 3)).alloc (.cells #[.int .i64 dy] 3)) 27 #[.int .i64 0, .int .i64 0, .slice none 0 0]
    simp only [World.size_alloc] at h0
    exact h0
  have hbd : NW * NH ≤ 16000000 := by have := Nat.mul_le_mul hNW hNH; omega
  have hP : Paints Try.prog 58 #[.pointer (some ⟨w.heap.size, 0, none⟩), .pointer (some ⟨w.heap.size + 1, 0, none⟩), .pointer (some ⟨w.heap.size + 1 + 1, 0, none⟩)] Value.bool w2 NW NH (movedF bs W H dx dy) :=
    ⟨enters Try.func58 (by kernel_rfl) rfl, fun wy x y hb hx hy => moved1_any _ _ _ W H A ac bs dx dy x y wy (w21.bl hb) (w22.bl hb) (w23.bl hb) ((hA.bl w2b).bl hb) hW hH hdx hdy (by omega) (by omega)⟩
  have HP := Lib.hid hP
  clear hP hA
  have k1 := w21.all3
  go_enter Try.func38, Try.ntmps38
  go_wp2_with fail
  refine (Made_any NW NH _ _ _ _ (by omega) (by omega) (by omega) HP.out).mono ?_
  rintro e w6 ⟨r, rfl, hpg, hb6⟩
  have kr3 := (w24.bl hb6).all3
  have hsz3 := w24.lt
  have hle6 := w2b.trans hb6
  obtain ⟨R, rc, rfl, hR, hRn⟩ := hpg
  have hRn' : ∀ ad, R = some ad → w.heap.size + 4 ≤ ad.block := fun ad h => by have := hRn ad h; omega
  have HR := Lib.hid hR; have HRn := Lib.hid hRn'
  clear hR hRn hRn'
  go_wp2_with fail
  refine bodyPost_ret (v := .agg #[.int .i64 NW, .int .i64 NH, .slice R (NW * NH) rc]) (by simp [results, Try.results38, go_sem, kr3]) rfl ⟨R, rc, rfl, ?_, HRn.out, ?_⟩
  · exact ((HR.out.store HRn.out (by simp) _).store HRn.out (by simp) _).store HRn.out (by simp) _
  · exact (((hle6.setCell (by simp; omega) _).setCell (by simp; omega) _).setCell (by simp; omega) _)

set_option maxRecDepth 100000 in
set_option maxHeartbeats 1000000 in
theorem cutOf1_any (p q W H X Y BW BH : Nat) (A : Option Addr) (ac : Nat) (bs : List Bool) (x y : Nat) (w : World) (hp : Blk w p 27 #[.int .i64 W, .int .i64 H, .slice A (W * H) ac]) (hq : Blk w q 29 #[.int .i64 X, .int .i64 Y, .int .i64 BW, .int .i64 BH])
    (hA : Reads w 1 A (W * H) (bs.map .bool)) (hW : W ≤ 4000) (hH : H ≤ 4000) (hx : x < BW) (hy : y < BH) (hX : X + BW ≤ W) (hY : Y + BH ≤ H) :
    Calls Try.prog 60 #[.int .i64 x, .int .i64 y, .pointer (some ⟨p, 0, none⟩), .pointer (some ⟨q, 0, none⟩)] w fun e w' => e = .returned (.bool (cutF bs W X Y x y)) ∧ Bl w w' := by
  have kp := hp.all3
  have kq := hq.all4
  have hat := at_any W H A ac bs ((X + x : Nat) : Int) ((Y + y : Nat) : Int) w hA hW hH
  rw [atI_in bs W H _ _ (by omega) (by omega)] at hat
  have e1 : ((X + x : Nat) : Int) = (X : Int) + (x : Int) := by simp
  have e2 : ((Y + y : Nat) : Int) = (Y : Int) + (y : Int) := by simp
  rw [e1, e2] at hat
  have Hat := Lib.hid hat
  clear hat hA e1 e2
  go_enter Try.func60, Try.ntmps60
  go_wp2_with fail
  refine Hat.out.mono ?_
  rintro e w1 ⟨rfl, hb1⟩
  go_wp2_with fail
  go_ret
  exact ⟨rfl, hb1⟩
set_option maxRecDepth 100000 in
set_option maxHeartbeats 1000000 in
theorem cutOf_any (W H X Y BW BH : Nat) (A : Option Addr) (ac : Nat) (bs : List Bool) (w : World) (hA : Reads w 1 A (W * H) (bs.map .bool)) (hW : W ≤ 4000) (hH : H ≤ 4000) (hX : X + BW ≤ W) (hY : Y + BH ≤ H) :
    Calls Try.prog 39 #[.agg #[.int .i64 W, .int .i64 H, .slice A (W * H) ac], .agg #[.int .i64 X, .int .i64 Y, .int .i64 BW, .int .i64 BH]] w fun e w' => ∃ R rc, e = .returned (.agg #[.int .i64 BW, .int .i64 BH, .slice R (BW * BH) rc]) ∧ Reads w' 1 R (BW * BH) ((grid BW BH (cutF bs W X Y)).map .bool) ∧ (∀ ad, R = some ad → w.heap.size + 3 ≤ ad.block) ∧ Bl w w' := by
  let w2 := (((w).alloc (.cells #[.int .i64 W, .int .i64 H, .slice A (W * H) ac] 27)).alloc (.cells #[.int .i64 X, .int .i64 Y, .int .i64 BW, .int .i64 BH] 29)).alloc (.cells #[.int .i64 0, .int .i64 0, .slice none 0 0] 27)
  have w2b : Bl w w2 := (((Bl.refl w).alloc _).alloc _).alloc _
  have w21 : Blk w2 (w.heap.size) 27 #[.int .i64 W, .int .i64 H, .slice A (W * H) ac] := by
    have h0 := Blk.new (w) 27 #[.int .i64 W, .int .i64 H, .slice A (W * H) ac]
    exact ((h0.alloc _).alloc _)
  have w22 : Blk w2 (w.heap.size + 1) 29 #[.int .i64 X, .int .i64 Y, .int .i64 BW, .int .i64 BH] := by
    have h0 := Blk.new ((w).alloc (.cells #[.int .i64 W, .int .i64 H, .slice A (W * H) ac] 27)) 29 #[.int .i64 X, .int .i64 Y, .int .i64 BW, .int .i64 BH]
    simp only [World.size_alloc] at h0
    exact (h0.alloc _)
  have w23 : Blk w2 (w.heap.size + 1 + 1) 27 #[.int .i64 0, .int .i64 0, .slice none 0 0] := by
    have h0 := Blk.new (((w).alloc (.cells #[.int .i64 W, .int .i64 H, .slice A (W * H) ac] 27)).alloc (.cells #[.int .i64 X, .int .i64 Y, .int .i64 BW, .int .i64 BH] 29)) 27 #[.int .i64 0, .int .i64 0, .slice none 0 0]
    simp only [World.size_alloc] at h0
    exact h0
  have hbd : BW * BH ≤ 16000000 := by have := Nat.mul_le_mul (show BW ≤ 4000 by omega) (show BH ≤ 4000 by omega); omega
  have hP : Paints Try.prog 60 #[.pointer (some ⟨w.heap.size, 0, none⟩), .pointer (some ⟨w.heap.size + 1, 0, none⟩)] Value.bool w2 BW BH (cutF bs W X Y) :=
    ⟨enters Try.func60 (by kernel_rfl) rfl, fun wy x y hb hx hy => cutOf1_any _ _ W H X Y BW BH A ac bs x y wy (w21.bl hb) (w22.bl hb) ((hA.bl w2b).bl hb) hW hH hx hy hX hY⟩
  have HP := Lib.hid hP
  clear hP hA
  have k2 := w22.all4
  go_enter Try.func39, Try.ntmps39
  go_wp2_with fail
  refine (Made_any BW BH _ _ _ _ (by omega) (by omega) (by omega) HP.out).mono ?_
  rintro e w6 ⟨r, rfl, hpg, hb6⟩
  have kr3 := (w23.bl hb6).all3
  have hsz3 := w23.lt
  have hle6 := w2b.trans hb6
  obtain ⟨R, rc, rfl, hR, hRn⟩ := hpg
  have hRn' : ∀ ad, R = some ad → w.heap.size + 3 ≤ ad.block := fun ad h => by have := hRn ad h; omega
  have HR := Lib.hid hR; have HRn := Lib.hid hRn'
  clear hR hRn hRn'
  go_wp2_with fail
  refine bodyPost_ret (v := .agg #[.int .i64 BW, .int .i64 BH, .slice R (BW * BH) rc]) (by simp [results, Try.results39, go_sem, kr3]) rfl ⟨R, rc, rfl, ?_, HRn.out, ?_⟩
  · exact ((HR.out.store HRn.out (by simp) _).store HRn.out (by simp) _).store HRn.out (by simp) _
  · exact (((hle6.setCell (by simp; omega) _).setCell (by simp; omega) _).setCell (by simp; omega) _)

end Go.Proofs.Ytecfjdladcmhjaa
