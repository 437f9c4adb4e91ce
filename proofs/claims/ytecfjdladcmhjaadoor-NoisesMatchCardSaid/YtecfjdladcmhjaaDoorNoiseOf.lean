/- bedref2.NoiseOf. -/
import Derived.Test.YtecfjdladcmhjaaDoorNoise
namespace Go.Proofs.YtecfjdladcmhjaaDoor
open Go.RowKit

set_option maxRecDepth 100000 in
set_option maxHeartbeats 2000000 in
theorem noiseOf1_any (g1 g2 g3 W H : Nat) (A : Option Addr) (ac : Nat) (bs : List Bool) (s p : Int) (x y : Nat) (w : World) (h1 : Blk w g1 24 #[.int .i64 W, .int .i64 H, .slice A (W * H) ac]) (h2 : Blk w g2 68 #[.int .u32 s]) (h3 : Blk w g3 3 #[.int .i64 p])
    (hA : Reads w 1 A (W * H) (bs.map .bool)) (hW : W ≤ 4000) (hH : H ≤ 4000) (hx : x < W) (hy : y < H) :
    Calls Tryd.prog 120 #[.int .i64 x, .int .i64 y, .pointer (some ⟨g1, 0, none⟩), .pointer (some ⟨g2, 0, none⟩), .pointer (some ⟨g3, 0, none⟩)] w fun e w' => e = .returned (.bool (noiseF bs W s p x y)) ∧ Bl w w' := by
  have k1 := h1.all3
  have k2 := h2.all1
  have k3 := h3.all1
  have hat := fun w1 (h : Bl w w1) => at_any W H A ac bs (x : Int) (y : Int) w1 (hA.bl h) hW hH
  rw [show atI bs W H (x : Int) (y : Int) = pix bs W x y from atI_in bs W H x y hx hy] at hat
  have hq : (0 : Int) ≤ (y : Int) * (W : Int) ∧ (y : Int) * (W : Int) ≤ 16000000 := by
    have h5 := Int.natCast_mul y W
    have h6 := Nat.mul_le_mul (show y ≤ 4000 by omega) hW
    omega
  obtain ⟨k, hk⟩ : ∃ k, k = y * W + x := ⟨_, rfl⟩
  have ek : (y : Int) * (W : Int) + (x : Int) = (k : Int) := by rw [hk]; simp
  have hf : noiseF bs W s p x y = (!(pix bs W x y == decide (chanceI s (k : Int) < p))) := by rw [hk]; rfl
  obtain ⟨v, hv⟩ : ∃ v, v = pix bs W x y := ⟨_, rfl⟩
  rw [← hv] at hat hf
  have Hat := Lib.hid hat; have Hf := Lib.hid hf; have H1 := Lib.hid h1; have H2 := Lib.hid h2; have H3 := Lib.hid h3
  clear hat hf hv hk hA h1 h2 h3
  go_enter Tryd.func120, Tryd.ntmps120
  go_wp2_with fail
  refine wp_region_flow [(true, 0), (true, 1), (true, 2), (true, 4), (true, 5), (true, 6), (true, 7), (true, 8), (true, 9), (true, 10), (true, 12), (false, 3), (false, 11), (true, 13), (true, 14), (true, 15)] (fun _ => false) (by kernel_rfl) (by kernel_rfl) (by kernel_rfl) (by kernel_rfl) ?_
  iterate 1
    apply Flow.calm2 _ _ rfl rfl
    · intro w' hb' K' hK'
      obtain ⟨hc', hf'⟩ := hb'.rule
      go_simp
      try go_ints
      exact hK'
    · intro K' hK'
      simp only [Act.put, List.setIfInBounds_toArray, List.set_cons_zero, List.set_cons_succ]
      exact hK'
  iterate 2
    apply Flow.mv _ rfl
    · intro K' hK'
      simp only [Act.put, Act.eval, List.setIfInBounds_toArray, List.set_cons_zero, List.set_cons_succ, arr_getD, List.getD_cons_zero, List.getD_cons_succ]
      exact hK'
  iterate 1
    apply Flow.calm2 _ _ rfl rfl
    · intro w' hb' K' hK'
      obtain ⟨hc', hf'⟩ := hb'.rule
      go_simp
      try go_ints
      exact hK'
    · intro K' hK'
      simp only [Act.put, List.setIfInBounds_toArray, List.set_cons_zero, List.set_cons_succ]
      exact hK'
  iterate 1
    apply Flow.mv _ rfl
    · intro K' hK'
      simp only [Act.put, Act.eval, List.setIfInBounds_toArray, List.set_cons_zero, List.set_cons_succ, arr_getD, List.getD_cons_zero, List.getD_cons_succ]
      exact hK'
  iterate 1
    apply Flow.calm2 _ _ rfl rfl
    · intro w' hb' K' hK'
      obtain ⟨hc', hf'⟩ := hb'.rule
      go_simp
      try go_ints
      exact hK'
    · intro K' hK'
      simp only [Act.put, List.setIfInBounds_toArray, List.set_cons_zero, List.set_cons_succ]
      exact hK'
  iterate 1
    apply Flow.calm2 _ _ rfl rfl
    · intro w' hb' K' hK'
      obtain ⟨hc', hf'⟩ := hb'.rule
      go_simp
      try go_ints
      exact hK'
    · intro K' hK'
      simp only [Act.put, List.setIfInBounds_toArray, List.set_cons_zero, List.set_cons_succ]
      exact hK'
  iterate 1
    apply Flow.calm2 _ _ rfl rfl
    · intro w' hb' K' hK'
      obtain ⟨hc', hf'⟩ := hb'.rule
      go_simp
      try go_ints
      exact hK'
    · intro K' hK'
      simp only [Act.put, List.setIfInBounds_toArray, List.set_cons_zero, List.set_cons_succ]
      exact hK'
  iterate 1
    apply Flow.mv _ rfl
    · intro K' hK'
      simp only [Act.put, Act.eval, List.setIfInBounds_toArray, List.set_cons_zero, List.set_cons_succ, arr_getD, List.getD_cons_zero]
      exact hK'
  iterate 1
    apply Flow.calm2 _ _ rfl rfl
    · intro w' hb' K' hK'
      obtain ⟨hc', hf'⟩ := hb'.rule
      go_simp
      try go_ints
      exact hK'
    · intro K' hK'
      simp only [Act.put, List.setIfInBounds_toArray, List.set_cons_zero, List.set_cons_succ]
      exact hK'
  iterate 1
    apply Flow.calm2 _ _ rfl rfl
    · intro w' hb' K' hK'
      obtain ⟨hc', hf'⟩ := hb'.rule
      go_simp
      try go_ints
      exact hK'
    · intro K' hK'
      simp only [Act.put, List.setIfInBounds_toArray, List.set_cons_zero, List.set_cons_succ]
      exact hK'
  apply Flow.move rfl
  go_wp2_with fail
  refine (Hat.out _ (Bl.refl _).drew).mono ?_
  rintro e w1 ⟨rfl, HB1⟩
  go_wp2_with fail
  refine ⟨fun _ => (by first | exact HB1 | exact Bl.refl _), ?_⟩
  apply Flow.move rfl
  go_wp2_with fail
  refine (chanceOf_any _ _ _).mono ?_
  rintro e w' ⟨rfl, rfl⟩
  go_wp2_with fail
  refine ⟨fun _ => (by first | exact HB2 | exact Bl.refl _), ?_⟩
  iterate 2
    apply Flow.calm2 _ _ rfl rfl
    · intro w' hb' K' hK'
      obtain ⟨hc', hf'⟩ := hb'.rule
      go_simp
      try go_ints
      exact hK'
    · intro K' hK'
      simp only [Act.put, List.setIfInBounds_toArray, List.set_cons_zero, List.set_cons_succ]
      exact hK'
  iterate 1
    apply Flow.asg _ rfl
    · intro K' hK'
      simp only [Act.put, Act.eval, List.setIfInBounds_toArray, List.set_cons_zero, List.set_cons_succ, arr_getD, List.getD_cons_zero, List.getD_cons_succ]
      exact hK'
  refine Flow.done ?_
  go_wp2_with fail
  go_ret
  exact ⟨ret_bool Hf.out.symm, Bl.ofDrew HB1⟩
set_option maxRecDepth 100000 in
set_option maxHeartbeats 1000000 in
theorem noiseOf_any (W H : Nat) (A : Option Addr) (ac : Nat) (bs : List Bool) (s p : Int) (w : World) (hA : Reads w 1 A (W * H) (bs.map .bool)) (hW : W ≤ 4000) (hH : H ≤ 4000) :
    Calls Tryd.prog 50 #[.agg #[.int .i64 W, .int .i64 H, .slice A (W * H) ac], .int .u32 s, .int .i64 p] w fun e w' => ∃ v, e = .returned v ∧ IsPage w' v W H ((grid W H (noiseF bs W s p)).map .bool) ∧ Bl w w' := by
  let w2 := ((((w).alloc (.cells #[.int .i64 W, .int .i64 H, .slice A (W * H) ac] 24)).alloc (.cells #[.int .u32 s] 68)).alloc (.cells #[.int .i64 p] 3)).alloc (.cells #[.int .i64 0, .int .i64 0, .slice none 0 0] 24)
  have w2b : Bl w w2 := ((((Bl.refl w).alloc _).alloc _).alloc _).alloc _
  have w21 : Blk w2 (w.heap.size) 24 #[.int .i64 W, .int .i64 H, .slice A (W * H) ac] := by
    have h0 := Blk.new (w) 24 #[.int .i64 W, .int .i64 H, .slice A (W * H) ac]
    exact (((h0.alloc _).alloc _).alloc _)
  have w22 : Blk w2 (w.heap.size + 1) 68 #[.int .u32 s] := by
    have h0 := Blk.new ((w).alloc (.cells #[.int .i64 W, .int .i64 H, .slice A (W * H) ac] 24)) 68 #[.int .u32 s]
    simp only [World.size_alloc] at h0
    exact ((h0.alloc _).alloc _)
  have w23 : Blk w2 (w.heap.size + 1 + 1) 3 #[.int .i64 p] := by
    have h0 := Blk.new (((w).alloc (.cells #[.int .i64 W, .int .i64 H, .slice A (W * H) ac] 24)).alloc (.cells #[.int .u32 s] 68)) 3 #[.int .i64 p]
    simp only [World.size_alloc] at h0
    exact (h0.alloc _)
  have w24 : Blk w2 (w.heap.size + 1 + 1 + 1) 24 #[.int .i64 0, .int .i64 0, .slice none 0 0] := by
    have h0 := Blk.new ((((w).alloc (.cells #[.int .i64 W, .int .i64 H, .slice A (W * H) ac] 24)).alloc (.cells #[.int .u32 s] 68)).alloc (.cells #[.int .i64 p] 3)) 24 #[.int .i64 0, .int .i64 0, .slice none 0 0]
    simp only [World.size_alloc] at h0
    exact h0
  have hbd : W * H ≤ 16000000 := by have := Nat.mul_le_mul hW hH; omega
  have hP : Paints Tryd.prog 120 #[.pointer (some ⟨w.heap.size, 0, none⟩), .pointer (some ⟨w.heap.size + 1, 0, none⟩), .pointer (some ⟨w.heap.size + 2, 0, none⟩)] Value.bool w2 W H (noiseF bs W s p) :=
    ⟨enters Tryd.func120 (by kernel_rfl) rfl, fun wy x y hb hx hy => noiseOf1_any _ _ _ W H A ac bs s p x y wy (w21.bl hb) (w22.bl hb) (w23.bl hb) ((hA.bl w2b).bl hb) hW hH hx hy⟩
  have HP := Lib.hid hP
  clear hP hA
  have k1 := w21.all3
  go_enter Tryd.func50, Tryd.ntmps50
  go_wp2_with fail
  refine (Made_any W H _ _ _ _ (by omega) (by omega) (by omega) HP.out).mono ?_
  rintro e w6 ⟨r, rfl, hpg, hb6⟩
  have kr3 := (w24.bl hb6).all3
  have hsz3 := w24.lt
  have hle6 := w2b.trans hb6
  obtain ⟨R, rc, rfl, hR, hRn⟩ := hpg
  have hRn' : ∀ ad, R = some ad → w.heap.size + 4 ≤ ad.block := fun ad h => by have := hRn ad h; omega
  have HR := Lib.hid hR; have HRn := Lib.hid hRn'
  clear hR hRn hRn'
  go_wp2_with fail
  refine bodyPost_ret (v := .agg #[.int .i64 W, .int .i64 H, .slice R (W * H) rc]) (by simp [results, Tryd.results50, go_sem, kr3]) rfl ⟨_, rfl, ⟨R, rc, rfl, ?_⟩, ?_⟩
  · exact ((HR.out.store HRn.out (by simp) _).store HRn.out (by simp) _).store HRn.out (by simp) _
  · exact (((hle6.setCell (by simp; omega) _).setCell (by simp; omega) _).setCell (by simp; omega) _)

end Go.Proofs.YtecfjdladcmhjaaDoor
