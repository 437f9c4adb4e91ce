/- bedref2.LeanOf and SlantOf. -/
import Derived.Test.YtccgncjncklheaaLean
namespace Go.Proofs.Ytccgncjncklheaa
open Go.RowKit

set_option maxRecDepth 100000 in
set_option maxHeartbeats 1000000 in
theorem fall_any (W : Nat) (H : Int) (A : Option Addr) (an ac : Nat) (n : Int) (x : Nat) (w : World) (hW : W ≤ 4000) (hn : -256 ≤ n ∧ n ≤ 256) (hx : x < W) :
    Calls Try.prog 126 #[.agg #[.int .i64 W, .int .i64 H, .slice A an ac], .int .i64 n, .int .i64 x] w fun e w' => e = .returned (.int .i64 (leanI W n x)) ∧ Bl w w' := by
  have hbd := leanArg_bd hW hn hx
  have elean : shiftI (n * ((x : Int) - ((W : Int) - 1) / 2)) = leanI W n x := rfl
  obtain ⟨m, hm⟩ : ∃ m, m = n * ((x : Int) - ((W : Int) - 1) / 2) := ⟨_, rfl⟩
  rw [← hm] at hbd elean
  have hm' := hm.symm
  have Hm := Lib.hid hm; have Elean := Lib.hid elean
  clear hm elean
  go_enter Try.func126, Try.ntmps126
  go_wp2_with (first | (go_at_call 99; refine (down_any _ _ _ (by omega) (by omega) (by omega) (by omega)).mono ?_; rintro e w' ⟨rfl, rfl⟩) | (go_at_call 130; refine (shiftOf_any _ _ (by omega)).mono ?_; rintro e w' ⟨rfl, rfl⟩))
  go_ret
  exact ⟨ret_int Elean.out, (Bl.refl _).alloc _⟩

set_option maxRecDepth 100000 in
set_option maxHeartbeats 2000000 in
theorem leanOf1_any (p q W H : Nat) (A : Option Addr) (ac : Nat) (bs : List Bool) (n : Int) (x y : Nat) (w : World) (hp : Blk w p 39 #[.int .i64 W, .int .i64 H, .slice A (W * H) ac]) (hq : Blk w q 3 #[.int .i64 n])
    (hA : Reads w 1 A (W * H) (bs.map .bool)) (hW : W ≤ 4000) (hH : H ≤ 4000) (hn : -256 ≤ n ∧ n ≤ 256) (hx : x < W) (hy : y < H) :
    Calls Try.prog 128 #[.int .i64 x, .int .i64 y, .pointer (some ⟨p, 0, none⟩), .pointer (some ⟨q, 0, none⟩)] w fun e w' => e = .returned (.bool (leanF bs W H n x y)) ∧ Bl w w' := by
  have kp := hp.all3
  have kq := hq.all1
  have hb := leanI_bd hW hn hx
  have hat : ∀ w1, Bl w.drew w1 → Calls Try.prog 38 #[.agg #[.int .i64 W, .int .i64 H, .slice A (W * H) ac], .int .i64 _, .int .i64 _] w1 fun e w' => e = .returned (.bool (leanF bs W H n x y)) ∧ Bl w1 w' :=
    fun w1 h1 => at_any W H A ac bs (x : Int) ((y : Int) - leanI W n x) w1 (hA.bl (Bl.ofDrew h1)) hW hH
  obtain ⟨s, hs⟩ : ∃ s, leanI W n x = s := ⟨_, rfl⟩
  simp only [hs] at hat hb
  have Hat := Lib.hid hat
  clear hat hA
  go_enter Try.func128, Try.ntmps128
  go_wp2_with fail
  refine wp_region_flow [(true, 0), (true, 1), (true, 2), (true, 3), (true, 4), (true, 5), (false, 6), (true, 7), (false, 8), (true, 9)] (fun _ => false) (by kernel_rfl) (by kernel_rfl) (by kernel_rfl) (by kernel_rfl) ?_
  iterate 1
    apply Flow.calm2 _ _ rfl rfl
    · intro w' hb' K' hK'
      obtain ⟨hc', hf'⟩ := hb'.rule
      go_simp
      try go_ints
      exact hK'
    · intro K' hK'
      simp only [Act.put, List.setIfInBounds_toArray, List.set_cons_zero, List.set_cons_succ]
      exact hK'
  iterate 2
    apply Flow.mv _ rfl
    · intro K' hK'
      simp only [Act.put, Act.eval, List.setIfInBounds_toArray, List.set_cons_zero, List.set_cons_succ, arr_getD, List.getD_cons_zero, List.getD_cons_succ]
      exact hK'
  iterate 2
    apply Flow.calm2 _ _ rfl rfl
    · intro w' hb' K' hK'
      obtain ⟨hc', hf'⟩ := hb'.rule
      go_simp
      try go_ints
      exact hK'
    · intro K' hK'
      simp only [Act.put, List.setIfInBounds_toArray, List.set_cons_zero, List.set_cons_succ]
      exact hK'
  iterate 1
    apply Flow.mv _ rfl
    · intro K' hK'
      simp only [Act.put, Act.eval, List.setIfInBounds_toArray, List.set_cons_zero, List.set_cons_succ, arr_getD, List.getD_cons_zero]
      exact hK'
  apply Flow.move rfl
  go_wp2_with fail
  refine (fall_any W (H : Int) A (W * H) ac n x _ hW hn hx).mono ?_
  rintro e w1 ⟨rfl, HB1⟩
  go_wp2_with fail
  refine ⟨fun _ => (by first | exact HB1 | exact Bl.refl _), ?_⟩
  iterate 1
    apply Flow.calm2 _ _ rfl rfl
    · intro w' hb' K' hK'
      obtain ⟨hc', hf'⟩ := hb'.rule
      go_simp
      try go_ints
      exact hK'
    · intro K' hK'
      simp only [Act.put, List.setIfInBounds_toArray, List.set_cons_zero, List.set_cons_succ]
      exact hK'
  apply Flow.move rfl
  go_wp2_with fail
  refine (Hat.out _ HB1).mono ?_
  rintro e w2 ⟨rfl, HB2⟩
  go_wp2_with fail
  refine ⟨fun _ => (by first | exact HB2 | exact Bl.refl _), ?_⟩
  iterate 1
    apply Flow.asg _ rfl
    · intro K' hK'
      simp only [Act.put, Act.eval, List.setIfInBounds_toArray, List.set_cons_zero, List.set_cons_succ, arr_getD, List.getD_cons_zero, List.getD_cons_succ]
      exact hK'
  refine Flow.done ?_
  go_wp2_with fail
  go_ret
  exact ⟨rfl, (Bl.ofDrew HB1).trans HB2⟩
set_option maxRecDepth 100000 in
set_option maxHeartbeats 1000000 in
theorem leanOf_any (W H : Nat) (A : Option Addr) (ac : Nat) (bs : List Bool) (n : Int) (w : World) (hA : Reads w 1 A (W * H) (bs.map .bool)) (hW : W ≤ 4000) (hH : H ≤ 4000) (hn : -256 ≤ n ∧ n ≤ 256) :
    Calls Try.prog 61 #[.agg #[.int .i64 W, .int .i64 H, .slice A (W * H) ac], .int .i64 n] w fun e w' => ∃ R rc, e = .returned (.agg #[.int .i64 W, .int .i64 H, .slice R (W * H) rc]) ∧ Reads w' 1 R (W * H) ((grid W H (leanF bs W H n)).map .bool) ∧ (∀ ad, R = some ad → w.heap.size + 3 ≤ ad.block) ∧ Bl w w' := by
  let w2 := (((w).alloc (.cells #[.int .i64 W, .int .i64 H, .slice A (W * H) ac] 39)).alloc (.cells #[.int .i64 n] 3)).alloc (.cells #[.int .i64 0, .int .i64 0, .slice none 0 0] 39)
  have w2b : Bl w w2 := (((Bl.refl w).alloc _).alloc _).alloc _
  have w21 : Blk w2 (w.heap.size) 39 #[.int .i64 W, .int .i64 H, .slice A (W * H) ac] := by
    have h0 := Blk.new (w) 39 #[.int .i64 W, .int .i64 H, .slice A (W * H) ac]
    exact ((h0.alloc _).alloc _)
  have w22 : Blk w2 (w.heap.size + 1) 3 #[.int .i64 n] := by
    have h0 := Blk.new ((w).alloc (.cells #[.int .i64 W, .int .i64 H, .slice A (W * H) ac] 39)) 3 #[.int .i64 n]
    simp only [World.size_alloc] at h0
    exact (h0.alloc _)
  have w23 : Blk w2 (w.heap.size + 1 + 1) 39 #[.int .i64 0, .int .i64 0, .slice none 0 0] := by
    have h0 := Blk.new (((w).alloc (.cells #[.int .i64 W, .int .i64 H, .slice A (W * H) ac] 39)).alloc (.cells #[.int .i64 n] 3)) 39 #[.int .i64 0, .int .i64 0, .slice none 0 0]
    simp only [World.size_alloc] at h0
    exact h0
  have hbd : W * H ≤ 16000000 := by have := Nat.mul_le_mul hW hH; omega
  have hP : Paints Try.prog 128 #[.pointer (some ⟨w.heap.size, 0, none⟩), .pointer (some ⟨w.heap.size + 1, 0, none⟩)] Value.bool w2 W H (leanF bs W H n) :=
    ⟨enters Try.func128 (by kernel_rfl) rfl, fun wy x y hb hx hy => leanOf1_any _ _ W H A ac bs n x y wy (w21.bl hb) (w22.bl hb) ((hA.bl w2b).bl hb) hW hH hn hx hy⟩
  have HP := Lib.hid hP
  clear hP hA
  have k1 := w21.all3
  go_enter Try.func61, Try.ntmps61
  go_wp2_with fail
  refine (Made_any W H _ _ _ _ (by omega) (by omega) (by omega) HP.out).mono ?_
  rintro e w6 ⟨r, rfl, hpg, hb6⟩
  have kr3 := (w23.bl hb6).all3
  have hsz3 := w23.lt
  have hle6 := w2b.trans hb6
  obtain ⟨R, rc, rfl, hR, hRn⟩ := hpg
  have hRn' : ∀ ad, R = some ad → w.heap.size + 3 ≤ ad.block := fun ad h => by have := hRn ad h; omega
  have HR := Lib.hid hR; have HRn := Lib.hid hRn'
  clear hR hRn hRn'
  go_wp2_with fail
  refine bodyPost_ret (v := .agg #[.int .i64 W, .int .i64 H, .slice R (W * H) rc]) (by simp [results, Try.results61, go_sem, kr3]) rfl ⟨R, rc, rfl, ?_, HRn.out, ?_⟩
  · exact ((HR.out.store HRn.out (by simp) _).store HRn.out (by simp) _).store HRn.out (by simp) _
  · exact (((hle6.setCell (by simp; omega) _).setCell (by simp; omega) _).setCell (by simp; omega) _)

set_option maxRecDepth 100000 in
set_option maxHeartbeats 2000000 in
theorem slantOf1_any (p q W H : Nat) (A : Option Addr) (ac : Nat) (bs : List Bool) (n : Int) (x y : Nat) (w : World) (hp : Blk w p 39 #[.int .i64 W, .int .i64 H, .slice A (W * H) ac]) (hq : Blk w q 3 #[.int .i64 n])
    (hA : Reads w 1 A (W * H) (bs.map .bool)) (hW : W ≤ 4000) (hH : H ≤ 4000) (hn : -256 ≤ n ∧ n ≤ 256) (hx : x < W) (hy : y < H) :
    Calls Try.prog 129 #[.int .i64 x, .int .i64 y, .pointer (some ⟨p, 0, none⟩), .pointer (some ⟨q, 0, none⟩)] w fun e w' => e = .returned (.bool (slantF bs W H n x y)) ∧ Bl w w' := by
  have kp := hp.all3
  have kq := hq.all1
  have hb := slantI_bd hH hn hy
  have hat : ∀ w1, Bl w.drew w1 → Calls Try.prog 38 #[.agg #[.int .i64 W, .int .i64 H, .slice A (W * H) ac], .int .i64 _, .int .i64 _] w1 fun e w' => e = .returned (.bool (slantF bs W H n x y)) ∧ Bl w1 w' :=
    fun w1 h1 => at_any W H A ac bs ((x : Int) - slantI H n y) (y : Int) w1 (hA.bl (Bl.ofDrew h1)) hW hH
  have hbd := slantArg_bd hH hn hy
  have esl : shiftI (n * (((H : Int) - 1) / 2 - (y : Int))) = slantI H n y := rfl
  obtain ⟨m, hm⟩ : ∃ m, m = n * (((H : Int) - 1) / 2 - (y : Int)) := ⟨_, rfl⟩
  rw [← hm] at hbd esl
  have hm' := hm.symm
  have Hm := Lib.hid hm
  clear hm
  obtain ⟨s, hs⟩ : ∃ s, slantI H n y = s := ⟨_, rfl⟩
  simp only [hs] at hat hb esl
  have Hat := Lib.hid hat
  clear hat hA
  go_enter Try.func129, Try.ntmps129
  go_wp2_with fail
  refine wp_region_flow [(true, 0), (true, 1), (true, 2), (true, 3), (true, 4), (true, 5), (true, 7), (true, 12), (false, 6), (true, 8), (true, 9), (false, 10), (true, 11), (false, 13), (true, 14)] (fun _ => false) (by kernel_rfl) (by kernel_rfl) (by kernel_rfl) (by kernel_rfl) ?_
  iterate 1
    apply Flow.calm2 _ _ rfl rfl
    · intro w' hb' K' hK'
      obtain ⟨hc', hf'⟩ := hb'.rule
      go_simp
      try go_ints
      exact hK'
    · intro K' hK'
      simp only [Act.put, List.setIfInBounds_toArray, List.set_cons_zero, List.set_cons_succ]
      exact hK'
  iterate 1
    apply Flow.mv _ rfl
    · intro K' hK'
      simp only [Act.put, Act.eval, List.setIfInBounds_toArray, List.set_cons_zero, List.set_cons_succ, arr_getD, List.getD_cons_zero]
      exact hK'
  iterate 1
    apply Flow.calm2 _ _ rfl rfl
    · intro w' hb' K' hK'
      obtain ⟨hc', hf'⟩ := hb'.rule
      go_simp
      try go_ints
      exact hK'
    · intro K' hK'
      simp only [Act.put, List.setIfInBounds_toArray, List.set_cons_zero, List.set_cons_succ]
      exact hK'
  iterate 1
    apply Flow.calm2 _ _ rfl rfl
    · intro w' hb' K' hK'
      obtain ⟨hc', hf'⟩ := hb'.rule
      go_simp
      try go_ints
      exact hK'
    · intro K' hK'
      simp only [Act.put, List.setIfInBounds_toArray, List.set_cons_zero, List.set_cons_succ]
      exact hK'
  iterate 1
    apply Flow.calm2 _ _ rfl rfl
    · intro w' hb' K' hK'
      obtain ⟨hc', hf'⟩ := hb'.rule
      go_simp
      try go_ints
      exact hK'
    · intro K' hK'
      simp only [Act.put, List.setIfInBounds_toArray, List.set_cons_zero, List.set_cons_succ]
      exact hK'
  iterate 1
    apply Flow.calm2 _ _ rfl rfl
    · intro w' hb' K' hK'
      obtain ⟨hc', hf'⟩ := hb'.rule
      go_simp
      try go_ints
      exact hK'
    · intro K' hK'
      simp only [Act.put, List.setIfInBounds_toArray, List.set_cons_zero, List.set_cons_succ]
      exact hK'
  iterate 2
    apply Flow.mv _ rfl
    · intro K' hK'
      simp only [Act.put, Act.eval, List.setIfInBounds_toArray, List.set_cons_zero, List.set_cons_succ, arr_getD, List.getD_cons_zero, List.getD_cons_succ]
      exact hK'
  apply Flow.move rfl
  go_wp2_with fail
  refine (down_any _ _ _ (by omega) (by omega) (by omega) (by omega)).mono ?_
  rintro e w1 ⟨rfl, rfl⟩
  go_wp2_with fail
  refine ⟨fun _ => (by first | exact HB1 | exact Bl.refl _), ?_⟩
  iterate 2
    apply Flow.calm2 _ _ rfl rfl
    · intro w' hb' K' hK'
      obtain ⟨hc', hf'⟩ := hb'.rule
      go_simp
      try go_ints
      exact hK'
    · intro K' hK'
      simp only [Act.put, List.setIfInBounds_toArray, List.set_cons_zero, List.set_cons_succ]
      exact hK'
  apply Flow.move rfl
  go_wp2_with fail
  refine (shiftOf_any _ _ (by omega)).mono ?_
  rintro e w1 ⟨rfl, rfl⟩
  go_wp2_with fail
  refine ⟨fun _ => (by first | exact HB2 | exact Bl.refl _), ?_⟩
  iterate 1
    apply Flow.calm2 _ _ rfl rfl
    · intro w' hb' K' hK'
      obtain ⟨hc', hf'⟩ := hb'.rule
      go_simp
      try go_ints
      exact hK'
    · intro K' hK'
      simp only [Act.put, List.setIfInBounds_toArray, List.set_cons_zero, List.set_cons_succ]
      exact hK'
  apply Flow.move rfl
  go_wp2_with fail
  refine (Hat.out _ (Bl.refl _)).mono ?_
  rintro e w2 ⟨rfl, HB3⟩
  go_wp2_with fail
  refine ⟨fun _ => (by first | exact HB3 | exact Bl.refl _), ?_⟩
  iterate 1
    apply Flow.asg _ rfl
    · intro K' hK'
      simp only [Act.put, Act.eval, List.setIfInBounds_toArray, List.set_cons_zero, List.set_cons_succ, arr_getD, List.getD_cons_zero, List.getD_cons_succ]
      exact hK'
  refine Flow.done ?_
  go_wp2_with fail
  go_ret
  exact ⟨rfl, Bl.ofDrew HB3⟩
set_option maxRecDepth 100000 in
set_option maxHeartbeats 1000000 in
theorem slantOf_any (W H : Nat) (A : Option Addr) (ac : Nat) (bs : List Bool) (n : Int) (w : World) (hA : Reads w 1 A (W * H) (bs.map .bool)) (hW : W ≤ 4000) (hH : H ≤ 4000) (hn : -256 ≤ n ∧ n ≤ 256) :
    Calls Try.prog 62 #[.agg #[.int .i64 W, .int .i64 H, .slice A (W * H) ac], .int .i64 n] w fun e w' => ∃ R rc, e = .returned (.agg #[.int .i64 W, .int .i64 H, .slice R (W * H) rc]) ∧ Reads w' 1 R (W * H) ((grid W H (slantF bs W H n)).map .bool) ∧ (∀ ad, R = some ad → w.heap.size + 3 ≤ ad.block) ∧ Bl w w' := by
  let w2 := (((w).alloc (.cells #[.int .i64 W, .int .i64 H, .slice A (W * H) ac] 39)).alloc (.cells #[.int .i64 n] 3)).alloc (.cells #[.int .i64 0, .int .i64 0, .slice none 0 0] 39)
  have w2b : Bl w w2 := (((Bl.refl w).alloc _).alloc _).alloc _
  have w21 : Blk w2 (w.heap.size) 39 #[.int .i64 W, .int .i64 H, .slice A (W * H) ac] := by
    have h0 := Blk.new (w) 39 #[.int .i64 W, .int .i64 H, .slice A (W * H) ac]
    exact ((h0.alloc _).alloc _)
  have w22 : Blk w2 (w.heap.size + 1) 3 #[.int .i64 n] := by
    have h0 := Blk.new ((w).alloc (.cells #[.int .i64 W, .int .i64 H, .slice A (W * H) ac] 39)) 3 #[.int .i64 n]
    simp only [World.size_alloc] at h0
    exact (h0.alloc _)
  have w23 : Blk w2 (w.heap.size + 1 + 1) 39 #[.int .i64 0, .int .i64 0, .slice none 0 0] := by
    have h0 := Blk.new (((w).alloc (.cells #[.int .i64 W, .int .i64 H, .slice A (W * H) ac] 39)).alloc (.cells #[.int .i64 n] 3)) 39 #[.int .i64 0, .int .i64 0, .slice none 0 0]
    simp only [World.size_alloc] at h0
    exact h0
  have hbd : W * H ≤ 16000000 := by have := Nat.mul_le_mul hW hH; omega
  have hP : Paints Try.prog 129 #[.pointer (some ⟨w.heap.size, 0, none⟩), .pointer (some ⟨w.heap.size + 1, 0, none⟩)] Value.bool w2 W H (slantF bs W H n) :=
    ⟨enters Try.func129 (by kernel_rfl) rfl, fun wy x y hb hx hy => slantOf1_any _ _ W H A ac bs n x y wy (w21.bl hb) (w22.bl hb) ((hA.bl w2b).bl hb) hW hH hn hx hy⟩
  have HP := Lib.hid hP
  clear hP hA
  have k1 := w21.all3
  go_enter Try.func62, Try.ntmps62
  go_wp2_with fail
  refine (Made_any W H _ _ _ _ (by omega) (by omega) (by omega) HP.out).mono ?_
  rintro e w6 ⟨r, rfl, hpg, hb6⟩
  have kr3 := (w23.bl hb6).all3
  have hsz3 := w23.lt
  have hle6 := w2b.trans hb6
  obtain ⟨R, rc, rfl, hR, hRn⟩ := hpg
  have hRn' : ∀ ad, R = some ad → w.heap.size + 3 ≤ ad.block := fun ad h => by have := hRn ad h; omega
  have HR := Lib.hid hR; have HRn := Lib.hid hRn'
  clear hR hRn hRn'
  go_wp2_with fail
  refine bodyPost_ret (v := .agg #[.int .i64 W, .int .i64 H, .slice R (W * H) rc]) (by simp [results, Try.results62, go_sem, kr3]) rfl ⟨R, rc, rfl, ?_, HRn.out, ?_⟩
  · exact ((HR.out.store HRn.out (by simp) _).store HRn.out (by simp) _).store HRn.out (by simp) _
  · exact (((hle6.setCell (by simp; omega) _).setCell (by simp; omega) _).setCell (by simp; omega) _)

end Go.Proofs.Ytccgncjncklheaa
