/- Grow and its reference. -/
import Derived.Test.YtldmofdidgibhaaTurn3
namespace Go.Proofs.Ytldmofdidgibhaa
open Go.RowKit

theorem nat_lt_div {x W t : Nat} (h : x < W * t) : x / t < W := Nat.div_lt_of_lt_mul (by rw [Nat.mul_comm]; exact h)

set_option maxRecDepth 100000 in
set_option maxHeartbeats 400000 in
theorem grow1_any (p pt W H t : Nat) (A : Option Addr) (c : Nat) (bs : List Bool) (x y : Nat) (w : World) (hp : Blk w p 39 #[.int .i64 W, .int .i64 H, .slice A (W * H) c]) (ht : Blk w pt 3 #[.int .i64 t]) (hr : Reads w 1 A (W * H) (bs.map .bool)) (hW : W ≤ 4000) (hH : H ≤ 4000) (h1 : 1 ≤ t) (h2 : t ≤ 16) (hx : x < W * t) (hy : y < H * t) :
    Calls Try.prog 114 #[.int .i64 x, .int .i64 y, .pointer (some ⟨p, 0, none⟩), .pointer (some ⟨pt, 0, none⟩)] w fun e w' => e = .returned (.bool (growF bs W t x y)) ∧ Bl w w' := by
  have kp := hp.all3
  have kt := ht.all1
  obtain ⟨X, hXX⟩ : ∃ X, X = x / t := ⟨_, rfl⟩
  obtain ⟨Y, hYY⟩ : ∃ Y, Y = y / t := ⟨_, rfl⟩
  have hX : X < W := by rw [hXX]; exact nat_lt_div hx
  have hY : Y < H := by rw [hYY]; exact nat_lt_div hy
  have ubx : x < 64000 := Nat.lt_of_lt_of_le hx (Nat.mul_le_mul hW h2)
  have uby : y < 64000 := Nat.lt_of_lt_of_le hy (Nat.mul_le_mul hH h2)
  have hk := place_lt hX hY
  obtain ⟨ad, rfl, hc⟩ := hr.place hX hY
  unfold growF
  have ei : (x : Int) / (t : Int) = (X : Int) := by rw [hXX]; simp
  have ej : (y : Int) / (t : Int) = (Y : Int) := by rw [hYY]; simp
  rw [← hXX, ← hYY]
  obtain ⟨k, hkk⟩ : ∃ k, k = Y * W + X := ⟨_, rfl⟩
  rw [← hkk] at hk hc
  have hjw := Int.natCast_mul Y W
  have hq : (0 : Int) ≤ (Y : Int) * (W : Int) ∧ (Y : Int) * (W : Int) ≤ 16000000 := by
    have h6 := Nat.mul_le_mul (show Y ≤ 4000 by omega) hW
    omega
  have ek : (Y : Int) * (W : Int) + (X : Int) = (k : Int) := by rw [hkk]; omega
  have hkl : (k : Int) < (W : Int) * (H : Int) := by have := Int.natCast_mul W H; omega
  have t0 : ¬ (t = 0) := by omega
  have HX := Lib.hid hXX; have HY := Lib.hid hYY; have Hk := Lib.hid hkk
  clear hXX hYY hkk hjw hr hx hy
  go_enter Try.func114, Try.ntmps114
  go_wp2_with fail
  refine wp_region_flow [(true, 0), (true, 1), (true, 2), (true, 3), (true, 4), (true, 5), (true, 6), (true, 7), (true, 8), (true, 9), (true, 10), (true, 11), (true, 12), (true, 13), (true, 14)] (fun _ => false) (by kernel_rfl) (by kernel_rfl) (by kernel_rfl) (by kernel_rfl) ?_
  iterate 1
    apply Flow.calm2 _ _ rfl rfl
    · intro w' hb' K' hK'
      obtain ⟨hc', hf'⟩ := hb'.rule
      go_simp
      try go_ints
      exact hK'
    · intro K' hK'
      simp only [Act.put, List.setIfInBounds_toArray, List.set_cons_zero, List.set_cons_succ]
      exact hK'
  iterate 1
    apply Flow.calm2 _ _ rfl rfl
    · intro w' hb' K' hK'
      obtain ⟨hc', hf'⟩ := hb'.rule
      go_simp
      try go_ints
      exact hK'
    · intro K' hK'
      simp only [Act.put, List.setIfInBounds_toArray, List.set_cons_zero, List.set_cons_succ]
      exact hK'
  iterate 1
    apply Flow.mv _ rfl
    · intro K' hK'
      simp only [Act.put, Act.eval, List.setIfInBounds_toArray, List.set_cons_zero, List.set_cons_succ, arr_getD, List.getD_cons_zero, List.getD_cons_succ]
      exact hK'
  iterate 1
    apply Flow.calm2 _ _ rfl rfl
    · intro w' hb' K' hK'
      obtain ⟨hc', hf'⟩ := hb'.rule
      go_simp
      try go_ints
      exact hK'
    · intro K' hK'
      simp only [Act.put, List.setIfInBounds_toArray, List.set_cons_zero, List.set_cons_succ]
      exact hK'
  iterate 1
    apply Flow.calm2 _ _ rfl rfl
    · intro w' hb' K' hK'
      obtain ⟨hc', hf'⟩ := hb'.rule
      go_simp
      try go_ints
      exact hK'
    · intro K' hK'
      simp only [Act.put, List.setIfInBounds_toArray, List.set_cons_zero, List.set_cons_succ]
      exact hK'
  iterate 1
    apply Flow.calm2 _ _ rfl rfl
    · intro w' hb' K' hK'
      obtain ⟨hc', hf'⟩ := hb'.rule
      go_simp
      try go_ints
      exact hK'
    · intro K' hK'
      simp only [Act.put, List.setIfInBounds_toArray, List.set_cons_zero, List.set_cons_succ]
      exact hK'
  iterate 1
    apply Flow.calm2 _ _ rfl rfl
    · intro w' hb' K' hK'
      obtain ⟨hc', hf'⟩ := hb'.rule
      go_simp
      try go_ints
      exact hK'
    · intro K' hK'
      simp only [Act.put, List.setIfInBounds_toArray, List.set_cons_zero, List.set_cons_succ]
      exact hK'
  iterate 1
    apply Flow.calm2 _ _ rfl rfl
    · intro w' hb' K' hK'
      obtain ⟨hc', hf'⟩ := hb'.rule
      go_simp
      try go_ints
      exact hK'
    · intro K' hK'
      simp only [Act.put, List.setIfInBounds_toArray, List.set_cons_zero, List.set_cons_succ]
      exact hK'
  iterate 1
    apply Flow.mv _ rfl
    · intro K' hK'
      simp only [Act.put, Act.eval, List.setIfInBounds_toArray, List.set_cons_zero, List.set_cons_succ, arr_getD, List.getD_cons_zero]
      exact hK'
  iterate 1
    apply Flow.calm2 _ _ rfl rfl
    · intro w' hb' K' hK'
      obtain ⟨hc', hf'⟩ := hb'.rule
      go_simp
      try go_ints
      exact hK'
    · intro K' hK'
      simp only [Act.put, List.setIfInBounds_toArray, List.set_cons_zero, List.set_cons_succ]
      exact hK'
  iterate 2
    apply Flow.calm2 _ _ rfl rfl
    · intro w' hb' K' hK'
      obtain ⟨hc', hf'⟩ := hb'.rule
      go_simp
      try go_ints
      exact hK'
    · intro K' hK'
      simp only [Act.put, List.setIfInBounds_toArray, List.set_cons_zero, List.set_cons_succ]
      exact hK'
  iterate 1
    apply Flow.calm2 _ _ rfl rfl
    · intro w' hb' K' hK'
      obtain ⟨hc', hf'⟩ := hb'.rule
      go_simp
      try go_ints
      exact hK'
    · intro K' hK'
      simp only [Act.put, List.setIfInBounds_toArray, List.set_cons_zero, List.set_cons_succ]
      exact hK'
  iterate 1
    apply Flow.calm2 _ _ rfl rfl
    · intro w' hb' K' hK'
      obtain ⟨hc', hf'⟩ := hb'.rule
      go_simp
      try go_ints
      exact hK'
    · intro K' hK'
      simp only [Act.put, List.setIfInBounds_toArray, List.set_cons_zero, List.set_cons_succ]
      exact hK'
  iterate 1
    apply Flow.asg _ rfl
    · intro K' hK'
      simp only [Act.put, Act.eval, List.setIfInBounds_toArray, List.set_cons_zero, List.set_cons_succ, arr_getD, List.getD_cons_zero, List.getD_cons_succ]
      exact hK'
  refine Flow.done ?_
  go_wp2_with fail
  go_ret
  exact ⟨rfl, (Bl.refl _).drew⟩

theorem growErr_zero {W H : Int} {n : Nat} {t : Int} (h : growErr W H n t = 0) : pageErr W H n = 0 ∧ inB t 1 16 = true ∧ sizeErr (W * t) (H * t) = 0 := by
  unfold growErr at h
  split at h
  · rename_i h1
    split at h
    · rename_i h2
      exact ⟨h1, h2, h⟩
    · contradiction
  · contradiction

set_option maxRecDepth 100000 in
set_option maxHeartbeats 1000000 in
theorem grow_any (W H : Int) (A : Option Addr) (n c : Nat) (bs : List Bool) (t : Int) (w : World) (hr : Reads w 1 A n (bs.map .bool)) :
    Calls Try.prog 43 #[.agg #[.int .i64 W, .int .i64 H, .slice A n c], .int .i64 t] w fun e w' => ∃ a b R m d, e = .returned (.tuple #[.agg #[.int .i64 a, .int .i64 b, .slice R m d], .int .i64 (growErr W H n t)]) ∧
      Res w.heap.size w' (growErr W H n t) (W * t).toNat (H * t).toNat ((grid (W * t).toNat (H * t).toNat (growF bs W.toNat t.toNat)).map .bool) a b R m d ∧ Bl w w' := by
  let w3 := (((w).alloc (.cells #[.int .i64 W, .int .i64 H, .slice A n c] 39)).alloc (.cells #[.int .i64 t] 3)).alloc (.cells #[.int .i64 0, .int .i64 0, .slice none 0 0] 39)
  have w3b : Bl w w3 := (((Bl.refl w).alloc _).alloc _).alloc _
  have w31 : Blk w3 (w.heap.size) 39 #[.int .i64 W, .int .i64 H, .slice A n c] := by
    have h0 := Blk.new (w) 39 #[.int .i64 W, .int .i64 H, .slice A n c]
    exact ((h0.alloc _).alloc _)
  have w32 : Blk w3 (w.heap.size + 1) 3 #[.int .i64 t] := by
    have h0 := Blk.new ((w).alloc (.cells #[.int .i64 W, .int .i64 H, .slice A n c] 39)) 3 #[.int .i64 t]
    simp only [World.size_alloc] at h0
    exact (h0.alloc _)
  have w33 : Blk w3 (w.heap.size + 1 + 1) 39 #[.int .i64 0, .int .i64 0, .slice none 0 0] := by
    have h0 := Blk.new (((w).alloc (.cells #[.int .i64 W, .int .i64 H, .slice A n c] 39)).alloc (.cells #[.int .i64 t] 3)) 39 #[.int .i64 0, .int .i64 0, .slice none 0 0]
    simp only [World.size_alloc] at h0
    exact h0
  by_cases h : pageErr W H n = 0
  · have hg : growErr W H n t = if inB t 1 16 then sizeErr (W * t) (H * t) else 3 := by unfold growErr; rw [if_pos h]
    obtain ⟨hs, hn⟩ := pageErr_zero h
    have hz' := sizeErr_zero hs
    have hp := h
    obtain ⟨W, rfl⟩ := Int.eq_ofNat_of_zero_le (show 0 ≤ W by omega)
    obtain ⟨H, rfl⟩ := Int.eq_ofNat_of_zero_le (show 0 ≤ H by omega)
    obtain rfl : n = W * H := by have := Int.natCast_mul W H; omega
    have hW4 : W ≤ 4000 ∧ 1 ≤ W := by omega
    have hH4 : H ≤ 4000 ∧ 1 ≤ H := by omega
    rw [hg, Int.toNat_natCast]
    have Hs := Lib.hid hs
    clear hs hz' h hn hg
    cases hi : inB t 1 16
    · have ho := inB_false.1 hi
      rw [if_neg (by decide)]
      clear hi
      rcases ho with ho | ho
      all_goals
        go_enter Try.func43, Try.ntmps43
        go_wp2_with fail
        refine (checkBits_any _ _ _ _ _ _).mono ?_
        rintro e w4 ⟨rfl, hb4⟩
        rw [hp]
        have k1 := (w31.bl hb4).all3
        have kt := (w32.bl hb4).all1
        have k2 := (w33.bl hb4).all3
        have hle := w3b.trans hb4
        go_wp2_with fail
        refine bodyPost_ret (v := .tuple #[.agg #[.int .i64 0, .int .i64 0, .slice none 0 0], .int .i64 3]) (by simp [results, Try.results43, go_sem, k2]) rfl ⟨0, 0, none, 0, 0, rfl, Res.zero _ _ _ _ _ (by decide), ?_⟩
        exact ((hle.setCell (by simp; omega) _).setCell (by simp; omega) _).setCell (by simp; omega) _
    · have ho := inB_true.1 hi
      rw [if_pos rfl]
      clear hi
      obtain ⟨t, rfl⟩ := Int.eq_ofNat_of_zero_le (show 0 ≤ t by omega)
      have t1 : 1 ≤ t ∧ t ≤ 16 := by omega
      obtain ⟨nw, hnw⟩ : ∃ nw, nw = W * t := ⟨_, rfl⟩
      obtain ⟨nh, hnh⟩ : ∃ nh, nh = H * t := ⟨_, rfl⟩
      have ew : (W : Int) * (t : Int) = (nw : Int) := by rw [hnw]; simp
      have eh : (H : Int) * (t : Int) = (nh : Int) := by rw [hnh]; simp
      have uw : nw ≤ 64000 := by rw [hnw]; exact Nat.mul_le_mul hW4.1 t1.2
      have uh : nh ≤ 64000 := by rw [hnh]; exact Nat.mul_le_mul hH4.1 t1.2
      rw [ew, eh, Int.toNat_natCast, Int.toNat_natCast, Int.toNat_natCast]
      have Hnw := Lib.hid hnw; have Hnh := Lib.hid hnh
      clear hnw hnh ho
      by_cases hq : sizeErr nw nh = 0
      · have hz := sizeErr_zero hq
        have hbd : nw * nh ≤ 1048576 := by have := Int.natCast_mul nw nh; omega
        have hq1 : (sizeErr nw nh != 0) = false := by simp [hq]
        have Hq := Lib.hid hq
        clear hz
        go_enter Try.func43, Try.ntmps43
        go_wp2_with fail
        refine (checkBits_any _ _ _ _ _ _).mono ?_
        rintro e w4 ⟨rfl, hb4⟩
        rw [hp]
        have k1 := (w31.bl hb4).all3
        have kt := (w32.bl hb4).all1
        have k2 := (w33.bl hb4).all3
        have hle := w3b.trans hb4
        have hP : Paints Try.prog 114 #[.pointer (some ⟨w.heap.size, 0, none⟩), .pointer (some ⟨w.heap.size + 1, 0, none⟩)] Value.bool w4 nw nh (growF bs W t) :=
          ⟨enters Try.func114 (by kernel_rfl) rfl, fun wx x y hb hx hy => grow1_any _ _ W H t A c bs x y wx ((w31.bl hb4).bl hb) ((w32.bl hb4).bl hb) ((hr.bl hle).bl hb) hW4.1 hH4.1 t1.1 t1.2 (by rw [← Hnw.out]; exact hx) (by rw [← Hnh.out]; exact hy)⟩
        have HP := Lib.hid hP
        clear hP
        go_wp2_with (go_at_call 113; refine (checkSize_any _ _ _).mono ?_; rintro e w1 ⟨rfl, rfl⟩)
        refine (made_any nw nh _ _ _ _ (by omega) (by omega) hbd HP.out).mono ?_
        rintro e w6 ⟨r, rfl, hpg, hb6⟩
        have k2 := ((w33.bl hb4).bl hb6).all3
        have hle6 := hle.trans hb6
        have hsz3 := (w33.bl hb4).lt
        obtain ⟨R, rc, rfl, hR, hRn⟩ := hpg
        have hRn' : ∀ ad, R = some ad → w.heap.size + 3 ≤ ad.block := fun ad h => by have := hRn ad h; omega
        have HR := Lib.hid hR; have HRn := Lib.hid hRn'
        clear hR hRn hRn' hr
        go_wp2_with fail
        refine bodyPost_ret (v := .tuple #[.agg #[.int .i64 nw, .int .i64 nh, .slice R (nw * nh) rc], .int .i64 (sizeErr nw nh)]) (by simp [results, Try.results43, go_sem, k2, Hq.out]) rfl ⟨_, _, R, _, rc, rfl, Res.page Hq.out ?_ (fun ad h => by have := HRn.out ad h; omega), ?_⟩
        · exact ((HR.out.store HRn.out (by simp) _).store HRn.out (by simp) _).store HRn.out (by simp) _
        · exact ((hle6.setCell (by simp; omega) _).setCell (by simp; omega) _).setCell (by simp; omega) _
      · have hq1 : (sizeErr nw nh != 0) = true := by simp [hq]
        have Hq := Lib.hid hq
        clear hq
        go_enter Try.func43, Try.ntmps43
        go_wp2_with fail
        refine (checkBits_any _ _ _ _ _ _).mono ?_
        rintro e w4 ⟨rfl, hb4⟩
        rw [hp]
        have k1 := (w31.bl hb4).all3
        have kt := (w32.bl hb4).all1
        have k2 := (w33.bl hb4).all3
        have hle := w3b.trans hb4
        go_wp2_with (go_at_call 113; refine (checkSize_any _ _ _).mono ?_; rintro e w1 ⟨rfl, rfl⟩)
        refine bodyPost_ret (v := .tuple #[.agg #[.int .i64 0, .int .i64 0, .slice none 0 0], .int .i64 (sizeErr nw nh)]) (by simp [results, Try.results43, go_sem, k2]) rfl ⟨0, 0, none, 0, 0, rfl, Res.zero _ _ _ _ _ Hq.out, ?_⟩
        exact ((hle.setCell (by simp; omega) _).setCell (by simp; omega) _).setCell (by simp; omega) _
  · have hg : growErr W H n t = pageErr W H n := by unfold growErr; rw [if_neg h]
    have hq : (pageErr W H n != 0) = true := by simp [h]
    rw [hg]
    have Hh := Lib.hid h
    clear h hg
    go_enter Try.func43, Try.ntmps43
    go_wp2_with fail
    refine (checkBits_any _ _ _ _ _ _).mono ?_
    rintro e w4 ⟨rfl, hb4⟩
    have k2 := (w33.bl hb4).all3
    have hle := w3b.trans hb4
    go_wp2_with fail
    refine bodyPost_ret (v := .tuple #[.agg #[.int .i64 0, .int .i64 0, .slice none 0 0], .int .i64 (pageErr W H n)]) (by simp [results, Try.results43, go_sem, k2]) rfl ⟨0, 0, none, 0, 0, rfl, Res.zero _ _ _ _ _ Hh.out, ?_⟩
    exact ((hle.setCell (by simp; omega) _).setCell (by simp; omega) _).setCell (by simp; omega) _

set_option maxRecDepth 100000 in
set_option maxHeartbeats 400000 in
theorem turns51_any (p pt W H t : Nat) (A : Option Addr) (c : Nat) (bs : List Bool) (x y : Nat) (w : World) (hp : Blk w p 39 #[.int .i64 W, .int .i64 H, .slice A (W * H) c]) (ht : Blk w pt 3 #[.int .i64 t]) (hr : Reads w 1 A (W * H) (bs.map .bool)) (hW : W ≤ 4000) (hH : H ≤ 4000) (h1 : 1 ≤ t) (h2 : t ≤ 16) (hx : x < W * t) (hy : y < H * t) :
    Calls Try.prog 46 #[.int .i64 x, .int .i64 y, .pointer (some ⟨p, 0, none⟩), .pointer (some ⟨pt, 0, none⟩)] w fun e w' => e = .returned (.bool (growF bs W t x y)) ∧ Bl w w' := by
  have kp := hp.all3
  have kt := ht.all1
  obtain ⟨X, hXX⟩ : ∃ X, X = x / t := ⟨_, rfl⟩
  obtain ⟨Y, hYY⟩ : ∃ Y, Y = y / t := ⟨_, rfl⟩
  have hX : X < W := by rw [hXX]; exact nat_lt_div hx
  have hY : Y < H := by rw [hYY]; exact nat_lt_div hy
  unfold growF
  have ei : (x : Int) / (t : Int) = (X : Int) := by rw [hXX]; simp
  have ej : (y : Int) / (t : Int) = (Y : Int) := by rw [hYY]; simp
  rw [← hXX, ← hYY]
  have hat := at_any W H A c bs (X : Int) (Y : Int) w.drew (hr.bl (Bl.refl _).drew) hW hH
  rw [atI_in bs W H X Y hX hY] at hat
  have t0 : ¬ (t = 0) := by omega
  have Hat := Lib.hid hat
  have HX := Lib.hid hXX; have HY := Lib.hid hYY
  clear hXX hYY hat hr hx hy
  go_enter Try.func46, Try.ntmps46
  go_wp2_with fail
  refine wp_region_flow [(true, 0), (true, 1), (true, 2), (true, 3), (true, 4), (true, 5), (true, 6), (false, 7), (true, 8)] (fun _ => false) (by kernel_rfl) (by kernel_rfl) (by kernel_rfl) (by kernel_rfl) ?_
  iterate 1
    apply Flow.calm2 _ _ rfl rfl
    · intro w' hb' K' hK'
      obtain ⟨hc', hf'⟩ := hb'.rule
      go_simp
      try go_ints
      exact hK'
    · intro K' hK'
      simp only [Act.put, List.setIfInBounds_toArray, List.set_cons_zero, List.set_cons_succ]
      exact hK'
  iterate 1
    apply Flow.mv _ rfl
    · intro K' hK'
      simp only [Act.put, Act.eval, List.setIfInBounds_toArray, List.set_cons_zero, List.set_cons_succ, arr_getD, List.getD_cons_zero]
      exact hK'
  iterate 1
    apply Flow.calm2 _ _ rfl rfl
    · intro w' hb' K' hK'
      obtain ⟨hc', hf'⟩ := hb'.rule
      go_simp
      try go_ints
      exact hK'
    · intro K' hK'
      simp only [Act.put, List.setIfInBounds_toArray, List.set_cons_zero, List.set_cons_succ]
      exact hK'
  iterate 1
    apply Flow.calm2 _ _ rfl rfl
    · intro w' hb' K' hK'
      obtain ⟨hc', hf'⟩ := hb'.rule
      go_simp
      try go_ints
      exact hK'
    · intro K' hK'
      simp only [Act.put, List.setIfInBounds_toArray, List.set_cons_zero, List.set_cons_succ]
      exact hK'
  iterate 1
    apply Flow.mv _ rfl
    · intro K' hK'
      simp only [Act.put, Act.eval, List.setIfInBounds_toArray, List.set_cons_zero, List.set_cons_succ, arr_getD, List.getD_cons_zero, List.getD_cons_succ]
      exact hK'
  iterate 1
    apply Flow.calm2 _ _ rfl rfl
    · intro w' hb' K' hK'
      obtain ⟨hc', hf'⟩ := hb'.rule
      go_simp
      try go_ints
      exact hK'
    · intro K' hK'
      simp only [Act.put, List.setIfInBounds_toArray, List.set_cons_zero, List.set_cons_succ]
      exact hK'
  iterate 1
    apply Flow.calm2 _ _ rfl rfl
    · intro w' hb' K' hK'
      obtain ⟨hc', hf'⟩ := hb'.rule
      go_simp
      try go_ints
      exact hK'
    · intro K' hK'
      simp only [Act.put, List.setIfInBounds_toArray, List.set_cons_zero, List.set_cons_succ]
      exact hK'
  apply Flow.move rfl
  go_wp2_with fail
  refine Hat.out.mono ?_
  rintro e w1 ⟨rfl, HB1⟩
  go_wp2_with fail
  refine ⟨fun _ => (by first | exact HB1 | exact Bl.refl _), ?_⟩
  iterate 1
    apply Flow.asg _ rfl
    · intro K' hK'
      simp only [Act.put, Act.eval, List.setIfInBounds_toArray, List.set_cons_zero, List.set_cons_succ, arr_getD, List.getD_cons_zero, List.getD_cons_succ]
      exact hK'
  refine Flow.done ?_
  go_wp2_with fail
  go_ret
  exact ⟨rfl, ((Bl.refl _).drew).trans HB1⟩

set_option maxRecDepth 100000 in
set_option maxHeartbeats 1000000 in
theorem turns5_makes (p pt W H t nw nh : Nat) (A : Option Addr) (c : Nat) (bs : List Bool) (w : World) (hp : Blk w p 39 #[.int .i64 W, .int .i64 H, .slice A (W * H) c]) (ht : Blk w pt 3 #[.int .i64 t]) (hr : Reads w 1 A (W * H) (bs.map .bool)) (hW : W ≤ 4000) (hH : H ≤ 4000) (h1 : 1 ≤ t) (h2 : t ≤ 16) (hnw : nw = W * t) (hnh : nh = H * t) :
    MakesPage Try.prog 45 #[.pointer (some ⟨p, 0, none⟩), .pointer (some ⟨pt, 0, none⟩)] w nw nh ((grid nw nh (growF bs W t)).map .bool) := by
  refine ⟨enters Try.func45 (by kernel_rfl) rfl, fun wx hx => ?_⟩
  have hb5 : Bl wx (wx.alloc (.cells #[.int .i64 0, .int .i64 0, .slice none 0 0] 39)) := (Bl.refl wx).alloc _
  have hxx := hx.trans hb5
  have k1 := (hp.bl hxx).all3
  have kt := (ht.bl hxx).all1
  have l1 := (hp.bl hx).lt
  have l2 := (ht.bl hx).lt
  have kr := Blk.new wx 39 #[.int .i64 0, .int .i64 0, .slice none 0 0]
  have uw : nw ≤ 64000 := by rw [hnw]; exact Nat.mul_le_mul hW h2
  have uh : nh ≤ 64000 := by rw [hnh]; exact Nat.mul_le_mul hH h2
  have hbd : nw * nh ≤ 4096000000 := by have := Nat.mul_le_mul uw uh; omega
  have ew : (W : Int) * (t : Int) = (nw : Int) := by rw [hnw]; simp
  have eh : (H : Int) * (t : Int) = (nh : Int) := by rw [hnh]; simp
  have hP : Paints Try.prog 46 #[.pointer (some ⟨p, 0, none⟩), .pointer (some ⟨pt, 0, none⟩)] Value.bool (wx.alloc (.cells #[.int .i64 0, .int .i64 0, .slice none 0 0] 39)) nw nh (growF bs W t) :=
    ⟨enters Try.func46 (by kernel_rfl) rfl, fun wy x y hb hx hy => turns51_any _ _ W H t A c bs x y wy ((hp.bl hxx).bl hb) ((ht.bl hxx).bl hb) ((hr.bl hxx).bl hb) hW hH h1 h2 (by rw [← hnw]; exact hx) (by rw [← hnh]; exact hy)⟩
  have HP := Lib.hid hP
  have Hnw := Lib.hid hnw; have Hnh := Lib.hid hnh
  clear hP hr hp ht hnw hnh
  go_enter Try.func45, Try.ntmps45
  go_wp2_with fail
  refine (Made_any nw nh _ _ _ _ (by omega) (by omega) (by omega) HP.out).mono ?_
  rintro e w6 ⟨r, rfl, hpg, hb6⟩
  have kr3 := (kr.bl hb6).all3
  obtain ⟨R, rc, rfl, hR, hRn⟩ := hpg
  have hRn' : ∀ ad, R = some ad → wx.heap.size + 1 ≤ ad.block := by simpa using hRn
  go_wp2_with fail
  refine bodyPost_ret (v := .agg #[.int .i64 nw, .int .i64 nh, .slice R (nw * nh) rc]) (by simp [results, Try.results45, go_sem, kr3]) rfl ⟨_, rfl, ⟨R, rc, rfl, ?_⟩, ?_⟩
  · exact ((hR.store hRn' (by simp) _).store hRn' (by simp) _).store hRn' (by simp) _
  · exact ((((hb5.trans hb6).setCell (by simp) _).setCell (by simp) _).setCell (by simp) _)

end Go.Proofs.Ytldmofdidgibhaa
