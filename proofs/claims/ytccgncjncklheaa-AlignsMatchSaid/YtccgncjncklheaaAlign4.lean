/- skew.Align: the search. -/
import Derived.Test.YtccgncjncklheaaAlign3
namespace Go.Proofs.Ytccgncjncklheaa
open Go.RowKit

def cntAll (bs cs : List Bool) (W H : Nat) (dx dy : Int) : Nat := cntD bs cs W H dx dy (W * H)
theorem StA.bd {num : Nat → Nat} {r m : Nat} {x y n : Int} (h : StA num r m x y n) (hm : m ≤ (2 * r + 1) * (2 * r + 1)) (hr : r ≤ 8) : (-8 ≤ x ∧ x ≤ 8) ∧ (-8 ≤ y ∧ y ≤ 8) := by
  rcases h with ⟨_, rfl, rfl, _⟩ | ⟨b, hb, rfl, rfl, _⟩
  · omega
  · have h1 : b % (2 * r + 1) < 2 * r + 1 := Nat.mod_lt _ (by omega)
    have h2 : b / (2 * r + 1) < 2 * r + 1 := Nat.div_lt_of_lt_mul (Nat.lt_of_lt_of_le hb.1 hm)
    unfold dxOf dyOf
    generalize b % (2 * r + 1) = p at h1 ⊢
    generalize b / (2 * r + 1) = q at h2 ⊢
    omega
/-- Where the second page's place lies. -/
theorem atI_ways (cs : List Bool) (W H : Nat) (x y : Int) : (atI cs W H x y = false ∧ (x < 0 ∨ (0 ≤ x ∧ (W : Int) ≤ x) ∨ (0 ≤ x ∧ x < W ∧ y < 0) ∨ (0 ≤ x ∧ x < W ∧ 0 ≤ y ∧ (H : Int) ≤ y))) ∨
    ∃ X Y : Nat, x = (X : Int) ∧ y = (Y : Int) ∧ X < W ∧ Y < H ∧ atI cs W H x y = pix cs W X Y := by
  by_cases c : 0 ≤ x ∧ x < W ∧ 0 ≤ y ∧ y < H
  · obtain ⟨c1, c2, c3, c4⟩ := c
    obtain ⟨X, rfl⟩ := Int.eq_ofNat_of_zero_le c1
    obtain ⟨Y, rfl⟩ := Int.eq_ofNat_of_zero_le c3
    exact Or.inr ⟨X, Y, rfl, rfl, by omega, by omega, atI_in cs W H X Y (by omega) (by omega)⟩
  · exact Or.inl ⟨atI_out cs W H x y c, by omega⟩

set_option maxRecDepth 100000 in
set_option maxHeartbeats 8000000 in
theorem align_ok (W H : Nat) (A C : Option Addr) (ac cc : Nat) (bs cs : List Bool) (r : Nat) (w : World) (hA : Reads w 1 A (W * H) (bs.map .bool)) (hC : Reads w 1 C (W * H) (cs.map .bool)) (hs : sizeErr W H = 0) (hr : r ≤ 8) :
    Calls Try.prog 47 #[.agg #[.int .i64 W, .int .i64 H, .slice A (W * H) ac], .agg #[.int .i64 W, .int .i64 H, .slice C (W * H) cc], .int .i64 r] w
      fun e w' => ∃ X Y N, e = .returned (.tuple #[.int .i64 X, .int .i64 Y, .int .i64 N, .int .i64 0]) ∧ StA (numOf (cntAll bs cs W H) r) r ((2 * r + 1) * (2 * r + 1)) X Y N ∧ Bl w w' := by
  have h0 : pageErr W H (W * H) = 0 := by unfold pageErr; rw [if_pos hs, if_pos (by simp)]
  have hz := sizeErr_zero hs
  have ub : W ≤ 4000 ∧ H ≤ 4000 ∧ 1 ≤ W ∧ 1 ≤ H := by omega
  have hbd : W * H ≤ 1048576 := by have := Int.natCast_mul W H; omega
  have hpos : 0 < W * H := Nat.mul_pos (by omega) (by omega)
  have st0 : StA (numOf (cntAll bs cs W H) r) r 0 0 0 (-1) := Or.inl ⟨rfl, rfl, rfl, rfl⟩
  have St0 := Lib.hid st0; have Hs := Lib.hid hs
  clear hz st0 hs
  let w3 := (((w).alloc (.cells #[.int .i64 W, .int .i64 H, .slice A (W * H) ac] 39)).alloc (.cells #[.int .i64 W, .int .i64 H, .slice C (W * H) cc] 39)).alloc (.cells #[.int .i64 W, .int .i64 H, .slice A (W * H) ac, .int .i64 W, .int .i64 H, .slice C (W * H) cc] 39)
  have w3b : Bl w w3 := (((Bl.refl w).alloc _).alloc _).alloc _
  have w31 : Blk w3 (w.heap.size) 39 #[.int .i64 W, .int .i64 H, .slice A (W * H) ac] := by
    have h0 := Blk.new (w) 39 #[.int .i64 W, .int .i64 H, .slice A (W * H) ac]
    exact ((h0.alloc _).alloc _)
  have w32 : Blk w3 (w.heap.size + 1) 39 #[.int .i64 W, .int .i64 H, .slice C (W * H) cc] := by
    have h0 := Blk.new ((w).alloc (.cells #[.int .i64 W, .int .i64 H, .slice A (W * H) ac] 39)) 39 #[.int .i64 W, .int .i64 H, .slice C (W * H) cc]
    simp only [World.size_alloc] at h0
    exact (h0.alloc _)
  have w33 : Blk w3 (w.heap.size + 1 + 1) 39 #[.int .i64 W, .int .i64 H, .slice A (W * H) ac, .int .i64 W, .int .i64 H, .slice C (W * H) cc] := by
    have h0 := Blk.new (((w).alloc (.cells #[.int .i64 W, .int .i64 H, .slice A (W * H) ac] 39)).alloc (.cells #[.int .i64 W, .int .i64 H, .slice C (W * H) cc] 39)) 39 #[.int .i64 W, .int .i64 H, .slice A (W * H) ac, .int .i64 W, .int .i64 H, .slice C (W * H) cc]
    simp only [World.size_alloc] at h0
    exact h0
  go_enter Try.func47, Try.ntmps47
  go_wp2_with fail
  refine wp_loop_rounds 3 ?_
  rw [rounds_succ]
  go_wp2_with fail
  refine (checkBits_any _ _ _ _ _ _).mono ?_
  rintro e w7 ⟨rfl, hb7⟩
  have hb67 : Bl w3 w7 := ((Bl.refl w3).alloc _).trans hb7
  have a6 := (w33.bl hb67).all6
  have l7 : w.heap.size + 2 < w7.heap.size := by have := (w33.bl hb67).lt; simpa using this
  go_wp2_with fail
  rw [rounds_succ]
  go_wp2_with fail
  refine (checkBits_any _ _ _ _ _ _).mono ?_
  rintro e w8 ⟨rfl, hb8⟩
  have hb68 : Bl w3 w8 := (hb67.alloc _).trans hb8
  have q1 := (w31.bl hb68).all3
  have q2 := (w32.bl hb68).all3
  have hb8w := w3b.trans hb68
  have B1 := w31.bl hb68
  have B2 := w32.bl hb68
  have hA8 := hA.bl hb8w
  have hC8 := hC.bl hb8w
  have HA8 := Lib.hid hA8; have HC8 := Lib.hid hC8
  clear hA8 hC8 hA hC
  go_wp2_with fail
  rw [rounds_succ]
  go_wp2_with fail
  clear q1 q2
  go_loopw [13, 14, 15, 16] (fun a b c u wr => ∃ (v : Nat) (X Y N : Int), v ≤ 2 * r + 1 ∧ u = .int .i64 ((v : Int) - r) ∧ a = .int .i64 X ∧ b = .int .i64 Y ∧ c = .int .i64 N ∧ Hid (StA (numOf (cntAll bs cs W H) r) r (v * (2 * r + 1)) X Y N) ∧ Bl w8 wr) (fun _ _ _ u _ => (r + 1 - intOf u).toNat)
  case atStart => exact ⟨0, 0, 0, -1, Nat.zero_le _, by simp, rfl, rfl, rfl, by rw [Nat.zero_mul]; exact St0, Bl.refl _⟩
  case round =>
    obtain ⟨v, X, Y, N, hv, rfl, rfl, rfl, rfl, hst, hbr⟩ := hrel
    by_cases hlt : v < 2 * r + 1
    · have d1 : decide ((v : Int) - (r : Int) ≤ (r : Int)) = true := by simp; omega
      go_wp2_with fail
      go_loopw [13, 14, 15, 17] (fun a b c u wr => ∃ (x : Nat) (X Y N : Int), x ≤ 2 * r + 1 ∧ u = .int .i64 ((x : Int) - r) ∧ a = .int .i64 X ∧ b = .int .i64 Y ∧ c = .int .i64 N ∧ Hid (StA (numOf (cntAll bs cs W H) r) r (v * (2 * r + 1) + x) X Y N) ∧ Bl w8 wr) (fun _ _ _ u _ => (r + 1 - intOf u).toNat)
      case atStart => exact ⟨0, X, Y, N, Nat.zero_le _, by simp, rfl, rfl, rfl, hst, hbr⟩
      case round =>
        clear hst hbr
        rename_i wo _ _ _ _ _ _
        obtain ⟨x, X, Y, N, hx, rfl, rfl, rfl, rfl, hst, hbr⟩ := hrel
        by_cases hlt2 : x < 2 * r + 1
        · have d2 : decide ((x : Int) - (r : Int) ≤ (r : Int)) = true := by simp; omega
          have q1 := (B1.bl hbr).all3
          go_wp2_with fail
          go_loopw [18, 74] (fun n u wr => ∃ i : Nat, i ≤ W * H ∧ u = .int .i64 i ∧ n = .int .i64 (cntD bs cs W H ((x : Int) - r) ((v : Int) - r) i) ∧ Bl w8 wr) (fun _ u _ => W * H - (intOf u).toNat)
          case atStart => exact ⟨0, Nat.zero_le _, rfl, rfl, hbr⟩
          case round =>
            clear q1 hbr
            rename_i wo2 _ _ _ _
            obtain ⟨i, hi, rfl, rfl, hbr⟩ := hrel
            have q1 := (B1.bl hbr).all3
            have q2 := (B2.bl hbr).all3
            by_cases hlt3 : i < W * H
            · have hWp : ¬ (W = 0) := by rintro rfl; simp at hpos
              have mlt : i % W < W := Nat.mod_lt _ (by omega)
              have dlt : i / W < H := Nat.div_lt_of_lt_mul hlt3
              have il : (i : Int) < (W : Int) * (H : Int) := by have := Int.natCast_mul W H; omega
              obtain ⟨ad, ua, eA, hu, hca⟩ := (HA8.out.bl hbr).at_ hlt3
              have hua : ua = .bool (bs.getD i false) := by
                simp only [List.getElem?_map, Option.map_eq_some_iff] at hu
                obtain ⟨b, hb1, hb2⟩ := hu
                rw [← hb2, List.getD, hb1]; rfl
              clear hu
              subst hua eA
              obtain ⟨xi, hxi⟩ : ∃ n, n = i % W := ⟨_, rfl⟩
              obtain ⟨yi, hyi⟩ : ∃ n, n = i / W := ⟨_, rfl⟩
              obtain ⟨P, hP⟩ : ∃ P : Int, P = (xi : Int) - ((x : Int) - (r : Int)) := ⟨_, rfl⟩
              obtain ⟨Q, hQ⟩ : ∃ Q : Int, Q = (yi : Int) - ((v : Int) - (r : Int)) := ⟨_, rfl⟩
              have hstep : cntD bs cs W H ((x : Int) - r) ((v : Int) - r) (i + 1) = cntD bs cs W H ((x : Int) - r) ((v : Int) - r) i + (if (bs.getD i false != atI cs W H P Q) = true then 1 else 0) := by rw [hP, hQ, hxi, hyi]; rfl
              have hcl := cntD_le bs cs W H ((x : Int) - r) ((v : Int) - r) i
              obtain ⟨n, hn⟩ : ∃ n, n = cntD bs cs W H ((x : Int) - r) ((v : Int) - r) i := ⟨_, rfl⟩
              obtain ⟨va, hva⟩ : ∃ v, v = bs.getD i false := ⟨_, rfl⟩
              rw [← hn] at hstep hcl ⊢
              rw [← hva] at hstep hca
              have e1 : (i : Int) % (W : Int) = (xi : Int) := by rw [hxi]; simp
              have e2 : (i : Int) / (W : Int) = (yi : Int) := by rw [hyi]; simp
              have e3 := hxi.symm
              have e4 := hyi.symm
              rw [← hxi] at mlt
              rw [← hyi] at dlt
              have e5 := hP.symm
              have e6 := hQ.symm
              have bP : -5000 ≤ P ∧ P ≤ 5000 := by omega
              have bQ : -5000 ≤ Q ∧ Q ≤ 5000 := by omega
              have hw := atI_ways cs W H P Q
              have Hn := Lib.hid hn; have Hva := Lib.hid hva
              clear hxi hyi hP hQ hn hva
              rcases hw with ⟨ea, hw⟩ | ⟨X', Y', eX, eY, lX, lY, ea⟩
              · rw [ea] at hstep
                have Hstep := Lib.hid hstep
                clear hstep ea
                rcases hw with hw | hw | hw | hw
                all_goals
                  cases va
                  all_goals
                    go_wp2_with fail
                    refine wp_region_flow [(true, 0), (true, 1), (true, 2), (true, 3), (true, 4), (true, 5), (true, 6), (true, 7), (true, 8), (true, 9), (true, 10), (true, 11), (true, 12), (true, 13)] (fun _ => false) (by kernel_rfl) (by kernel_rfl) (by kernel_rfl) (by kernel_rfl) ?_
                    iterate 1
                      apply Flow.mv _ rfl
                      · intro K' hK'
                        simp only [Act.put, Act.eval, List.setIfInBounds_toArray, List.set_cons_zero, List.set_cons_succ, arr_getD, List.getD_cons_zero, List.getD_cons_succ]
                        exact hK'
                    iterate 1
                      apply Flow.calm2 _ _ rfl rfl
                      · intro w' hb' K' hK'
                        obtain ⟨hc', hf'⟩ := hb'.rule
                        go_simp
                        try go_ints
                        exact hK'
                      · intro K' hK'
                        simp only [Act.put, List.setIfInBounds_toArray, List.set_cons_zero, List.set_cons_succ]
                        exact hK'
                    iterate 1
                      apply Flow.calm2 _ _ rfl rfl
                      · intro w' hb' K' hK'
                        obtain ⟨hc', hf'⟩ := hb'.rule
                        go_simp
                        try go_ints
                        exact hK'
                      · intro K' hK'
                        simp only [Act.put, List.setIfInBounds_toArray, List.set_cons_zero, List.set_cons_succ]
                        exact hK'
                    iterate 1
                      apply Flow.calm2 _ _ rfl rfl
                      · intro w' hb' K' hK'
                        obtain ⟨hc', hf'⟩ := hb'.rule
                        go_simp
                        try go_ints
                        exact hK'
                      · intro K' hK'
                        simp only [Act.put, List.setIfInBounds_toArray, List.set_cons_zero, List.set_cons_succ]
                        exact hK'
                    iterate 1
                      apply Flow.mv _ rfl
                      · intro K' hK'
                        simp only [Act.put, Act.eval, List.setIfInBounds_toArray, List.set_cons_zero, List.set_cons_succ, arr_getD, List.getD_cons_zero, List.getD_cons_succ]
                        exact hK'
                    iterate 1
                      apply Flow.calm2 _ _ rfl rfl
                      · intro w' hb' K' hK'
                        obtain ⟨hc', hf'⟩ := hb'.rule
                        go_simp
                        try go_ints
                        exact hK'
                      · intro K' hK'
                        simp only [Act.put, List.setIfInBounds_toArray, List.set_cons_zero, List.set_cons_succ]
                        exact hK'
                    iterate 1
                      apply Flow.mv _ rfl
                      · intro K' hK'
                        simp only [Act.put, Act.eval, List.setIfInBounds_toArray, List.set_cons_zero, List.set_cons_succ, arr_getD, List.getD_cons_zero, List.getD_cons_succ]
                        exact hK'
                    iterate 1
                      apply Flow.calm2 _ _ rfl rfl
                      · intro w' hb' K' hK'
                        obtain ⟨hc', hf'⟩ := hb'.rule
                        go_simp
                        try go_ints
                        exact hK'
                      · intro K' hK'
                        simp only [Act.put, List.setIfInBounds_toArray, List.set_cons_zero, List.set_cons_succ]
                        exact hK'
                    iterate 1
                      apply Flow.calm2 _ _ rfl rfl
                      · intro w' hb' K' hK'
                        obtain ⟨hc', hf'⟩ := hb'.rule
                        go_simp
                        try go_ints
                        exact hK'
                      · intro K' hK'
                        simp only [Act.put, List.setIfInBounds_toArray, List.set_cons_zero, List.set_cons_succ]
                        exact hK'
                    iterate 1
                      apply Flow.calm2 _ _ rfl rfl
                      · intro w' hb' K' hK'
                        obtain ⟨hc', hf'⟩ := hb'.rule
                        go_simp
                        try go_ints
                        exact hK'
                      · intro K' hK'
                        simp only [Act.put, List.setIfInBounds_toArray, List.set_cons_zero, List.set_cons_succ]
                        exact hK'
                    iterate 1
                      apply Flow.mv _ rfl
                      · intro K' hK'
                        simp only [Act.put, Act.eval, List.setIfInBounds_toArray, List.set_cons_zero, List.set_cons_succ, arr_getD, List.getD_cons_zero, List.getD_cons_succ]
                        exact hK'
                    iterate 1
                      apply Flow.calm2 _ _ rfl rfl
                      · intro w' hb' K' hK'
                        obtain ⟨hc', hf'⟩ := hb'.rule
                        go_simp
                        try go_ints
                        exact hK'
                      · intro K' hK'
                        simp only [Act.put, List.setIfInBounds_toArray, List.set_cons_zero, List.set_cons_succ]
                        exact hK'
                    iterate 2
                      apply Flow.asg _ rfl
                      · intro K' hK'
                        simp only [Act.put, Act.eval, List.setIfInBounds_toArray, List.set_cons_zero, List.set_cons_succ, arr_getD, List.getD_cons_zero, List.getD_cons_succ]
                        exact hK'
                    refine Flow.done ?_
                    go_wp2_with fail
                    exact ⟨⟨i + 1, hlt3, by go_num, by rw [Hstep.out]; simp, hbr.trans (Bl.refl _).drew⟩, by simp [intOf]; omega⟩
              · rw [ea] at hstep
                obtain ⟨vb, hvb⟩ : ∃ v, v = pix cs W X' Y' := ⟨_, rfl⟩
                obtain ⟨cd, eC, hcc⟩ := (HC8.out.bl hbr).place lX lY
                subst eC
                rw [← hvb] at hstep hcc
                have hk := place_lt lX lY
                obtain ⟨k, hkk⟩ : ∃ k, k = Y' * W + X' := ⟨_, rfl⟩
                rw [← hkk] at hcc hk
                have f1 : (Y' : Int) * (W : Int) + (X' : Int) = (k : Int) := by rw [hkk]; simp
                have f2 : (k : Int) < (W : Int) * (H : Int) := by have := Int.natCast_mul W H; omega
                have f3 : (0 : Int) ≤ (Y' : Int) * (W : Int) ∧ (Y' : Int) * (W : Int) ≤ 16000000 := by
                  have := Int.natCast_mul Y' W
                  have := Nat.mul_le_mul (show Y' ≤ 4000 by omega) ub.1
                  omega
                subst eX eY
                have Hstep := Lib.hid hstep; have Hkk := Lib.hid hkk; have Hvb := Lib.hid hvb
                clear hstep ea hkk hvb
                cases va <;> cases vb
                all_goals
                  go_wp2_with fail
                  refine wp_region_flow [(true, 0), (true, 1), (true, 2), (true, 3), (true, 4), (true, 5), (true, 6), (true, 7), (true, 8), (true, 9), (true, 10), (true, 11), (true, 12), (true, 13)] (fun _ => false) (by kernel_rfl) (by kernel_rfl) (by kernel_rfl) (by kernel_rfl) ?_
                  iterate 1
                    apply Flow.mv _ rfl
                    · intro K' hK'
                      simp only [Act.put, Act.eval, List.setIfInBounds_toArray, List.set_cons_zero, List.set_cons_succ, arr_getD, List.getD_cons_zero, List.getD_cons_succ]
                      exact hK'
                  iterate 1
                    apply Flow.calm2 _ _ rfl rfl
                    · intro w' hb' K' hK'
                      obtain ⟨hc', hf'⟩ := hb'.rule
                      go_simp
                      try go_ints
                      exact hK'
                    · intro K' hK'
                      simp only [Act.put, List.setIfInBounds_toArray, List.set_cons_zero, List.set_cons_succ]
                      exact hK'
                  iterate 1
                    apply Flow.calm2 _ _ rfl rfl
                    · intro w' hb' K' hK'
                      obtain ⟨hc', hf'⟩ := hb'.rule
                      go_simp
                      try go_ints
                      exact hK'
                    · intro K' hK'
                      simp only [Act.put, List.setIfInBounds_toArray, List.set_cons_zero, List.set_cons_succ]
                      exact hK'
                  iterate 1
                    apply Flow.calm2 _ _ rfl rfl
                    · intro w' hb' K' hK'
                      obtain ⟨hc', hf'⟩ := hb'.rule
                      go_simp
                      try go_ints
                      exact hK'
                    · intro K' hK'
                      simp only [Act.put, List.setIfInBounds_toArray, List.set_cons_zero, List.set_cons_succ]
                      exact hK'
                  iterate 1
                    apply Flow.mv _ rfl
                    · intro K' hK'
                      simp only [Act.put, Act.eval, List.setIfInBounds_toArray, List.set_cons_zero, List.set_cons_succ, arr_getD, List.getD_cons_zero, List.getD_cons_succ]
                      exact hK'
                  iterate 1
                    apply Flow.calm2 _ _ rfl rfl
                    · intro w' hb' K' hK'
                      obtain ⟨hc', hf'⟩ := hb'.rule
                      go_simp
                      try go_ints
                      exact hK'
                    · intro K' hK'
                      simp only [Act.put, List.setIfInBounds_toArray, List.set_cons_zero, List.set_cons_succ]
                      exact hK'
                  iterate 1
                    apply Flow.mv _ rfl
                    · intro K' hK'
                      simp only [Act.put, Act.eval, List.setIfInBounds_toArray, List.set_cons_zero, List.set_cons_succ, arr_getD, List.getD_cons_zero, List.getD_cons_succ]
                      exact hK'
                  iterate 1
                    apply Flow.calm2 _ _ rfl rfl
                    · intro w' hb' K' hK'
                      obtain ⟨hc', hf'⟩ := hb'.rule
                      go_simp
                      try go_ints
                      exact hK'
                    · intro K' hK'
                      simp only [Act.put, List.setIfInBounds_toArray, List.set_cons_zero, List.set_cons_succ]
                      exact hK'
                  iterate 1
                    apply Flow.calm2 _ _ rfl rfl
                    · intro w' hb' K' hK'
                      obtain ⟨hc', hf'⟩ := hb'.rule
                      go_simp
                      try go_ints
                      exact hK'
                    · intro K' hK'
                      simp only [Act.put, List.setIfInBounds_toArray, List.set_cons_zero, List.set_cons_succ]
                      exact hK'
                  iterate 1
                    apply Flow.calm2 _ _ rfl rfl
                    · intro w' hb' K' hK'
                      obtain ⟨hc', hf'⟩ := hb'.rule
                      go_simp
                      try go_ints
                      exact hK'
                    · intro K' hK'
                      simp only [Act.put, List.setIfInBounds_toArray, List.set_cons_zero, List.set_cons_succ]
                      exact hK'
                  iterate 1
                    apply Flow.mv _ rfl
                    · intro K' hK'
                      simp only [Act.put, Act.eval, List.setIfInBounds_toArray, List.set_cons_zero, List.set_cons_succ, arr_getD, List.getD_cons_zero, List.getD_cons_succ]
                      exact hK'
                  iterate 1
                    apply Flow.calm2 _ _ rfl rfl
                    · intro w' hb' K' hK'
                      obtain ⟨hc', hf'⟩ := hb'.rule
                      go_simp
                      try go_ints
                      exact hK'
                    · intro K' hK'
                      simp only [Act.put, List.setIfInBounds_toArray, List.set_cons_zero, List.set_cons_succ]
                      exact hK'
                  iterate 2
                    apply Flow.asg _ rfl
                    · intro K' hK'
                      simp only [Act.put, Act.eval, List.setIfInBounds_toArray, List.set_cons_zero, List.set_cons_succ, arr_getD, List.getD_cons_zero, List.getD_cons_succ]
                      exact hK'
                  refine Flow.done ?_
                  go_wp2_with fail
                  exact ⟨⟨i + 1, hlt3, by go_num, by rw [Hstep.out]; simp, hbr.trans (Bl.refl _).drew⟩, by simp [intOf]; omega⟩
            · obtain rfl : i = W * H := by omega
              have edx := dxOf_at r v x hlt2
              have edy := dyOf_at r v x hlt2
              have hnum : numOf (cntAll bs cs W H) r (v * (2 * r + 1) + x) = cntD bs cs W H ((x : Int) - r) ((v : Int) - r) (W * H) := by unfold numOf cntAll; rw [edx, edy]
              have hm : v * (2 * r + 1) + x < (2 * r + 1) * (2 * r + 1) := place_lt hlt2 hlt
              have hbdx := hst.out.bd (by omega) hr
              have hstp := hst.out.step
              have hfar : (farOf r (v * (2 * r + 1) + x) : Int) = (((x : Int) - r).natAbs : Int) + (((v : Int) - r).natAbs : Int) := by unfold farOf; rw [edx, edy]; simp
              rw [hnum, hfar, edx, edy] at hstp
              have hnle := cntD_le bs cs W H ((x : Int) - r) ((v : Int) - r) (W * H)
              obtain ⟨n, hn⟩ : ∃ n, n = cntD bs cs W H ((x : Int) - r) ((v : Int) - r) (W * H) := ⟨_, rfl⟩
              rw [← hn] at hstp hnle ⊢
              obtain ⟨qa, hqa⟩ : ∃ q, q = ((x : Int) - r).natAbs := ⟨_, rfl⟩
              obtain ⟨qb, hqb⟩ : ∃ q, q = ((v : Int) - r).natAbs := ⟨_, rfl⟩
              obtain ⟨qx, hqx⟩ : ∃ q, q = X.natAbs := ⟨_, rfl⟩
              obtain ⟨qy, hqy⟩ : ∃ q, q = Y.natAbs := ⟨_, rfl⟩
              rw [← hqa, ← hqb, ← hqx, ← hqy] at hstp
              have a1 : (((x : Int) - r).natAbs : Int) = (qa : Int) := by rw [hqa]
              have a2 : (((v : Int) - r).natAbs : Int) = (qb : Int) := by rw [hqb]
              have a3 : (X.natAbs : Int) = (qx : Int) := by rw [hqx]
              have a4 : (Y.natAbs : Int) = (qy : Int) := by rw [hqy]
              have a5 : qa ≤ 100 ∧ qb ≤ 100 ∧ qx ≤ 100 ∧ qy ≤ 100 := by omega
              have b1 : -1000000 ≤ (x : Int) - r ∧ (x : Int) - r ≤ 1000000 := by omega
              have b2 : -1000000 ≤ (v : Int) - r ∧ (v : Int) - r ≤ 1000000 := by omega
              have Hn := Lib.hid hn
              clear hqa hqb hqx hqy hn hnum hm hfar edx edy hst
              rcases (show N < 0 ∨ (¬ N < 0 ∧ (n : Int) < N) ∨ (¬ N < 0 ∧ (n : Int) = N ∧ (qa : Int) + qb < qx + qy) ∨ (¬ N < 0 ∧ (n : Int) = N ∧ ¬ ((qa : Int) + qb < qx + qy)) ∨ (¬ N < 0 ∧ N < (n : Int)) by omega) with c1 | ⟨c1, c2⟩ | ⟨c1, c2, c3⟩ | ⟨c1, c2, c3⟩ | ⟨c1, c2⟩
              · have Hs := Lib.hid (hstp.1 (Or.inl c1))
                clear hstp
                go_wp2_with (go_at_call 115; refine (size_any _ _ (by omega)).mono ?_; rintro e w' ⟨rfl, rfl⟩)
                exact ⟨⟨x + 1, _, _, _, hlt2, by go_num, rfl, rfl, rfl, Hs, hbr⟩, by simp [intOf]; omega⟩
              · have Hs := Lib.hid (hstp.1 (Or.inr (Or.inl c2)))
                clear hstp
                go_wp2_with (go_at_call 115; refine (size_any _ _ (by omega)).mono ?_; rintro e w' ⟨rfl, rfl⟩)
                exact ⟨⟨x + 1, _, _, _, hlt2, by go_num, rfl, rfl, rfl, Hs, hbr⟩, by simp [intOf]; omega⟩
              · have Hs := Lib.hid (hstp.1 (Or.inr (Or.inr ⟨c2, c3⟩)))
                clear hstp
                subst c2
                go_wp2_with (go_at_call 115; refine (size_any _ _ (by omega)).mono ?_; rintro e w' ⟨rfl, rfl⟩)
                exact ⟨⟨x + 1, _, _, _, hlt2, by go_num, rfl, rfl, rfl, Hs, hbr⟩, by simp [intOf]; omega⟩
              · have Hs := Lib.hid (hstp.2 (by omega))
                clear hstp
                subst c2
                go_wp2_with (go_at_call 115; refine (size_any _ _ (by omega)).mono ?_; rintro e w' ⟨rfl, rfl⟩)
                exact ⟨⟨x + 1, _, _, _, hlt2, by go_num, rfl, rfl, rfl, Hs, hbr⟩, by simp [intOf]; omega⟩
              · have Hs := Lib.hid (hstp.2 (by omega))
                have c3 : ((n : Int) == N) = false := by simp; omega
                clear hstp
                go_wp2_with (go_at_call 115; refine (size_any _ _ (by omega)).mono ?_; rintro e w' ⟨rfl, rfl⟩)
                exact ⟨⟨x + 1, _, _, _, hlt2, by go_num, rfl, rfl, rfl, Hs, hbr⟩, by simp [intOf]; omega⟩
        · obtain rfl : x = 2 * r + 1 := by omega
          go_wp2_with fail
          exact ⟨⟨v + 1, X, Y, N, hlt, by go_num, rfl, rfl, rfl, by rw [Nat.add_mul, Nat.one_mul]; exact hst, hbr⟩, by simp [intOf]; omega⟩
    · obtain rfl : v = 2 * r + 1 := by omega
      go_wp2_with fail
      refine bodyPost_ret (v := .tuple #[.int .i64 X, .int .i64 Y, .int .i64 N, .int .i64 0]) (by simp [results, Try.results47, go_sem]) rfl ⟨X, Y, N, rfl, hst.out, hb8w.trans hbr⟩

end Go.Proofs.Ytccgncjncklheaa
