/- abs, size, DifferOf, and the closures of the law on aligning. -/
import Derived.Test.YtccgncjncklheaaAlignLaw
namespace Go.Proofs.Ytccgncjncklheaa
open Go.RowKit

set_option maxHeartbeats 400000 in
theorem abs_any (n : Int) (w : World) (h : -1000000 ≤ n ∧ n ≤ 1000000) : Calls Try.prog 116 #[.int .i64 n] w fun e w' => e = .returned (.int .i64 (n.natAbs : Int)) ∧ w = w' := by
  have h1 : (if n < -n then -n else n) = (n.natAbs : Int) := by split <;> omega
  have h2 : (if -n < n then n else -n) = (n.natAbs : Int) := by split <;> omega
  go_enter Try.func116, Try.ntmps116
  go_wp2
  go_ret
  exact ⟨rfl, rfl⟩
set_option maxHeartbeats 400000 in
theorem size_any (n : Int) (w : World) (h : -1000000 ≤ n ∧ n ≤ 1000000) : Calls Try.prog 115 #[.int .i64 n] w fun e w' => e = .returned (.int .i64 (n.natAbs : Int)) ∧ w = w' := by
  have h1 : (if n < -n then -n else n) = (n.natAbs : Int) := by split <;> omega
  have h2 : (if -n < n then n else -n) = (n.natAbs : Int) := by split <;> omega
  go_enter Try.func115, Try.ntmps115
  go_wp2
  go_ret
  exact ⟨rfl, rfl⟩

theorem cntD_succ (bs cs : List Bool) (W H : Nat) (dx dy : Int) (x y : Nat) (hx : x < W) (hy : y < H) :
    cntD bs cs W H dx dy (y * W + x + 1) = cntD bs cs W H dx dy (y * W + x) + (if (atI bs W H x y != atI cs W H ((x : Int) - dx) ((y : Int) - dy)) = true then 1 else 0) := by
  have ex : (y * W + x) % W = x := by rw [Nat.mul_comm, Nat.mul_add_mod, Nat.mod_eq_of_lt hx]
  have ey : (y * W + x) / W = y := by rw [Nat.mul_comm, Nat.mul_add_div (by omega), Nat.div_eq_of_lt hx, Nat.add_zero]
  have e : differs bs cs W H dx dy (y * W + x) = (atI bs W H x y != atI cs W H ((x : Int) - dx) ((y : Int) - dy)) := by
    unfold differs
    rw [ex, ey, atI_in bs W H x y hx hy]
    rfl
  rw [cntD, e]

set_option maxRecDepth 100000 in
set_option maxHeartbeats 1000000 in
theorem differOf_any (W H : Nat) (A C : Option Addr) (ac cc : Nat) (bs cs : List Bool) (dx dy : Int) (w : World) (hA : Reads w 1 A (W * H) (bs.map .bool)) (hC : Reads w 1 C (W * H) (cs.map .bool)) (hW : W ≤ 4000) (hH : H ≤ 4000)
    (hx : -8 ≤ dx ∧ dx ≤ 8) (hy : -8 ≤ dy ∧ dy ≤ 8) :
    Calls Try.prog 52 #[.agg #[.int .i64 W, .int .i64 H, .slice A (W * H) ac], .agg #[.int .i64 W, .int .i64 H, .slice C (W * H) cc], .int .i64 dx, .int .i64 dy] w
      fun e w' => e = .returned (.int .i64 (cntD bs cs W H dx dy (W * H))) ∧ Bl w w' := by
  let w2 := ((w).alloc (.cells #[.int .i64 W, .int .i64 H, .slice A (W * H) ac] 39)).alloc (.cells #[.int .i64 W, .int .i64 H, .slice C (W * H) cc] 39)
  have w2b : Bl w w2 := ((Bl.refl w).alloc _).alloc _
  have w21 : Blk w2 (w.heap.size) 39 #[.int .i64 W, .int .i64 H, .slice A (W * H) ac] := by
    have h0 := Blk.new (w) 39 #[.int .i64 W, .int .i64 H, .slice A (W * H) ac]
    exact (h0.alloc _)
  have w22 : Blk w2 (w.heap.size + 1) 39 #[.int .i64 W, .int .i64 H, .slice C (W * H) cc] := by
    have h0 := Blk.new ((w).alloc (.cells #[.int .i64 W, .int .i64 H, .slice A (W * H) ac] 39)) 39 #[.int .i64 W, .int .i64 H, .slice C (W * H) cc]
    simp only [World.size_alloc] at h0
    exact h0
  have k1 := w21.all3
  have hbd : W * H ≤ 16000000 := by have := Nat.mul_le_mul hW hH; omega
  go_enter Try.func52, Try.ntmps52
  go_wp2_with fail
  go_loopw [9, 14] (fun n u wr => ∃ y : Nat, y ≤ H ∧ u = .int .i64 y ∧ n = .int .i64 (cntD bs cs W H dx dy (y * W)) ∧ Bl w2 wr) (fun _ u _ => H - (intOf u).toNat)
  case atStart => exact ⟨0, Nat.zero_le _, rfl, by rw [Nat.zero_mul]; rfl, Bl.refl _⟩
  case round =>
    obtain ⟨y, hy1, rfl, rfl, hbr⟩ := hrel
    have k1 := (w21.bl hbr).all3
    by_cases hlt : y < H
    · go_wp2_with fail
      go_loopw [9, 19] (fun n u wr => ∃ x : Nat, x ≤ W ∧ u = .int .i64 x ∧ n = .int .i64 (cntD bs cs W H dx dy (y * W + x)) ∧ Bl w2 wr) (fun _ u _ => W - (intOf u).toNat)
      case atStart => exact ⟨0, Nat.zero_le _, rfl, rfl, hbr⟩
      case round =>
        clear k1 hbr
        rename_i wo _ _ _
        obtain ⟨x, hx1, rfl, rfl, hbr⟩ := hrel
        have k1 := (w21.bl hbr).all3
        have k2 := (w22.bl hbr).all3
        by_cases hlt2 : x < W
        · have hs := cntD_succ bs cs W H dx dy x y hlt2 hlt
          have hp := place_lt hlt2 hlt
          have hc := cntD_le bs cs W H dx dy (y * W + x)
          have ha1 := at_any W H A ac bs (x : Int) (y : Int) wr.drew (((hA.bl w2b).bl hbr).bl (Bl.refl _).drew) hW hH
          have ha2 := fun (w1 : World) (hb : Bl wr.drew w1) => at_any W H C cc cs ((x : Int) - dx) ((y : Int) - dy) w1 ((((hC.bl w2b).bl hbr).bl (Bl.refl _).drew).bl hb) hW hH
          obtain ⟨va, hva⟩ : ∃ v, v = atI bs W H x y := ⟨_, rfl⟩
          obtain ⟨vb, hvb⟩ : ∃ v, v = atI cs W H ((x : Int) - dx) ((y : Int) - dy) := ⟨_, rfl⟩
          obtain ⟨n0, hn0⟩ : ∃ n, n = cntD bs cs W H dx dy (y * W + x) := ⟨_, rfl⟩
          rw [← hva] at ha1
          rw [← hvb] at ha2
          rw [← hva, ← hvb, ← hn0] at hs
          rw [← hn0] at hc ⊢
          have Ha1 := Lib.hid ha1; have Ha2 := Lib.hid ha2; have Hs := Lib.hid hs; have Hn := Lib.hid hn0
          clear ha1 ha2 hva hvb hs hn0
          cases va <;> cases vb
          all_goals
            go_wp2_with fail
            refine wp_region_flow [(true, 0), (true, 1), (true, 2), (true, 4), (true, 5), (true, 6), (true, 7), (true, 8), (true, 9), (true, 10), (false, 3), (false, 11), (true, 12)] (fun _ => false) (by kernel_rfl) (by kernel_rfl) (by kernel_rfl) (by kernel_rfl) ?_
            iterate 1
              apply Flow.calm2 _ _ rfl rfl
              · intro w' hb' K' hK'
                obtain ⟨hc', hf'⟩ := hb'.rule
                go_simp
                try go_ints
                exact hK'
              · intro K' hK'
                simp only [Act.put, List.setIfInBounds_toArray, List.set_cons_zero, List.set_cons_succ]
                exact hK'
            iterate 2
              apply Flow.mv _ rfl
              · intro K' hK'
                simp only [Act.put, Act.eval, List.setIfInBounds_toArray, List.set_cons_zero, List.set_cons_succ, arr_getD, List.getD_cons_zero, List.getD_cons_succ]
                exact hK'
            iterate 1
              apply Flow.calm2 _ _ rfl rfl
              · intro w' hb' K' hK'
                obtain ⟨hc', hf'⟩ := hb'.rule
                go_simp
                try go_ints
                exact hK'
              · intro K' hK'
                simp only [Act.put, List.setIfInBounds_toArray, List.set_cons_zero, List.set_cons_succ]
                exact hK'
            iterate 2
              apply Flow.mv _ rfl
              · intro K' hK'
                simp only [Act.put, Act.eval, List.setIfInBounds_toArray, List.set_cons_zero, List.set_cons_succ, arr_getD, List.getD_cons_zero, List.getD_cons_succ]
                exact hK'
            iterate 1
              apply Flow.calm2 _ _ rfl rfl
              · intro w' hb' K' hK'
                obtain ⟨hc', hf'⟩ := hb'.rule
                go_simp
                try go_ints
                exact hK'
              · intro K' hK'
                simp only [Act.put, List.setIfInBounds_toArray, List.set_cons_zero, List.set_cons_succ]
                exact hK'
            iterate 2
              apply Flow.mv _ rfl
              · intro K' hK'
                simp only [Act.put, Act.eval, List.setIfInBounds_toArray, List.set_cons_zero, List.set_cons_succ, arr_getD, List.getD_cons_zero, List.getD_cons_succ]
                exact hK'
            iterate 1
              apply Flow.calm2 _ _ rfl rfl
              · intro w' hb' K' hK'
                obtain ⟨hc', hf'⟩ := hb'.rule
                go_simp
                try go_ints
                exact hK'
              · intro K' hK'
                simp only [Act.put, List.setIfInBounds_toArray, List.set_cons_zero, List.set_cons_succ]
                exact hK'
            apply Flow.move rfl
            go_wp2_with fail
            refine Ha1.out.mono ?_
            rintro e w1 ⟨rfl, HB1⟩
            go_wp2_with fail
            refine ⟨fun _ => (by first | exact HB1 | exact Bl.refl _), ?_⟩
            apply Flow.move rfl
            go_wp2_with fail
            refine (Ha2.out _ HB1).mono ?_
            rintro e w3 ⟨rfl, HB2⟩
            go_wp2_with fail
            refine ⟨fun _ => (by first | exact HB2 | exact Bl.refl _), ?_⟩
            iterate 1
              apply Flow.calm2 _ _ rfl rfl
              · intro w' hb' K' hK'
                obtain ⟨hc', hf'⟩ := hb'.rule
                go_simp
                try go_ints
                exact hK'
              · intro K' hK'
                simp only [Act.put, List.setIfInBounds_toArray, List.set_cons_zero, List.set_cons_succ]
                exact hK'
            refine Flow.done ?_
            go_wp2_with fail
            exact ⟨⟨x + 1, hlt2, by go_num, by have := Hs.out; simp at this; rw [← Nat.add_assoc, this]; try simp, ((hbr.trans (Bl.refl _).drew).trans HB1).trans HB2⟩, by simp [intOf]; omega⟩
        · go_wp2_with fail
          obtain rfl : x = W := by omega
          exact ⟨⟨y + 1, hlt, by go_num, by rw [Nat.add_mul, Nat.one_mul], hbr⟩, by simp [intOf]; omega⟩
    · obtain rfl : y = H := by omega
      go_wp2_with fail
      go_ret
      exact ⟨ret_int (by rw [Nat.mul_comm]), w2b.trans hbr⟩

end Go.Proofs.Ytccgncjncklheaa
