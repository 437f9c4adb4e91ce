/- bedref2.ProfileOf and Square. -/
import Derived.Test.YtccgncjncklheaaLeanOf
import Derived.Test.YtccgncjncklheaaSkew4
namespace Go.Proofs.Ytccgncjncklheaa
open Go.RowKit

set_option maxRecDepth 100000 in
set_option maxHeartbeats 1000000 in
theorem square_any (A : Option Addr) (N c : Nat) (f : Nat → Int) (w : World) (hr : Reads w 1 A N ((tabL N f).map (.int .i64))) (hN : N ≤ 16000) (hf : ∀ k, 0 ≤ f k ∧ f k ≤ 1048576) :
    Calls Try.prog 63 #[.slice A N c] w fun e w' => e = .returned (.int .i64 (sqN f N)) ∧ w = w' := by
  have Hf := Lib.hid hf
  clear hf
  go_enter Try.func63, Try.ntmps63
  go_wp2_with fail
  go_loop [3, 8] (fun s u => ∃ k : Nat, k ≤ N ∧ u = .int .i64 k ∧ s = .int .i64 (sqN f k)) (fun _ u => N - (intOf u).toNat)
  case atStart => exact ⟨0, Nat.zero_le _, rfl, rfl⟩
  case round =>
    obtain ⟨k, hk, rfl, rfl⟩ := hrel
    by_cases hlt : k < N
    · obtain ⟨ad, rfl, hc⟩ := hr.intAt hlt
      have b1 := sqN_bd (b := 0) Hf.out k
      have b2 := Hf.out k
      have b3 : 0 ≤ f k * f k := Int.mul_nonneg b2.1 b2.1
      have b4 := Int.mul_le_mul b2.2 b2.2 b2.1 (by omega)
      go_wp2_with fail
      exact ⟨⟨k + 1, hlt, by go_num, rfl⟩, by simp [intOf]; omega⟩
    · obtain rfl : k = N := by omega
      go_wp2_with fail
      go_ret
      exact ⟨rfl, rfl⟩

theorem profC_le (bs : List Bool) (W H : Nat) (n : Int) (x y k : Nat) : profC bs W H n x y k ≤ x * H + y := by
  have h1 := sumN_le (f := fun x' => sumN (fun y' => b1 (bs.getD (y' * W + x') false && profK W H n k (y' * W + x'))) H) (c := H) (fun x' => by
    have := sumN_le (f := fun y' => b1 (bs.getD (y' * W + x') false && profK W H n k (y' * W + x'))) (c := 1) (fun i => by unfold b1; split <;> omega) H
    simpa using this) x
  have h2 := sumN_le (f := fun y' => b1 (bs.getD (y' * W + x) false && profK W H n k (y' * W + x))) (c := 1) (fun i => by unfold b1; split <;> omega) y
  unfold profC
  omega
theorem profC_here {bs : List Bool} {W H : Nat} {n : Int} {x y : Nat} (hx : x < W) (k : Nat) :
    profC bs W H n x (y + 1) k = profC bs W H n x y k + b1 (pix bs W x y && decide (((H / 2 : Nat) : Int) + (y : Int) + leanI W n x = (k : Int))) := by
  obtain ⟨p1, p2⟩ := at_parts y hx
  rw [profC_step]
  unfold profK profAt
  rw [p1, p2]
  rfl

set_option maxRecDepth 100000 in
set_option maxHeartbeats 4000000 in
theorem profileOf_any (W H : Nat) (A : Option Addr) (ac : Nat) (bs : List Bool) (n : Int) (w : World) (hA : Reads w 1 A (W * H) (bs.map .bool)) (hW : W ≤ 4000) (hH : 1 ≤ H ∧ H ≤ 4000) (hn : -256 ≤ n ∧ n ≤ 256) :
    Calls Try.prog 59 #[.agg #[.int .i64 W, .int .i64 H, .slice A (W * H) ac], .int .i64 n] w fun e w' =>
      ∃ g, e = .returned (.slice (some ⟨g, 0, none⟩) (2 * H) (2 * H)) ∧ Blk w' g 3 (tabI (2 * H) (profI bs W H n)) ∧ Bl w w' := by
  let w2 := (w).alloc (.cells #[.int .i64 W, .int .i64 H, .slice A (W * H) ac] 39)
  have w2b : Bl w w2 := (Bl.refl w).alloc _
  have w21 : Blk w2 (w.heap.size) 39 #[.int .i64 W, .int .i64 H, .slice A (W * H) ac] := by
    have h0 := Blk.new (w) 39 #[.int .i64 W, .int .i64 H, .slice A (W * H) ac]
    exact h0
  have k1 := w21.all3
  have lw2 : w2.heap.size = w.heap.size + 1 := by simp [w2]
  have hmk := run_make_row' (P := Try.prog) 25 3 (.int .i64 0) 8 Try.underlying25 info_int rfl .i64 .i64 (2 * H) (by omega) (by omega)
  have eH : 2 * (H : Int) = ((2 * H : Nat) : Int) := by simp
  rw [tabI_made, ← eH] at hmk
  have EH := Lib.hid eH
  have hA2 := hA.bl w2b
  have HA := Lib.hid hA2
  have start : Blk (w2.alloc (.cells (tabI (2 * H) fun _ => 0) 3)) (w.heap.size + 1) 3 (tabI (2 * H) fun k => ((profC bs W H n 0 0 k : Nat) : Int)) := by
    have := Blk.new w2 3 (tabI (2 * H) fun _ => 0)
    rw [lw2] at this
    exact this
  have Start := Lib.hid start
  clear eH hA hA2 start
  go_enter Try.func59, Try.ntmps59
  go_wp2_with fail
  go_loopw [15] (fun u wr => ∃ x : Nat, x ≤ W ∧ u = .int .i64 x ∧ Bl w2 wr ∧ Blk wr (w.heap.size + 1) 3 (tabI (2 * H) fun k => ((profC bs W H n x 0 k : Nat) : Int))) (fun u _ => W - (intOf u).toNat)
  case atStart => exact ⟨0, Nat.zero_le _, rfl, (Bl.refl _).alloc _, Start.out⟩
  case round =>
    clear k1
    obtain ⟨x, hx1, rfl, hbr, hbo⟩ := hrel
    have k1 := (w21.bl hbr).all3
    by_cases hlt : x < W
    · go_wp2_with fail
      go_loopw [20] (fun u wr => ∃ y : Nat, y ≤ H ∧ u = .int .i64 y ∧ Bl w2 wr ∧ Blk wr (w.heap.size + 1) 3 (tabI (2 * H) fun k => ((profC bs W H n x y k : Nat) : Int))) (fun u _ => H - (intOf u).toNat)
      case atStart => exact ⟨0, Nat.zero_le _, rfl, hbr, hbo⟩
      case round =>
        clear k1 hbr hbo
        rename_i wo _ _
        obtain ⟨y, hy1, rfl, hbr, hbo⟩ := hrel
        have k1 := (w21.bl hbr).all3
        by_cases hlt2 : y < H
        · have hstep := fun k => profC_here (bs := bs) (H := H) (n := n) (y := y) hlt k
          have hle := fun k => profC_le bs W H n x y k
          have hbd := leanI_bd hW hn hlt
          have hfall := fun w1 => fall_any W (H : Int) A (W * H) ac n x w1 hW hn hlt
          obtain ⟨la, hla⟩ : ∃ l, l = leanI W n x := ⟨_, rfl⟩
          rw [← hla] at hbd hstep
          simp only [← hla] at hfall
          obtain ⟨hh, hhh⟩ : ∃ h, h = H / 2 := ⟨_, rfl⟩
          rw [← hhh] at hstep
          have e5 : (H : Int) / 2 = (hh : Int) := by omega
          have e6 := hhh.symm
          obtain ⟨at_, hat_⟩ : ∃ n : Int, (hh : Int) + (y : Int) + la = n := ⟨_, rfl⟩
          rw [hat_] at hstep
          have bat : -5000 ≤ at_ ∧ at_ ≤ 15000 := by omega
          have bhh : hh ≤ 4000 := by omega
          have hxH : x * H ≤ 16000000 := by have := Nat.mul_le_mul (show x ≤ 4000 by omega) hH.2; omega
          have hatc := fun w1 (h1 : Bl wr w1) => at_any W H A ac bs (x : Int) (y : Int) w1 ((HA.out.bl hbr).bl h1) hW hH.2
          rw [atI_in bs W H x y hlt hlt2] at hatc
          obtain ⟨va, hva⟩ : ∃ v, v = pix bs W x y := ⟨_, rfl⟩
          rw [← hva] at hstep hatc
          have Hstep := Lib.hid hstep; have Hle := Lib.hid hle; have Hfall := Lib.hid hfall; have Hatc := Lib.hid hatc
          clear hstep hle hfall hatc hla hhh hva
          go_wp2_with fail
          refine wp_region_flow [(true, 0), (true, 1), (true, 2), (true, 3), (true, 4), (true, 5), (true, 6), (true, 7), (false, 8), (true, 9), (true, 10)] (fun _ => false) (by kernel_rfl) (by kernel_rfl) (by kernel_rfl) (by kernel_rfl) ?_
          iterate 1
            apply Flow.calm2 _ _ rfl rfl
            · intro w' hb' K' hK'
              obtain ⟨hc', hf'⟩ := hb'.rule
              go_simp
              try go_ints
              exact hK'
            · intro K' hK'
              simp only [Act.put, List.setIfInBounds_toArray, List.set_cons_zero, List.set_cons_succ]
              exact hK'
          iterate 1
            apply Flow.calm2 _ _ rfl rfl
            · intro w' hb' K' hK'
              obtain ⟨hc', hf'⟩ := hb'.rule
              go_simp
              try go_ints
              exact hK'
            · intro K' hK'
              simp only [Act.put, List.setIfInBounds_toArray, List.set_cons_zero, List.set_cons_succ]
              exact hK'
          iterate 1
            apply Flow.calm2 _ _ rfl rfl
            · intro w' hb' K' hK'
              obtain ⟨hc', hf'⟩ := hb'.rule
              go_simp
              try go_ints
              exact hK'
            · intro K' hK'
              simp only [Act.put, List.setIfInBounds_toArray, List.set_cons_zero, List.set_cons_succ]
              exact hK'
          iterate 1
            apply Flow.mv _ rfl
            · intro K' hK'
              simp only [Act.put, Act.eval, List.setIfInBounds_toArray, List.set_cons_zero, List.set_cons_succ, arr_getD, List.getD_cons_zero, List.getD_cons_succ]
              exact hK'
          iterate 1
            apply Flow.calm2 _ _ rfl rfl
            · intro w' hb' K' hK'
              obtain ⟨hc', hf'⟩ := hb'.rule
              go_simp
              try go_ints
              exact hK'
            · intro K' hK'
              simp only [Act.put, List.setIfInBounds_toArray, List.set_cons_zero, List.set_cons_succ]
              exact hK'
          iterate 1
            apply Flow.calm2 _ _ rfl rfl
            · intro w' hb' K' hK'
              obtain ⟨hc', hf'⟩ := hb'.rule
              go_simp
              try go_ints
              exact hK'
            · intro K' hK'
              simp only [Act.put, List.setIfInBounds_toArray, List.set_cons_zero, List.set_cons_succ]
              exact hK'
          iterate 2
            apply Flow.mv _ rfl
            · intro K' hK'
              simp only [Act.put, Act.eval, List.setIfInBounds_toArray, List.set_cons_zero, List.set_cons_succ, arr_getD, List.getD_cons_zero, List.getD_cons_succ]
              exact hK'
          apply Flow.move rfl
          go_wp2_with fail
          refine (Hfall.out _).mono ?_
          rintro e w3 ⟨rfl, HB1⟩
          go_wp2_with fail
          refine ⟨fun _ => (by first | exact HB1 | exact Bl.refl _), ?_⟩
          iterate 1
            apply Flow.calm2 _ _ rfl rfl
            · intro w' hb' K' hK'
              obtain ⟨hc', hf'⟩ := hb'.rule
              go_simp
              try go_ints
              exact hK'
            · intro K' hK'
              simp only [Act.put, List.setIfInBounds_toArray, List.set_cons_zero, List.set_cons_succ]
              exact hK'
          iterate 1
            apply Flow.asg _ rfl
            · intro K' hK'
              simp only [Act.put, Act.eval, List.setIfInBounds_toArray, List.set_cons_zero, List.set_cons_succ, arr_getD, List.getD_cons_zero, List.getD_cons_succ]
              exact hK'
          refine Flow.done ?_
          have hb3 : Bl wr w3 := Bl.ofDrew HB1
          have k3 := (w21.bl (hbr.trans hb3)).all3
          clear k1
          go_wp2_with fail
          refine (Hatc.out _ hb3).mono ?_
          rintro e w4 ⟨rfl, hb4⟩
          have hbr4 := (hbr.trans hb3).trans hb4
          have hbo4 := (hbo.bl hb3).bl hb4
          clear k3 hbr hbo hb3 hb4 HB1
          cases va
          · have hsame : tabI (2 * H) (fun k => ((profC bs W H n x y k : Nat) : Int)) = tabI (2 * H) (fun k => ((profC bs W H n x (y + 1) k : Nat) : Int)) :=
              tabI_congr fun k _ => by rw [Hstep.out k]; simp [b1]
            rw [hsame] at hbo4
            clear hsame
            go_wp2_with fail
            exact ⟨⟨y + 1, hlt2, by go_num, hbr4, hbo4⟩, by simp [intOf]; omega⟩
          · by_cases hin : 0 ≤ at_ ∧ at_ < 2 * (H : Int)
            · have hinb : inB at_ 0 (2 * (H : Int) - 1) = true := inB_true.2 (by omega)
              obtain ⟨a, rfl⟩ := Int.eq_ofNat_of_zero_le hin.1
              have ha : a < 2 * H := by omega
              have kc := hbo4.tabAt ha
              have kf := hbo4.frozen a
              have hset := hbo4.tabSet (f' := fun k => ((profC bs W H n x (y + 1) k : Nat) : Int)) a (((profC bs W H n x y a : Nat) : Int) + 1) (fun k hk => by
                rw [Hstep.out k]
                by_cases e : k = a
                · subst e; simp [b1]
                · have : ¬ ((a : Int) = (k : Int)) := by omega
                  simp [e, this, b1])
              have hcb := Hle.out a
              obtain ⟨c, hc⟩ : ∃ c, c = profC bs W H n x y a := ⟨_, rfl⟩
              rw [← hc] at kc hset hcb
              have Hset := Lib.hid hset
              clear hset hc
              have hin2 := hin.2
              go_wp2_with (go_at_call 15; refine (in_any _ _ _ _).mono ?_; rintro e w' ⟨rfl, rfl⟩)
              exact ⟨⟨y + 1, hlt2, by go_num, hbr4.setCell (by simp; omega) _, Hset.out⟩, by simp [intOf]; omega⟩
            · have hinb : inB at_ 0 (2 * (H : Int) - 1) = false := inB_false.2 (by omega)
              have hsame : tabI (2 * H) (fun k => ((profC bs W H n x y k : Nat) : Int)) = tabI (2 * H) (fun k => ((profC bs W H n x (y + 1) k : Nat) : Int)) :=
                tabI_congr fun k hk => by
                  have hx : ¬ (at_ = (k : Int)) := by omega
                  rw [Hstep.out k]; simp [b1, hx]
              rw [hsame] at hbo4
              clear hsame
              go_wp2_with (go_at_call 15; refine (in_any _ _ _ _).mono ?_; rintro e w' ⟨rfl, rfl⟩)
              exact ⟨⟨y + 1, hlt2, by go_num, hbr4, hbo4⟩, by simp [intOf]; omega⟩
        · obtain rfl : y = H := by omega
          go_wp2_with fail
          exact ⟨⟨x + 1, hlt, by go_num, hbr, hbo⟩, by simp [intOf]; omega⟩
    · obtain rfl : x = W := by omega
      have e : tabI (2 * H) (fun k => ((profC bs x H n x 0 k : Nat) : Int)) = tabI (2 * H) (profI bs x H n) := tabI_congr fun k _ => by rw [profC_end]; rfl
      rw [e] at hbo
      go_wp2_with fail
      go_ret
      exact ⟨_, rfl, hbo, w2b.trans hbr⟩

end Go.Proofs.Ytccgncjncklheaa
