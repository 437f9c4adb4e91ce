/- Margins; bedref2.Moved and CutOf. -/
import Derived.Test.YtjelhdpcaileiaaGreatDoorS2

namespace Go.Proofs.YtjelhdpcaileiaaGreatDoor
open Go.RowKit

/-- The ink that is counted ahead of the i-th page. -/
def allT (cs bs : List Bool) (n m : Nat) : Nat → Nat
  | 0 => 0
  | 1 => tally cs n
  | _ => tally cs n + tally bs m
/-- A row of what meets. -/
def meetN (A B : Int → Int → Bool) (dx dy x0 : Int) (nx : Nat) (y : Int) : Nat := winN (fun x => b1 (A x y && B (x - dx) (y - dy))) x0 nx
theorem both_rows (A B : Int → Int → Bool) (W H W' H' : Nat) (dx dy : Int) : bothN A B W H W' H' dx dy = winN (meetN A B dx dy (max 0 dx) (overN (max 0 dx) (min (W : Int) ((W' : Int) + dx)))) (max 0 dy) (overN (max 0 dy) (min (H : Int) ((H' : Int) + dy))) := rfl
theorem pix_cell {w : World} {A : Option Addr} {n : Nat} {bs : List Bool} (h : Reads w 1 A n (bs.map .bool)) {k : Nat} (hk : k < n) : ∃ ad, A = some ad ∧ w.cell? (ad.add k) = some (.bool (bs.getD k false)) := by
  obtain ⟨ad, u, e, hu, hc⟩ := h.at_ hk
  refine ⟨ad, e, ?_⟩
  simp only [List.getElem?_map, Option.map_eq_some_iff] at hu
  obtain ⟨b, hb1, hb2⟩ := hu
  rw [hc, ← hb2, List.getD, hb1]
  rfl

set_option maxRecDepth 100000 in
set_option maxHeartbeats 8000000 in
theorem distance_any (W H W' H' r : Nat) (A B : Option Addr) (ac bc : Nat) (cs bs : List Bool) (w : World) (hA : Reads w 1 A (W * H) (cs.map .bool)) (hB : Reads w 1 B (W' * H') (bs.map .bool)) (hW : W ≤ 4000) (hH : H ≤ 4000) (hW' : W' ≤ 4000) (hH' : H' ≤ 4000) (hr : r ≤ 4) :
    Calls Tryz.prog 269 #[.agg #[.int .i64 W, .int .i64 H, .slice A (W * H) ac], .agg #[.int .i64 W', .int .i64 H', .slice B (W' * H') bc], .int .i64 r] w fun e w' => e = .returned (.int .i64 (farN (inkF cs W H) (inkF bs W' H') W H W' H' r)) ∧ Bl w w' := by
  let w2 := ((w).alloc (.cells #[.int .i64 W, .int .i64 H, .slice A (W * H) ac] 28)).alloc (.cells #[.int .i64 W', .int .i64 H', .slice B (W' * H') bc] 28)
  have w2b : Bl w w2 := ((Bl.refl w).alloc _).alloc _
  have w21 : Blk w2 (w.heap.size) 28 #[.int .i64 W, .int .i64 H, .slice A (W * H) ac] := by
    have h0 := Blk.new (w) 28 #[.int .i64 W, .int .i64 H, .slice A (W * H) ac]
    exact (h0.alloc _)
  have w22 : Blk w2 (w.heap.size + 1) 28 #[.int .i64 W', .int .i64 H', .slice B (W' * H') bc] := by
    have h0 := Blk.new ((w).alloc (.cells #[.int .i64 W, .int .i64 H, .slice A (W * H) ac] 28)) 28 #[.int .i64 W', .int .i64 H', .slice B (W' * H') bc]
    simp only [World.size_alloc] at h0
    exact h0
  have hA2 := hA.bl w2b
  have hB2 := hB.bl w2b
  have k1 := w21.all3
  have k2 := w22.all3
  have hn : W * H ≤ 16000000 := by have := Nat.mul_le_mul hW hH; omega
  have hm : W' * H' ≤ 16000000 := by have := Nat.mul_le_mul hW' hH'; omega
  have HA := Lib.hid hA2; have HB := Lib.hid hB2
  have t1 := tally_le cs (W * H)
  have t2 := tally_le bs (W' * H')
  have i0 : ∀ w : World, (Instr.index 372 (.agg #[.int .i64 W, .int .i64 H, .slice A (W * H) ac, .int .i64 W', .int .i64 H', .slice B (W' * H') bc]) (.int .i64 0)).run Tryz.prog w = .ok (.agg #[.int .i64 W, .int .i64 H, .slice A (W * H) ac]) w := fun _ => by kernel_rfl
  have i1 : ∀ w : World, (Instr.index 372 (.agg #[.int .i64 W, .int .i64 H, .slice A (W * H) ac, .int .i64 W', .int .i64 H', .slice B (W' * H') bc]) (.int .i64 1)).run Tryz.prog w = .ok (.agg #[.int .i64 W', .int .i64 H', .slice B (W' * H') bc]) w := fun _ => by kernel_rfl
  clear hA hB hA2 hB2
  go_enter Tryz.func269, Tryz.ntmps269
  go_wp2_with fail
  go_loopw [21, 7] (fun u v wr => ∃ i : Nat, i ≤ 2 ∧ u = .int .i64 i ∧ v = .int .i64 (allT cs bs (W * H) (W' * H') i : Nat) ∧ Bl w2 wr) (fun u _ _ => 2 - (RowKit.intOf u).toNat)
  case atStart => exact ⟨0, by omega, rfl, rfl, Bl.refl _⟩
  case round =>
    clear k1 k2
    obtain ⟨i, hi, rfl, rfl, hbr⟩ := hrel
    by_cases hlt : i < 2
    · have inner : ∀ (X : Option Addr) (q pre : Nat) (zs : List Bool), True := fun _ _ _ _ => trivial
      clear inner
      have hcase : i = 0 ∨ i = 1 := by omega
      rcases hcase with rfl | rfl
      · have e0 : allT cs bs (W * H) (W' * H') 0 = 0 := rfl
        rw [e0]
        go_wp2_with fail
        obtain ⟨w5, hw5⟩ : ∃ x, x = wr.alloc (.cells #[.int .i64 W, .int .i64 H, .slice A (W * H) ac] 28) := ⟨_, rfl⟩
        have hb5 : Bl wr w5 := by rw [hw5]; exact (Bl.refl _).alloc _
        rw [← hw5]
        clear hw5
        go_loopw [27, 7] (fun u v wx => ∃ k : Nat, k ≤ W * H ∧ u = .int .i64 k ∧ v = .int .i64 (tally cs k : Nat) ∧ Bl w5 wx) (fun u _ _ => W * H - (RowKit.intOf u).toNat)
        case atStart => exact ⟨0, Nat.zero_le _, rfl, rfl, Bl.refl _⟩
        case round =>
          rename World => wx
          obtain ⟨k, hk, rfl, rfl, hbx⟩ := hrel
          have hts := tally_succ cs k
          have htl := tally_le cs k
          obtain ⟨v, hv⟩ : ∃ v, v = tally cs k := ⟨_, rfl⟩
          rw [← hv] at hts htl ⊢
          have Hts := Lib.hid hts; have HVv := Lib.hid hv
          clear hts hv
          by_cases hkl : k < W * H
          · obtain ⟨ad, rfl, j1⟩ := pix_cell (HA.out.bl (hbr.trans (hb5.trans hbx))) hkl
            obtain ⟨bt, hbt⟩ : ∃ b, b = cs.getD k false := ⟨_, rfl⟩
            rw [← hbt] at j1
            have HBt := Lib.hid hbt
            clear hbt
            cases bt
            · have HN := Lib.hid (show tally cs (k + 1) = v by rw [Hts.out, ← HBt.out]; rfl)
              go_wp2_with fail
              exact ⟨⟨k + 1, hkl, by go_num, by rw [HN.out], hbx⟩, by simp [RowKit.intOf] <;> omega⟩
            · have HN := Lib.hid (show tally cs (k + 1) = v + 1 by rw [Hts.out, ← HBt.out]; rfl)
              go_wp2_with fail
              exact ⟨⟨k + 1, hkl, by go_num, by rw [HN.out]; go_num, hbx⟩, by simp [RowKit.intOf] <;> omega⟩
          · obtain rfl : k = W * H := by omega
            have HN := Lib.hid (show allT cs bs (W * H) (W' * H') 1 = v by rw [HVv.out]; rfl)
            go_wp2_with fail
            exact ⟨⟨1, by omega, by go_num, by rw [HN.out], hbr.trans (hb5.trans hbx)⟩, by simp [RowKit.intOf] <;> omega⟩
      · have e0 : allT cs bs (W * H) (W' * H') 1 = tally cs (W * H) := rfl
        rw [e0]
        obtain ⟨P0, hP0⟩ : ∃ x, x = tally cs (W * H) := ⟨_, rfl⟩
        rw [← hP0] at t1 ⊢
        have HP0 := Lib.hid hP0
        clear hP0 e0
        go_wp2_with fail
        obtain ⟨w5, hw5⟩ : ∃ x, x = wr.alloc (.cells #[.int .i64 W', .int .i64 H', .slice B (W' * H') bc] 28) := ⟨_, rfl⟩
        have hb5 : Bl wr w5 := by rw [hw5]; exact (Bl.refl _).alloc _
        rw [← hw5]
        clear hw5
        go_loopw [27, 7] (fun u v wx => ∃ k : Nat, k ≤ W' * H' ∧ u = .int .i64 k ∧ v = .int .i64 (P0 + tally bs k : Nat) ∧ Bl w5 wx) (fun u _ _ => W' * H' - (RowKit.intOf u).toNat)
        case atStart => exact ⟨0, Nat.zero_le _, rfl, rfl, Bl.refl _⟩
        case round =>
          rename World => wx
          obtain ⟨k, hk, rfl, rfl, hbx⟩ := hrel
          have hts := tally_succ bs k
          have htl := tally_le bs k
          obtain ⟨v, hv⟩ : ∃ v, v = tally bs k := ⟨_, rfl⟩
          rw [← hv] at hts htl ⊢
          have Hts := Lib.hid hts; have HVv := Lib.hid hv
          clear hts hv
          by_cases hkl : k < W' * H'
          · obtain ⟨ad, rfl, j1⟩ := pix_cell (HB.out.bl (hbr.trans (hb5.trans hbx))) hkl
            obtain ⟨bt, hbt⟩ : ∃ b, b = bs.getD k false := ⟨_, rfl⟩
            rw [← hbt] at j1
            have HBt := Lib.hid hbt
            clear hbt
            cases bt
            · have HN := Lib.hid (show tally bs (k + 1) = v by rw [Hts.out, ← HBt.out]; rfl)
              go_wp2_with fail
              exact ⟨⟨k + 1, hkl, by go_num, by rw [HN.out], hbx⟩, by simp [RowKit.intOf] <;> omega⟩
            · have HN := Lib.hid (show tally bs (k + 1) = v + 1 by rw [Hts.out, ← HBt.out]; rfl)
              go_wp2_with fail
              exact ⟨⟨k + 1, hkl, by go_num, by rw [HN.out]; go_num, hbx⟩, by simp [RowKit.intOf] <;> omega⟩
          · obtain rfl : k = W' * H' := by omega
            have HN := Lib.hid (show allT cs bs (W * H) (W' * H') 2 = P0 + v by rw [HVv.out, HP0.out]; rfl)
            go_wp2_with fail
            exact ⟨⟨2, by omega, by go_num, by rw [HN.out], hbr.trans (hb5.trans hbx)⟩, by simp [RowKit.intOf] <;> omega⟩
    · obtain rfl : i = 2 := by omega
      have e2 : allT cs bs (W * H) (W' * H') 2 = tally cs (W * H) + tally bs (W' * H') := rfl
      have hT1 := tally_ink cs W H
      have hT2 := tally_ink bs W' H'
      rw [e2]
      obtain ⟨P1, hP1⟩ : ∃ x, x = tally cs (W * H) := ⟨_, rfl⟩
      obtain ⟨P2, hP2⟩ : ∃ x, x = tally bs (W' * H') := ⟨_, rfl⟩
      rw [← hP1] at t1 hT1 ⊢
      rw [← hP2] at t2 hT2 ⊢
      obtain ⟨F, hF⟩ : ∃ F, F = shifted (inkF cs W H) (inkF bs W' H') W H W' H' r := ⟨_, rfl⟩
      have hFb : ∀ k, mostN F k ≤ 16000000 := fun k => by
        have := most_shift_le (inkF cs W H) (inkF bs W' H') W H W' H' r k
        rw [← hF] at this
        rw [Nat.mul_comm] at this
        omega
      have hFi : ∀ i j, j < 2 * r + 1 → F (i * (2 * r + 1) + j) = bothN (inkF cs W H) (inkF bs W' H') W H W' H' ((j : Int) - (r : Int)) ((i : Int) - (r : Int)) := fun i j hj => by
        rw [hF]
        unfold shifted
        rw [(shift_at r i j hj).1, (shift_at r i j hj).2]
      have hres : farN (inkF cs W H) (inkF bs W' H') W H W' H' r = (P1 : Int) + (P2 : Int) - 2 * (mostN F ((2 * r + 1) * (2 * r + 1)) : Int) := by
        unfold farN
        rw [← hF, ← hT1, ← hT2]
      have k1 := (w21.bl hbr).all3
      have k2 := (w22.bl hbr).all3
      have HA2 := Lib.hid (HA.out.bl hbr); have HB2 := Lib.hid (HB.out.bl hbr)
      have HFb := Lib.hid hFb; have HFi := Lib.hid hFi; have HRs := Lib.hid hres
      clear hF hFb hFi hres hT1 hT2 hP1 hP2 e2 i0 i1 HA HB
      go_wp2_with fail
      go_loopw [13, 12] (fun u v wx => ∃ i : Nat, i ≤ 2 * r + 1 ∧ u = .int .i64 ((i : Int) - (r : Int)) ∧ v = .int .i64 (mostN F (i * (2 * r + 1)) : Nat) ∧ wr = wx) (fun u _ _ => 2 * r + 1 - (RowKit.intOf u + (r : Int)).toNat)
      case atStart => exact ⟨0, Nat.zero_le _, by simp, by simp [mostN], rfl⟩
      case round =>
        obtain ⟨i, hi, rfl, rfl, rfl⟩ := hrel
        by_cases hlt : i < 2 * r + 1
        · have hc : (i : Int) - (r : Int) ≤ (r : Int) := by omega
          obtain ⟨dy, hdy⟩ : ∃ dy, dy = (i : Int) - (r : Int) := ⟨_, rfl⟩
          have hd1 : -4 ≤ dy ∧ dy ≤ 4 := by omega
          rw [← hdy] at hc ⊢
          have HDy := Lib.hid hdy
          have hM0 := HFb.out (i * (2 * r + 1))
          clear hdy
          go_wp2_with fail
          go_loopw [14, 12] (fun u v wx => ∃ j : Nat, j ≤ 2 * r + 1 ∧ u = .int .i64 ((j : Int) - (r : Int)) ∧ v = .int .i64 (mostN F (i * (2 * r + 1) + j) : Nat) ∧ wr = wx) (fun u _ _ => 2 * r + 1 - (RowKit.intOf u + (r : Int)).toNat)
          case atStart => exact ⟨0, Nat.zero_le _, by simp, by simp, rfl⟩
          case round =>
            obtain ⟨j, hj, rfl, rfl, rfl⟩ := hrel
            by_cases hjt : j < 2 * r + 1
            · have hFj := HFi.out i j hjt
              have hcj : (j : Int) - (r : Int) ≤ (r : Int) := by omega
              obtain ⟨dx, hdx⟩ : ∃ dx, dx = (j : Int) - (r : Int) := ⟨_, rfl⟩
              have hd2 : -4 ≤ dx ∧ dx ≤ 4 := by omega
              rw [← hdx, ← HDy.out, both_rows] at hFj
              rw [← hdx] at hcj ⊢
              have HDx := Lib.hid hdx
              have hM1 := HFb.out (i * (2 * r + 1) + j)
              obtain ⟨M, hM⟩ : ∃ M, M = mostN F (i * (2 * r + 1) + j) := ⟨_, rfl⟩
              have hMs : mostN F (i * (2 * r + 1) + (j + 1)) = max M (F (i * (2 * r + 1) + j)) := by rw [hM]; rfl
              rw [← hM] at hM1 ⊢
              obtain ⟨x0, hx0⟩ : ∃ x0 : Nat, (x0 : Int) = max 0 dx := ⟨(max 0 dx).toNat, by omega⟩
              obtain ⟨y0, hy0⟩ : ∃ y0 : Nat, (y0 : Int) = max 0 dy := ⟨(max 0 dy).toNat, by omega⟩
              obtain ⟨x1, hx1⟩ : ∃ x1, x1 = min (W : Int) ((W' : Int) + dx) := ⟨_, rfl⟩
              obtain ⟨y1, hy1⟩ : ∃ y1, y1 = min (H : Int) ((H' : Int) + dy) := ⟨_, rfl⟩
              have gx0 : (if (0 : Int) < dx then dx else 0) = (x0 : Int) := by split <;> omega
              have gy0 : (if (0 : Int) < dy then dy else 0) = (y0 : Int) := by split <;> omega
              have gx1 : (if (W : Int) < (W' : Int) + dx then (W : Int) else (W' : Int) + dx) = x1 := by split <;> omega
              have gy1 : (if (H : Int) < (H' : Int) + dy then (H : Int) else (H' : Int) + dy) = y1 := by split <;> omega
              have gx2 : (if dx < 0 then (0 : Int) else dx) = (x0 : Int) := by split <;> omega
              have gy2 : (if dy < 0 then (0 : Int) else dy) = (y0 : Int) := by split <;> omega
              have gx3 : (if (W' : Int) + dx < (W : Int) then (W' : Int) + dx else (W : Int)) = x1 := by split <;> omega
              have gy3 : (if (H' : Int) + dy < (H : Int) then (H' : Int) + dy else (H : Int)) = y1 := by split <;> omega
              rw [← hx0, ← hx1, ← hy0, ← hy1] at hFj
              obtain ⟨nx, hnx⟩ : ∃ nx, nx = overN (x0 : Int) x1 := ⟨_, rfl⟩
              obtain ⟨ny, hny⟩ : ∃ ny, ny = overN (y0 : Int) y1 := ⟨_, rfl⟩
              rw [← hnx, ← hny] at hFj
              obtain ⟨Row, hRow⟩ : ∃ Row, Row = meetN (inkF cs W H) (inkF bs W' H') dx dy (x0 : Int) nx := ⟨_, rfl⟩
              rw [← hRow] at hFj
              have HFj := Lib.hid hFj; have HMs := Lib.hid hMs; have HRow := Lib.hid hRow; have HM := Lib.hid hM
              have Hx0 := Lib.hid hx0; have Hy0 := Lib.hid hy0; have Hx1 := Lib.hid hx1; have Hy1 := Lib.hid hy1; have Hnx := Lib.hid hnx; have Hny := Lib.hid hny
              have hrl : ∀ y, Row y ≤ nx := fun y => by rw [hRow]; unfold meetN; have := winN_le (c := 1) (fun x => b1_le (inkF cs W H x y && inkF bs W' H' (x - dx) (y - dy))) (x0 : Int) nx; omega
              have hwl : ∀ k, k ≤ ny → winN Row (y0 : Int) k ≤ 16000000 := fun k hk => by
                have h1 := winN_le (c := nx) hrl (y0 : Int) k
                have h2 : nx ≤ W := by rw [hnx]; unfold overN; omega
                have h3 : k ≤ H := by have : ny ≤ H := by rw [hny]; unfold overN; omega
                                      omega
                have h4 := Nat.mul_le_mul h3 h2
                rw [Nat.mul_comm H W] at h4
                omega
              have HWl := Lib.hid hwl
              have hy4 : y0 ≤ 4 := by omega
              have hx4 : x0 ≤ 4 := by omega
              clear hFj hMs hRow hM hx0 hy0 hx1 hy1 hnx hny hrl hwl hdx
              go_wp2_with fail
              go_loopw [16, 15] (fun u v wx => ∃ y : Nat, y0 ≤ y ∧ y ≤ y0 + ny ∧ u = .int .i64 (y : Int) ∧ v = .int .i64 (winN Row (y0 : Int) (y - y0) : Nat) ∧ wr = wx) (fun u _ _ => y0 + ny - (RowKit.intOf u).toNat)
              case atStart => exact ⟨y0, Nat.le_refl _, by omega, rfl, by rw [Nat.sub_self]; rfl, rfl⟩
              case round =>
                obtain ⟨y, hya, hyb, rfl, rfl, rfl⟩ := hrel
                by_cases hyt : y < y0 + ny
                · have hyc : (y : Int) < y1 := by have := Hny.out; unfold overN at this; omega
                  have hP := HWl.out (y - y0) (by omega)
                  have hPs : winN Row (y0 : Int) (y + 1 - y0) = winN Row (y0 : Int) (y - y0) + Row (y : Int) := by
                    rw [show y + 1 - y0 = (y - y0) + 1 by omega, winN_succ, show (y0 : Int) + ((y - y0 : Nat) : Int) = (y : Int) by omega]
                  have hPb := HWl.out (y + 1 - y0) (by omega)
                  have hyH : y < H := by have := Hy1.out; omega
                  obtain ⟨yb, hyb2⟩ : ∃ yb : Nat, (yb : Int) = (y : Int) - dy := ⟨((y : Int) - dy).toNat, by have := Hy0.out; omega⟩
                  have hybH : yb < H' := by have := Hy1.out; omega
                  obtain ⟨G, hG⟩ : ∃ G : Int → Nat, G = fun x => b1 (inkF cs W H x (y : Int) && inkF bs W' H' (x - dx) ((y : Int) - dy)) := ⟨_, rfl⟩
                  have hRG : Row (y : Int) = winN G (x0 : Int) nx := by rw [HRow.out, hG]; rfl
                  rw [hRG] at hPs
                  obtain ⟨P, hPP⟩ : ∃ P, P = winN Row (y0 : Int) (y - y0) := ⟨_, rfl⟩
                  rw [← hPP] at hP hPs ⊢
                  have hGl : ∀ k, winN G (x0 : Int) k ≤ k := fun k => by have := winN_le (f := G) (c := 1) (fun z => by rw [hG]; exact b1_le _) (x0 : Int) k; omega
                  have hGx : ∀ xn xb : Nat, xn < W → xb < W' → (xb : Int) = (xn : Int) - dx → G (xn : Int) = b1 (cs.getD (y * W + xn) false && bs.getD (yb * W' + xb) false) := fun xn xb h1 h2 h3 => by
                    rw [hG]
                    show b1 (inkF cs W H xn y && inkF bs W' H' ((xn : Int) - dx) ((y : Int) - dy)) = _
                    rw [← hyb2, ← h3, inkF_at cs W H xn y h1 hyH, inkF_at bs W' H' xb yb h2 hybH]
                  have q1 : 0 ≤ (y : Int) * (W : Int) ∧ (y : Int) * (W : Int) ≤ 16000000 := by
                    have h5 := Int.natCast_mul y W
                    have h6 := Nat.mul_le_mul (show y ≤ 4000 by omega) hW
                    omega
                  have q2 : 0 ≤ (yb : Int) * (W' : Int) ∧ (yb : Int) * (W' : Int) ≤ 16000000 := by
                    have h5 := Int.natCast_mul yb W'
                    have h6 := Nat.mul_le_mul (show yb ≤ 4000 by omega) hW'
                    omega
                  have hnxW : nx ≤ 4000 := by have := Hnx.out; unfold overN at this; have := Hx1.out; omega
                  have hyb3 : (y : Int) - dy = (yb : Int) := hyb2.symm
                  have HPs := Lib.hid hPs; have HGx := Lib.hid hGx; have HGl := Lib.hid hGl
                  clear hPs hG hRG hPP hGl hGx hPb hyb2
                  go_wp2_with fail
                  go_loopw [17, 15] (fun u v wx => ∃ x : Nat, x0 ≤ x ∧ x ≤ x0 + nx ∧ u = .int .i64 (x : Int) ∧ v = .int .i64 ((P + winN G (x0 : Int) (x - x0) : Nat) : Int) ∧ wr = wx) (fun u _ _ => x0 + nx - (RowKit.intOf u).toNat)
                  case atStart => exact ⟨x0, Nat.le_refl _, by omega, rfl, by rw [Nat.sub_self]; rfl, rfl⟩
                  case round =>
                    obtain ⟨x, hxa, hxb, rfl, rfl, rfl⟩ := hrel
                    have hV := HGl.out (x - x0)
                    have hVs : winN G (x0 : Int) (x + 1 - x0) = winN G (x0 : Int) (x - x0) + G (x : Int) := by
                      rw [show x + 1 - x0 = (x - x0) + 1 by omega, winN_succ, show (x0 : Int) + ((x - x0 : Nat) : Int) = (x : Int) by omega]
                    by_cases hxt : x < x0 + nx
                    · have hxc : (x : Int) < x1 := by have := Hnx.out; unfold overN at this; omega
                      have hxW : x < W := by have := Hx1.out; omega
                      obtain ⟨xb, hxb2⟩ : ∃ xb : Nat, (xb : Int) = (x : Int) - dx := ⟨((x : Int) - dx).toNat, by have := Hx0.out; omega⟩
                      have hxbW : xb < W' := by have := Hx1.out; omega
                      have hGv := HGx.out x xb hxW hxbW hxb2
                      obtain ⟨ka, hka⟩ : ∃ ka, ka = y * W + x := ⟨_, rfl⟩
                      obtain ⟨kb, hkb⟩ : ∃ kb, kb = yb * W' + xb := ⟨_, rfl⟩
                      have eka : (y : Int) * (W : Int) + (x : Int) = (ka : Int) := by rw [hka]; simp
                      have ekb : (yb : Int) * (W' : Int) + (x : Int) - dx = (kb : Int) := by
                        have : (kb : Int) = (yb : Int) * (W' : Int) + (xb : Int) := by rw [hkb]; simp
                        omega
                      have hkal : ka < W * H := by rw [hka]; exact place_lt hxW hyH
                      have hkbl : kb < W' * H' := by rw [hkb]; exact place_lt hxbW hybH
                      obtain ⟨ada, eA, ja⟩ := pix_cell HA2.out hkal
                      obtain ⟨adb, eB, jb⟩ := pix_cell HB2.out hkbl
                      rw [← hka, ← hkb] at hGv
                      obtain ⟨va, hva⟩ : ∃ v, v = cs.getD ka false := ⟨_, rfl⟩
                      obtain ⟨vb, hvb⟩ : ∃ v, v = bs.getD kb false := ⟨_, rfl⟩
                      rw [← hva] at ja hGv
                      rw [← hvb] at jb hGv
                      rw [hGv] at hVs
                      obtain ⟨V, hVV⟩ : ∃ V, V = winN G (x0 : Int) (x - x0) := ⟨_, rfl⟩
                      rw [← hVV] at hV hVs ⊢
                      have HVs := Lib.hid hVs
                      subst eA
                      subst eB
                      clear hVs hVV hva hvb hGv hka hkb hxb2
                      cases va
                      · have HN := Lib.hid (show P + winN G (x0 : Int) (x + 1 - x0) = P + V by rw [HVs.out]; rfl)
                        go_wp2_with fail
                        exact ⟨⟨x + 1, by omega, by omega, by go_num, by rw [HN.out], trivial⟩, by simp [RowKit.intOf] <;> omega⟩
                      · cases vb
                        · have HN := Lib.hid (show P + winN G (x0 : Int) (x + 1 - x0) = P + V by rw [HVs.out]; rfl)
                          go_wp2_with fail
                          exact ⟨⟨x + 1, by omega, by omega, by go_num, by rw [HN.out], trivial⟩, by simp [RowKit.intOf] <;> omega⟩
                        · have HN := Lib.hid (show P + winN G (x0 : Int) (x + 1 - x0) = P + V + 1 by rw [HVs.out]; rfl)
                          go_wp2_with fail
                          exact ⟨⟨x + 1, by omega, by omega, by go_num, by rw [HN.out]; go_num, trivial⟩, by simp [RowKit.intOf] <;> omega⟩
                    · obtain rfl : x = x0 + nx := by omega
                      have hxc : ¬ ((x0 : Int) + (nx : Int) < x1) := by have := Hnx.out; unfold overN at this; omega
                      have HN := Lib.hid (show winN Row (y0 : Int) (y + 1 - y0) = P + winN G (x0 : Int) (x0 + nx - x0) by rw [HPs.out, show x0 + nx - x0 = nx by omega])
                      go_wp2_with fail
                      exact ⟨⟨y + 1, by omega, by omega, by go_num, by rw [HN.out], trivial⟩, by simp [RowKit.intOf] <;> omega⟩
                · obtain rfl : y = y0 + ny := by omega
                  have hyc : ¬ ((y0 : Int) + (ny : Int) < y1) := by have := Hny.out; unfold overN at this; omega
                  have hFv := HFj.out
                  have hMs := HMs.out
                  have hFvl := HWl.out ny (Nat.le_refl _)
                  rw [show y0 + ny - y0 = ny by omega]
                  rw [hFv] at hMs
                  obtain ⟨V, hVV⟩ : ∃ V, V = winN Row (y0 : Int) ny := ⟨_, rfl⟩
                  rw [← hVV] at hMs hFvl ⊢
                  obtain ⟨Mx, hMx⟩ : ∃ Mx, Mx = max M V := ⟨_, rfl⟩
                  rw [← hMx] at hMs
                  have gm1 : (if (M : Int) < (V : Int) then (V : Int) else (M : Int)) = (Mx : Int) := by split <;> omega
                  have gm2 : (if M < V then (V : Int) else (M : Int)) = (Mx : Int) := by split <;> omega
                  have gm3 : (if (V : Int) < (M : Int) then (M : Int) else (V : Int)) = (Mx : Int) := by split <;> omega
                  have gm4 : (if V < M then (M : Int) else (V : Int)) = (Mx : Int) := by split <;> omega
                  have HMs2 := Lib.hid hMs
                  clear hFv hMs hVV hMx
                  go_wp2_with fail
                  exact ⟨⟨j + 1, hjt, by rw [HDx.out]; go_num, by rw [HMs2.out], trivial⟩, by rw [HDx.out]; simp [RowKit.intOf] <;> omega⟩
            · obtain rfl : j = 2 * r + 1 := by omega
              have hcj : ¬ (((2 * r + 1 : Nat) : Int) - (r : Int) ≤ (r : Int)) := by omega
              have he : i * (2 * r + 1) + (2 * r + 1) = (i + 1) * (2 * r + 1) := by rw [Nat.add_mul, Nat.one_mul]
              rw [he]
              have HDy2 := HDy
              go_wp2_with fail
              exact ⟨⟨i + 1, hlt, by rw [HDy.out]; go_num, rfl, trivial⟩, by rw [HDy.out]; simp [RowKit.intOf] <;> omega⟩
        · obtain rfl : i = 2 * r + 1 := by omega
          have hc : ¬ (((2 * r + 1 : Nat) : Int) - (r : Int) ≤ (r : Int)) := by omega
          have hb := HFb.out ((2 * r + 1) * (2 * r + 1))
          obtain ⟨M, hM⟩ : ∃ M, M = mostN F ((2 * r + 1) * (2 * r + 1)) := ⟨_, rfl⟩
          have hres := HRs.out
          rw [← hM] at hb hres ⊢
          have HR2 := Lib.hid hres
          clear hM hres
          go_wp2_with fail
          go_ret
          exact ⟨ret_int (by rw [HR2.out] <;> omega), w2b.trans hbr⟩

end Go.Proofs.YtjelhdpcaileiaaGreatDoor


/-! bedref2.FarOf is farN. -/
namespace Go.Proofs.YtjelhdpcaileiaaGreatDoor
open Go.RowKit

def diffRow (A B : Int → Int → Bool) (dx dy x0 : Int) (nx : Nat) (y : Int) : Nat := winN (fun x => b1 (A x y != B (x - dx) (y - dy))) x0 nx
theorem diff_rows (A B : Int → Int → Bool) (W H W' H' r : Nat) (dx dy : Int) : diffN A B W H W' H' r dx dy = winN (diffRow A B dx dy (-(r : Int)) (max W W' + 2 * r)) (-(r : Int)) (max H H' + 2 * r) := rfl
/-- The least so far; none: -1. -/
def leastI (T : Nat) (F : Nat → Nat) (k : Nat) : Int := if k = 0 then -1 else (T : Int) - 2 * (mostN F k : Int)

end Go.Proofs.YtjelhdpcaileiaaGreatDoor


/-! The plain law of the pieces of a line: columns with ink that lie side by side. -/
namespace Go.Proofs.YtjelhdpcaileiaaGreatDoor
open Go.RowKit

/-- A piece: its first column, and how many. -/
abbrev Piece := Nat × Nat
def wider : List Piece → List Piece
  | [] => []
  | [p] => [(p.1, p.2 + 1)]
  | p :: q :: l => p :: wider (q :: l)
theorem wider_append (l : List Piece) (p : Piece) : wider (l ++ [p]) = l ++ [(p.1, p.2 + 1)] := by
  induction l with
  | nil => rfl
  | cons x l ih =>
    cases l with
    | nil => rfl
    | cons y l => show x :: wider (y :: l ++ [p]) = _; rw [ih]; rfl
/-- Is the column ahead inked? -/
def ahead (f : Nat → Nat) : Nat → Bool
  | 0 => false
  | k + 1 => decide (0 < f k)
def piecesTo (f : Nat → Nat) : Nat → List Piece
  | 0 => []
  | k + 1 => if f k = 0 then piecesTo f k else if ahead f k = true then wider (piecesTo f k) else piecesTo f k ++ [(k, 1)]
/-- Where the last piece ends. -/
theorem pieces_last (f : Nat → Nat) : ∀ k, (ahead f k = true → ∃ l p, piecesTo f k = l ++ [p] ∧ p.1 + p.2 = k) ∧ (ahead f k = false → piecesTo f k = [] ∨ ∃ l p, piecesTo f k = l ++ [p] ∧ p.1 + p.2 < k)
  | 0 => ⟨(fun h => by cases h), fun _ => Or.inl rfl⟩
  | k + 1 => by
    have ih := pieces_last f k
    constructor
    · intro h
      have hf : 0 < f k := of_decide_eq_true h
      show ∃ l p, (if f k = 0 then piecesTo f k else if ahead f k = true then wider (piecesTo f k) else piecesTo f k ++ [(k, 1)]) = l ++ [p] ∧ p.1 + p.2 = k + 1
      rw [if_neg (by omega)]
      cases ha : ahead f k
      · rw [if_neg (by simp)]
        exact ⟨_, _, rfl, rfl⟩
      · obtain ⟨l, p, e, hp⟩ := ih.1 ha
        rw [if_pos rfl, e, wider_append]
        exact ⟨l, _, rfl, by show p.1 + (p.2 + 1) = k + 1; omega⟩
    · intro h
      have hf : f k = 0 := by have : ¬ 0 < f k := of_decide_eq_false h; omega
      show (if f k = 0 then piecesTo f k else _) = [] ∨ ∃ l p, (if f k = 0 then piecesTo f k else _) = l ++ [p] ∧ p.1 + p.2 < k + 1
      rw [if_pos hf]
      cases ha : ahead f k
      · rcases ih.2 ha with h2 | ⟨l, p, e, hp⟩
        · exact .inl h2
        · exact .inr ⟨l, p, e, by omega⟩
      · obtain ⟨l, p, e, hp⟩ := ih.1 ha
        exact .inr ⟨l, p, e, by omega⟩
theorem wider_length : ∀ l : List Piece, (wider l).length = l.length
  | [] => rfl
  | [_] => rfl
  | _ :: q :: l => by show (wider (q :: l)).length + 1 = _; rw [wider_length (q :: l)]; rfl
theorem pieces_len (f : Nat → Nat) : ∀ k, (piecesTo f k).length ≤ k
  | 0 => Nat.le_refl _
  | k + 1 => by
    have ih := pieces_len f k
    show (if f k = 0 then piecesTo f k else if ahead f k = true then wider (piecesTo f k) else piecesTo f k ++ [(k, 1)]).length ≤ k + 1
    split
    · omega
    · split
      · rw [wider_length]; omega
      · rw [List.length_append]; simp; exact ih
/-- A piece lies within what was looked at, and is not empty. -/
theorem pieces_in (f : Nat → Nat) : ∀ k, ∀ p ∈ piecesTo f k, 1 ≤ p.2 ∧ p.1 + p.2 ≤ k
  | 0 => fun p hp => by cases hp
  | k + 1 => by
    have ih := pieces_in f k
    intro p hp
    change p ∈ (if f k = 0 then piecesTo f k else if ahead f k = true then wider (piecesTo f k) else piecesTo f k ++ [(k, 1)]) at hp
    split at hp
    · have := ih p hp; omega
    · split at hp
      · rename_i ha
        obtain ⟨l, q, e, hq⟩ := (pieces_last f k).1 ha
        rw [e, wider_append] at hp
        have hq2 := ih q (by rw [e]; simp)
        rcases List.mem_append.1 hp with h | h
        · have := ih p (by rw [e]; exact List.mem_append_left _ h); omega
        · rw [List.mem_singleton.1 h]
          show 1 ≤ q.2 + 1 ∧ q.1 + (q.2 + 1) ≤ k + 1
          omega
      · rcases List.mem_append.1 hp with h | h
        · have := ih p h; omega
        · rw [List.mem_singleton.1 h]
          show 1 ≤ 1 ∧ k + 1 ≤ k + 1
          omega
/-- The boxes of pieces, flat. -/
def boxCells (H : Nat) (l : List Piece) : List Value := l.flatMap fun p => [.int .i64 p.1, .int .i64 0, .int .i64 p.2, .int .i64 H]
theorem boxCells_append (H : Nat) (a b : List Piece) : boxCells H (a ++ b) = boxCells H a ++ boxCells H b := by unfold boxCells; rw [List.flatMap_append]
theorem boxCells_len (H : Nat) (l : List Piece) : (boxCells H l).length = l.length * 4 := by
  unfold boxCells
  induction l with
  | nil => rfl
  | cons x l ih =>
    rw [List.flatMap_cons, List.length_append, ih, List.length_cons]
    show 4 + l.length * 4 = (l.length + 1) * 4
    omega
theorem boxCells_at {H : Nat} {l : List Piece} {i : Nat} {p : Piece} (h : l[i]? = some p) (j : Nat) (hj : j < 4) : (boxCells H l)[i * 4 + j]? = ([.int .i64 p.1, .int .i64 0, .int .i64 p.2, .int .i64 H] : List Value)[j]? := by
  induction l generalizing i with
  | nil => simp at h
  | cons x l ih =>
    unfold boxCells
    rw [List.flatMap_cons]
    rcases i with _ | i
    · simp only [List.getElem?_cons_zero, Option.some.injEq] at h
      subst h
      rw [List.getElem?_append_left (by show 0 * 4 + j < 4; omega)]
      simp
    · rw [List.getElem?_append_right (by show 4 ≤ (i + 1) * 4 + j; omega)]
      have e : (i + 1) * 4 + j - 4 = i * 4 + j := by omega
      show (boxCells H l)[(i + 1) * 4 + j - 4]? = _
      rw [e]
      exact ih (by simpa using h)
/-- The last box made wider: one cell is set. -/
theorem boxCells_wider (H : Nat) (l : List Piece) (p : Piece) : (boxCells H (l ++ [p])).set (l.length * 4 + 2) (.int .i64 ((p.2 : Int) + 1)) = boxCells H (wider (l ++ [p])) := by
  rw [wider_append, boxCells_append, boxCells_append]
  rw [List.set_append_right _ _ (by rw [boxCells_len]; omega), boxCells_len]
  rw [show l.length * 4 + 2 - l.length * 4 = 2 by omega]
  rfl

end Go.Proofs.YtjelhdpcaileiaaGreatDoor


/-! The plain law of what is seen of a piece: the nearest letter, and the next. -/
namespace Go.Proofs.YtjelhdpcaileiaaGreatDoor
open Go.RowKit

/-- How far a letter is from a shape, at a reach of 1. -/
def farL (cs : List Bool) (W H : Nat) (l : Ltr) : Int := farN (inkF cs W H) (inkF l.bs l.W.toNat l.H.toNat) W H l.W.toNat l.H.toNat 1
/-- The nearest letter's text, how far it is, and the next. -/
abbrev Best := List UInt8 × Int × Int
def bestStep (cs : List Bool) (W H : Nat) (s : Best) (l : Ltr) : Best :=
  if l.W - (W : Int) < -2 ∨ 2 < l.W - (W : Int) then s
  else if s.2.1 < 0 ∨ farL cs W H l < s.2.1 then (l.text, farL cs W H l, s.2.1)
  else if s.2.2 < 0 ∨ farL cs W H l < s.2.2 then (s.1, s.2.1, farL cs W H l)
  else s
def bestOf (cs : List Bool) (W H : Nat) (t0 : List UInt8) (ls : List Ltr) : Best := ls.foldl (bestStep cs W H) (t0, -1, -1)
theorem bestOf_succ {cs : List Bool} {W H : Nat} {t0 : List UInt8} {ls : List Ltr} {i : Nat} {l : Ltr} (h : ls[i]? = some l) : bestOf cs W H t0 (ls.take (i + 1)) = bestStep cs W H (bestOf cs W H t0 (ls.take i)) l := by
  unfold bestOf
  rw [List.take_add_one, h, List.foldl_append]
  rfl
theorem far_range {W H W' H' r : Nat} {cs bs : List Bool} (hW : W ≤ 4000) (hH : H ≤ 4000) (hW' : W' ≤ 4000) (hH' : H' ≤ 4000) : 0 ≤ farN (inkF cs W H) (inkF bs W' H') W H W' H' r ∧ farN (inkF cs W H) (inkF bs W' H') W H W' H' r ≤ 32000000 := by
  have h1 := tally_ink cs W H
  have h2 := tally_ink bs W' H'
  have h3 := tally_le cs (W * H)
  have h4 := tally_le bs (W' * H')
  have h5 := Nat.mul_le_mul hW hH
  have h6 := Nat.mul_le_mul hW' hH'
  have hFm : mostN (shifted (inkF cs W H) (inkF bs W' H') W H W' H' r) ((2 * r + 1) * (2 * r + 1)) ≤ (inkA (inkF cs W H) W H + inkA (inkF bs W' H') W' H') / 2 := mostN_le fun idx hidx => by
    have e1 : idx / (2 * r + 1) < 2 * r + 1 := Nat.div_lt_of_lt_mul (by omega)
    have e2 : idx % (2 * r + 1) < 2 * r + 1 := Nat.mod_lt _ (by omega)
    have h7 : diffN (inkF cs W H) (inkF bs W' H') W H W' H' r (shiftX r idx) (shiftY r idx) + 2 * bothN (inkF cs W H) (inkF bs W' H') W H W' H' (shiftX r idx) (shiftY r idx) = inkA (inkF cs W H) W H + inkA (inkF bs W' H') W' H' := by
      unfold shiftX shiftY
      obtain ⟨a, ha⟩ : ∃ a, a = idx % (2 * r + 1) := ⟨_, rfl⟩
      obtain ⟨b, hb⟩ : ∃ b, b = idx / (2 * r + 1) := ⟨_, rfl⟩
      rw [← ha, ← hb]
      rw [← ha] at e2
      rw [← hb] at e1
      exact diff_both (inkF_held cs W H) (inkF_held bs W' H') (by omega) (by omega) (by omega) (by omega)
    unfold shifted
    omega
  unfold farN
  omega
/-- What holds of the best, whatever letters came. -/
theorem best_inv {cs : List Bool} {W H : Nat} (t0 : List UInt8) (hW : W ≤ 4000) (hH : H ≤ 4000) {ls : List Ltr} (hl : ∀ l ∈ ls, l.W ≤ 64 ∧ l.H ≤ 4000) : (bestOf cs W H t0 ls).2.1 = -1 ∧ (bestOf cs W H t0 ls).2.2 = -1 ∨ (0 ≤ (bestOf cs W H t0 ls).2.1 ∧ (bestOf cs W H t0 ls).2.1 ≤ 32000000 ∧ -1 ≤ (bestOf cs W H t0 ls).2.2 ∧ (bestOf cs W H t0 ls).2.2 ≤ 32000000) := by
  have key : ∀ (ls : List Ltr) (s : Best), (∀ l ∈ ls, l.W ≤ 64 ∧ l.H ≤ 4000) → (s.2.1 = -1 ∧ s.2.2 = -1 ∨ (0 ≤ s.2.1 ∧ s.2.1 ≤ 32000000 ∧ -1 ≤ s.2.2 ∧ s.2.2 ≤ 32000000)) →
      ((ls.foldl (bestStep cs W H) s).2.1 = -1 ∧ (ls.foldl (bestStep cs W H) s).2.2 = -1 ∨ (0 ≤ (ls.foldl (bestStep cs W H) s).2.1 ∧ (ls.foldl (bestStep cs W H) s).2.1 ≤ 32000000 ∧ -1 ≤ (ls.foldl (bestStep cs W H) s).2.2 ∧ (ls.foldl (bestStep cs W H) s).2.2 ≤ 32000000)) := by
    intro ls
    induction ls with
    | nil => intro s _ h; exact h
    | cons l ls ih =>
      intro s hl h
      refine ih (bestStep cs W H s l) (fun x hx => hl x (List.mem_cons_of_mem _ hx)) ?_
      have hll := hl l (List.mem_cons_self ..)
      have hr : 0 ≤ farL cs W H l ∧ farL cs W H l ≤ 32000000 := far_range hW hH (by omega) (by omega)
      unfold bestStep
      split
      · exact h
      · split
        · right
          show 0 ≤ farL cs W H l ∧ farL cs W H l ≤ 32000000 ∧ -1 ≤ s.2.1 ∧ s.2.1 ≤ 32000000
          omega
        · split
          · right
            show 0 ≤ s.2.1 ∧ s.2.1 ≤ 32000000 ∧ -1 ≤ farL cs W H l ∧ farL cs W H l ≤ 32000000
            omega
          · exact h
  exact key ls _ hl (.inl ⟨rfl, rfl⟩)
/-- The text that one begins with counts only where no letter came near. -/
theorem best_text {cs : List Bool} {W H : Nat} (t0 t1 : List UInt8) (ls : List Ltr) (_hW : W ≤ 4000) (_hH : H ≤ 4000) (hl : ∀ l ∈ ls, l.W ≤ 64 ∧ l.H ≤ 4000) : (bestOf cs W H t0 ls).2 = (bestOf cs W H t1 ls).2 ∧ (0 ≤ (bestOf cs W H t0 ls).2.1 → (bestOf cs W H t0 ls).1 = (bestOf cs W H t1 ls).1) := by
  have key : ∀ (ls : List Ltr) (s u : Best), (∀ l ∈ ls, l.W ≤ 64 ∧ l.H ≤ 4000) → s.2 = u.2 → (0 ≤ s.2.1 → s.1 = u.1) → (ls.foldl (bestStep cs W H) s).2 = (ls.foldl (bestStep cs W H) u).2 ∧ (0 ≤ (ls.foldl (bestStep cs W H) s).2.1 → (ls.foldl (bestStep cs W H) s).1 = (ls.foldl (bestStep cs W H) u).1) := by
    intro ls
    induction ls with
    | nil => intro s u _ h1 h2; exact ⟨h1, h2⟩
    | cons l ls ih =>
      intro s u hl h1 h2
      have hll := hl l (List.mem_cons_self ..)
      refine ih _ _ (fun x hx => hl x (List.mem_cons_of_mem _ hx)) ?_ ?_
      · unfold bestStep
        rw [h1]
        split
        · exact h1
        · split
          · rfl
          · split <;> first | rfl | exact h1
      · unfold bestStep
        rw [h1]
        split
        · intro h; first | exact h2 h | exact h2 (by rw [h1]; exact h)
        · split
          · intro _; rfl
          · rename_i hno
            split
            · intro h
              first | exact h2 h | exact h2 (by rw [h1]; exact h)
            · intro h
              first | exact h2 h | exact h2 (by rw [h1]; exact h)
  exact key ls _ _ hl rfl (fun h => absurd h (show ¬ (0 : Int) ≤ -1 by decide))
/-- What is seen of a piece. -/
def farOff (b : Best) (most ht w : Int) : Bool := decide (b.2.1 < 0 ∨ most * ht * w < b.2.1 * 1000)
def seenCells (b : Best) (X W H : Nat) (most ht : Int) : List Value :=
  if farOff b most ht W = true then [.string ⟨#[63]⟩, .int .i64 X, .int .i64 0, .int .i64 W, .int .i64 H, .int .i64 (-1), .int .i64 (-1)]
  else [.string ⟨b.1.toArray⟩, .int .i64 X, .int .i64 0, .int .i64 W, .int .i64 H, .int .i64 b.2.1, .int .i64 b.2.2]
theorem seen_text {cs : List Bool} {bW bH : Nat} (t0 t1 : List UInt8) (ls : List Ltr) (hW : bW ≤ 4000) (hH : bH ≤ 4000) (hl : ∀ l ∈ ls, l.W ≤ 64 ∧ l.H ≤ 4000) (X W H : Nat) (most ht : Int) : seenCells (bestOf cs bW bH t0 ls) X W H most ht = seenCells (bestOf cs bW bH t1 ls) X W H most ht := by
  obtain ⟨h1, h2⟩ := best_text (cs := cs) t0 t1 ls hW hH hl
  have hf : farOff (bestOf cs bW bH t0 ls) most ht W = farOff (bestOf cs bW bH t1 ls) most ht W := by unfold farOff; rw [h1]
  unfold seenCells
  rw [hf]
  split
  · rfl
  · rename_i h
    have h0 : 0 ≤ (bestOf cs bW bH t0 ls).2.1 := by
      rw [← hf] at h
      unfold farOff at h
      simp only [decide_eq_true_eq, not_or] at h
      omega
    rw [h2 h0, h1]

end Go.Proofs.YtjelhdpcaileiaaGreatDoor


/-! page.Bounds, boxes in pages, Cut and Ink. -/
namespace Go.Proofs.YtjelhdpcaileiaaGreatDoor
open Go.RowKit

/-! ### Bounds -/
set_option maxRecDepth 100000 in
set_option maxHeartbeats 4000000 in
theorem bounds_any (W H : Int) (A : Option Addr) (an ac : Nat) (bs : List Bool) (w : World) (hA : Reads w 1 A an (bs.map .bool)) :
    Calls Tryz.prog 238 #[.agg #[.int .i64 W, .int .i64 H, .slice A an ac]] w fun e w' =>
      ∃ X Y BW BH err, e = .returned (.tuple #[.agg #[.int .i64 X, .int .i64 Y, .int .i64 BW, .int .i64 BH], .int .i64 err]) ∧ (pageErr W H an ≠ 0 → err = pageErr W H an ∧ X = 0 ∧ Y = 0 ∧ BW = 0 ∧ BH = 0) ∧
        (pageErr W H an = 0 → ∃ is, BoundsIs bs W.toNat H.toNat is X Y BW BH ∧ err = whenI (!is) 10) ∧ Bl w w' := by
  let w2 := ((w).alloc (.cells #[.int .i64 W, .int .i64 H, .slice A an ac] 28)).alloc (.cells #[.int .i64 0, .int .i64 0, .int .i64 0, .int .i64 0] 81)
  have w2b : Bl w w2 := ((Bl.refl w).alloc _).alloc _
  have w21 : Blk w2 (w.heap.size) 28 #[.int .i64 W, .int .i64 H, .slice A an ac] := by
    have h0 := Blk.new (w) 28 #[.int .i64 W, .int .i64 H, .slice A an ac]
    exact (h0.alloc _)
  have w22 : Blk w2 (w.heap.size + 1) 81 #[.int .i64 0, .int .i64 0, .int .i64 0, .int .i64 0] := by
    have h0 := Blk.new ((w).alloc (.cells #[.int .i64 W, .int .i64 H, .slice A an ac] 28)) 81 #[.int .i64 0, .int .i64 0, .int .i64 0, .int .i64 0]
    simp only [World.size_alloc] at h0
    exact h0
  have k1 := w21.all3
  by_cases hp : pageErr W H an = 0
  · have Hp := Lib.hid hp
    obtain ⟨W, H, rfl, rfl, rfl, u1, u2, u3⟩ := page_nat hp
    have HA := Lib.hid (hA.bl w2b)
    have St := Lib.hid (BInv.start bs W H)
    clear hA
    go_enter Tryz.func238, Tryz.ntmps238
    go_wp2_with fail
    refine (checkBits_any _ _ _ _ _ _).mono ?_
    rintro e w3 ⟨rfl, hb3⟩
    have k3 := (w21.bl hb3).all3
    clear k1
    go_upto_region 4 with fail
    refine wp_region_flow [(true, 0), (true, 1), (true, 2), (true, 3), (true, 4), (true, 5), (true, 6), (true, 7)] (fun _ => false) (by kernel_rfl) (by kernel_rfl) (by kernel_rfl) (by kernel_rfl) ?_
    iterate 1
      apply Flow.calm2 _ _ rfl rfl
      · intro w' hb' K' hK'
        obtain ⟨hc', hf'⟩ := hb'.rule
        go_simp
        try go_ints
        exact hK'
      · intro K' hK'
        simp only [Act.put, List.setIfInBounds_toArray, List.set_cons_zero, List.set_cons_succ]
        exact hK'
    iterate 1
      apply Flow.calm2 _ _ rfl rfl
      · intro w' hb' K' hK'
        obtain ⟨hc', hf'⟩ := hb'.rule
        go_simp
        try go_ints
        exact hK'
      · intro K' hK'
        simp only [Act.put, List.setIfInBounds_toArray, List.set_cons_zero, List.set_cons_succ]
        exact hK'
    iterate 1
      apply Flow.calm2 _ _ rfl rfl
      · intro w' hb' K' hK'
        obtain ⟨hc', hf'⟩ := hb'.rule
        go_simp
        try go_ints
        exact hK'
      · intro K' hK'
        simp only [Act.put, List.setIfInBounds_toArray, List.set_cons_zero, List.set_cons_succ]
        exact hK'
    iterate 1
      apply Flow.calm2 _ _ rfl rfl
      · intro w' hb' K' hK'
        obtain ⟨hc', hf'⟩ := hb'.rule
        go_simp
        try go_ints
        exact hK'
      · intro K' hK'
        simp only [Act.put, List.setIfInBounds_toArray, List.set_cons_zero, List.set_cons_succ]
        exact hK'
    iterate 4
      apply Flow.asg _ rfl
      · intro K' hK'
        simp only [Act.put, Act.eval, List.setIfInBounds_toArray, List.set_cons_zero, List.set_cons_succ, arr_getD, List.getD_cons_zero, List.getD_cons_succ]
        exact hK'
    refine Flow.done ?_
    clear hp
    go_wp2_with fail
    go_loopw [5, 6, 7, 8, 26] (fun a b c d u wr => ∃ (i : Nat) (l t r z : Int), i ≤ W * H ∧ u = .int .i64 i ∧ a = .int .i64 l ∧ b = .int .i64 t ∧ c = .int .i64 r ∧ d = .int .i64 z ∧ Hid (BInv bs W H i l t r z) ∧ Bl w3 wr) (fun _ _ _ _ u _ => W * H - (intOf u).toNat)
    case atStart => exact ⟨0, _, _, _, _, Nat.zero_le _, rfl, rfl, rfl, rfl, rfl, St, (Bl.refl _).drew⟩
    case round =>
      clear k3
      obtain ⟨i, l, t, r, z, hi, rfl, rfl, rfl, rfl, rfl, hinv, hbr⟩ := hrel
      have k3 := ((w21.bl hb3).bl hbr).all3
      by_cases hlt : i < W * H
      · have hWp : ¬ (W = 0) := by rintro rfl; simp at hlt
        have il : (i : Int) < (W : Int) * (H : Int) := by have := Int.natCast_mul W H; omega
        obtain ⟨ad, ua, eA, hu, hca⟩ := ((HA.out.bl hb3).bl hbr).at_ hlt
        have hua : ua = .bool (bs.getD i false) := by
          simp only [List.getElem?_map, Option.map_eq_some_iff] at hu
          obtain ⟨b, hb1, hb2⟩ := hu
          rw [← hb2, List.getD, hb1]; rfl
        clear hu
        subst hua eA
        cases hva : bs.getD i false
        · have hn := hinv.out.no hva
          have Hn := Lib.hid hn
          rw [hva] at hca
          clear hn hva hinv
          go_wp2_with fail
          exact ⟨⟨i + 1, _, _, _, _, hlt, by go_num, rfl, rfl, rfl, rfl, Hn, hbr⟩, by simp [intOf]; omega⟩
        · obtain ⟨mlt, dlt, _⟩ := place_parts hlt
          have hy := fun l' t' r' z' e1 e2 e3 e4 => hinv.out.yes (l' := l') (t' := t') (r' := r') (b' := z') hva mlt dlt e1 e2 e3 e4
          rw [hva] at hca
          obtain ⟨xi, hxi⟩ : ∃ n, n = i % W := ⟨_, rfl⟩
          obtain ⟨yi, hyi⟩ : ∃ n, n = i / W := ⟨_, rfl⟩
          have e1 : (i : Int) % (W : Int) = (xi : Int) := by rw [hxi]; simp
          have e2 : (i : Int) / (W : Int) = (yi : Int) := by rw [hyi]; simp
          have e3 := hxi.symm
          have e4 := hyi.symm
          rw [← hxi] at mlt
          rw [← hyi] at dlt
          simp only [← hxi, ← hyi] at hy
          have hbd := hinv.out.bd hi
          obtain ⟨l', hl'⟩ : ∃ l', l' = if (xi : Int) < l then (xi : Int) else l := ⟨_, rfl⟩
          obtain ⟨t', ht'⟩ : ∃ t', t' = if (yi : Int) < t then (yi : Int) else t := ⟨_, rfl⟩
          obtain ⟨r', hr'⟩ : ∃ r', r' = if r < (xi : Int) then (xi : Int) else r := ⟨_, rfl⟩
          obtain ⟨z', hz'⟩ : ∃ z', z' = if z < (yi : Int) then (yi : Int) else z := ⟨_, rfl⟩
          have Hn := Lib.hid (hy l' t' r' z' hl' ht' hr' hz')
          have f1 := hl'.symm
          have f2 := ht'.symm
          have f3 := hr'.symm
          have f4 := hz'.symm
          have g1 : (if l < (xi : Int) then l else (xi : Int)) = l' := by rw [hl']; split <;> split <;> omega
          have g2 : (if t < (yi : Int) then t else (yi : Int)) = t' := by rw [ht']; split <;> split <;> omega
          have g3 : (if (xi : Int) < r then r else (xi : Int)) = r' := by rw [hr']; split <;> split <;> omega
          have g4 : (if (yi : Int) < z then z else (yi : Int)) = z' := by rw [hz']; split <;> split <;> omega
          clear hxi hyi hy hinv hva hl' ht' hr' hz'
          go_upto_region 9 with fail
          refine wp_region_flow [(true, 0), (true, 1), (true, 2), (true, 3), (true, 4), (true, 5), (true, 6), (true, 7), (true, 8), (true, 9)] (fun _ => false) (by kernel_rfl) (by kernel_rfl) (by kernel_rfl) (by kernel_rfl) ?_
          iterate 1
            apply Flow.mv _ rfl
            · intro K' hK'
              simp only [Act.put, Act.eval, List.setIfInBounds_toArray, List.set_cons_zero, List.set_cons_succ, arr_getD, List.getD_cons_zero, List.getD_cons_succ]
              exact hK'
          iterate 1
            apply Flow.calm2 _ _ rfl rfl
            · intro w' hb' K' hK'
              obtain ⟨hc', hf'⟩ := hb'.rule
              go_simp
              try go_ints
              exact hK'
            · intro K' hK'
              simp only [Act.put, List.setIfInBounds_toArray, List.set_cons_zero, List.set_cons_succ]
              exact hK'
          iterate 1
            apply Flow.calm2 _ _ rfl rfl
            · intro w' hb' K' hK'
              obtain ⟨hc', hf'⟩ := hb'.rule
              go_simp
              try go_ints
              exact hK'
            · intro K' hK'
              simp only [Act.put, List.setIfInBounds_toArray, List.set_cons_zero, List.set_cons_succ]
              exact hK'
          iterate 1
            apply Flow.calm2 _ _ rfl rfl
            · intro w' hb' K' hK'
              obtain ⟨hc', hf'⟩ := hb'.rule
              go_simp
              try go_ints
              exact hK'
            · intro K' hK'
              simp only [Act.put, List.setIfInBounds_toArray, List.set_cons_zero, List.set_cons_succ]
              exact hK'
          iterate 1
            apply Flow.mv _ rfl
            · intro K' hK'
              simp only [Act.put, Act.eval, List.setIfInBounds_toArray, List.set_cons_zero, List.set_cons_succ, arr_getD, List.getD_cons_zero, List.getD_cons_succ]
              exact hK'
          iterate 1
            apply Flow.calm2 _ _ rfl rfl
            · intro w' hb' K' hK'
              obtain ⟨hc', hf'⟩ := hb'.rule
              go_simp
              try go_ints
              exact hK'
            · intro K' hK'
              simp only [Act.put, List.setIfInBounds_toArray, List.set_cons_zero, List.set_cons_succ]
              exact hK'
          iterate 1
            apply Flow.calm2 _ _ rfl rfl
            · intro w' hb' K' hK'
              obtain ⟨hc', hf'⟩ := hb'.rule
              go_simp
              try go_ints
              exact hK'
            · intro K' hK'
              simp only [Act.put, List.setIfInBounds_toArray, List.set_cons_zero, List.set_cons_succ]
              exact hK'
          iterate 1
            apply Flow.calm2 _ _ rfl rfl
            · intro w' hb' K' hK'
              obtain ⟨hc', hf'⟩ := hb'.rule
              go_simp
              try go_ints
              exact hK'
            · intro K' hK'
              simp only [Act.put, List.setIfInBounds_toArray, List.set_cons_zero, List.set_cons_succ]
              exact hK'
          iterate 2
            apply Flow.asg _ rfl
            · intro K' hK'
              simp only [Act.put, Act.eval, List.setIfInBounds_toArray, List.set_cons_zero, List.set_cons_succ, arr_getD, List.getD_cons_zero, List.getD_cons_succ]
              exact hK'
          refine Flow.done ?_
          go_wp2_with fail
          exact ⟨⟨i + 1, _, _, _, _, hlt, by go_num, rfl, rfl, rfl, rfl, Hn, hbr.drew⟩, by simp [intOf]; omega⟩
      · obtain rfl : i = W * H := by omega
        have hbd := hinv.out.bd (Nat.le_refl _)
        have k2 := ((w22.bl hb3).bl hbr).all4
        have hle := (w2b.trans hb3).trans hbr
        rcases hinv.out.done with ⟨hr, hbi⟩ | ⟨hr, hbi⟩
        · have Hbi := Lib.hid hbi
          clear hinv hbi
          go_wp2_with fail
          have hp := Hp.out
          refine bodyPost_ret (v := .tuple #[.agg #[.int .i64 0, .int .i64 0, .int .i64 0, .int .i64 0], .int .i64 10]) (by simp [results, Tryz.results238, go_sem, k2]) rfl ⟨_, _, _, _, _, rfl, fun h => absurd hp h, fun _ => by first | exact ⟨false, by simpa using Hbi.out, rfl⟩ | exact Or.inl ⟨by simpa using Hbi.out, rfl⟩, ?_⟩
          exact ((((hle.setCell (by simp) _).setCell (by simp) _).setCell (by simp) _).setCell (by simp) _)
        · have Hbi := Lib.hid hbi
          clear hinv hbi
          go_wp2_with fail
          have hp := Hp.out
          refine bodyPost_ret (v := .tuple #[.agg #[.int .i64 l, .int .i64 t, .int .i64 (r - l + 1), .int .i64 (z - t + 1)], .int .i64 0]) (by simp [results, Tryz.results238, go_sem, k2]) rfl ⟨_, _, _, _, _, rfl, fun h => absurd hp h, fun _ => by first | exact ⟨true, by simpa using Hbi.out, rfl⟩ | exact Or.inr ⟨by simpa using Hbi.out, rfl⟩, ?_⟩
          exact ((((hle.setCell (by simp) _).setCell (by simp) _).setCell (by simp) _).setCell (by simp) _)
  · have hq : (pageErr W H an != 0) = true := by simp [hp]
    have Hp := Lib.hid hp
    clear hp
    go_enter Tryz.func238, Tryz.ntmps238
    go_wp2_with fail
    refine (checkBits_any _ _ _ _ _ _).mono ?_
    rintro e w3 ⟨rfl, hb3⟩
    have k2 := (w22.bl hb3).all4
    go_wp2_with fail
    refine bodyPost_ret (v := .tuple #[.agg #[.int .i64 0, .int .i64 0, .int .i64 0, .int .i64 0], .int .i64 (pageErr W H an)]) (by simp [results, Tryz.results238, go_sem, k2]) rfl ⟨_, _, _, _, _, rfl, fun _ => ⟨rfl, rfl, rfl, rfl, rfl⟩, fun h => absurd h Hp.out, ?_⟩
    exact (((((w2b.trans hb3).setCell (by simp) _).setCell (by simp) _).setCell (by simp) _).setCell (by simp) _)

end Go.Proofs.YtjelhdpcaileiaaGreatDoor


/-! boxes in pages, Cut and Ink. -/
namespace Go.Proofs.YtjelhdpcaileiaaGreatDoor
open Go.RowKit

/-! ### boxes -/
def inPageB (X Y BW BH W H : Int) : Bool := decide (0 ≤ X ∧ X < W ∧ 0 ≤ Y ∧ Y < H ∧ 1 ≤ BW ∧ BW ≤ W - X ∧ 1 ≤ BH ∧ BH ≤ H - Y)
def inPageW (X Y BW BH W H : Int) : Bool := inB X 0 (wrap64 (W - 1)) && (inB Y 0 (wrap64 (H - 1)) && (inB BW 1 (wrap64 (W - X)) && inB BH 1 (wrap64 (H - Y))))
theorem inPageW_eq {X Y BW BH W H : Int} (hW : 1 ≤ W ∧ W ≤ 4000) (hH : 1 ≤ H ∧ H ≤ 4000) : inPageW X Y BW BH W H = inPageB X Y BW BH W H := by
  have e1 : wrap64 (W - 1) = W - 1 := by unfold wrap64; omega
  have e2 : wrap64 (H - 1) = H - 1 := by unfold wrap64; omega
  rw [Bool.eq_iff_iff]
  unfold inPageW inPageB
  simp only [e1, e2, Bool.and_eq_true, inB_true, decide_eq_true_eq]
  constructor
  · rintro ⟨h1, h2, h3, h4⟩
    have e3 : wrap64 (W - X) = W - X := by unfold wrap64; omega
    have e4 : wrap64 (H - Y) = H - Y := by unfold wrap64; omega
    rw [e3] at h3
    rw [e4] at h4
    omega
  · rintro ⟨h1, h2, h3, h4, h5⟩
    have e3 : wrap64 (W - X) = W - X := by unfold wrap64; omega
    have e4 : wrap64 (H - Y) = H - Y := by unfold wrap64; omega
    rw [e3, e4]
    omega

set_option maxHeartbeats 1000000 in
theorem inPageOf_any (X Y BW BH W H : Int) (w : World) :
    Calls Tryz.prog 38 #[.agg #[.int .i64 X, .int .i64 Y, .int .i64 BW, .int .i64 BH], .int .i64 W, .int .i64 H] w fun e w' => e = .returned (.bool (inPageW X Y BW BH W H)) ∧ Bl w w' := by
  unfold inPageW
  cases h1 : inB X 0 (wrap64 (W - 1))
  case false =>
    go_enter Tryz.func38, Tryz.ntmps38
    go_wp2_with (go_at_call 24; refine (in_any _ _ _ _).mono ?_; rintro e w' ⟨rfl, rfl⟩)
    go_ret
    exact ⟨rfl, (Bl.refl _).alloc _⟩
  case true =>
    cases h2 : inB Y 0 (wrap64 (H - 1))
    case false =>
      go_enter Tryz.func38, Tryz.ntmps38
      go_wp2_with (go_at_call 24; refine (in_any _ _ _ _).mono ?_; rintro e w' ⟨rfl, rfl⟩)
      go_ret
      exact ⟨rfl, (Bl.refl _).alloc _⟩
    case true =>
      cases h3 : inB BW 1 (wrap64 (W - X))
      case false =>
        go_enter Tryz.func38, Tryz.ntmps38
        go_wp2_with (go_at_call 24; refine (in_any _ _ _ _).mono ?_; rintro e w' ⟨rfl, rfl⟩)
        go_ret
        exact ⟨rfl, (Bl.refl _).alloc _⟩
      case true =>
        go_enter Tryz.func38, Tryz.ntmps38
        go_wp2_with (go_at_call 24; refine (in_any _ _ _ _).mono ?_; rintro e w' ⟨rfl, rfl⟩)
        go_ret
        exact ⟨by simp, (Bl.refl _).alloc _⟩

set_option maxRecDepth 100000 in
set_option maxHeartbeats 2000000 in
theorem inPage_any (X Y BW BH : Int) (W H : Nat) (w : World) (hW : 1 ≤ W ∧ W ≤ 4000) (hH : 1 ≤ H ∧ H ≤ 4000) :
    Calls Tryz.prog 190 #[.agg #[.int .i64 X, .int .i64 Y, .int .i64 BW, .int .i64 BH], .int .i64 W, .int .i64 H] w fun e w' => e = .returned (.int .i64 (whenI (!inPageB X Y BW BH W H) 13)) ∧ Bl w w' := by
  by_cases hall : 0 ≤ X ∧ X < W ∧ 0 ≤ Y ∧ Y < H ∧ 1 ≤ BW ∧ BW ≤ W - X ∧ 1 ≤ BH ∧ BH ≤ H - Y
  · have e : inPageB X Y BW BH W H = true := by unfold inPageB; exact decide_eq_true hall
    rw [e]
    clear e
    obtain ⟨c1, c2, c3, c4, c5, c6, c7, c8⟩ := hall
    go_enter Tryz.func190, Tryz.ntmps190
    go_wp2_with fail
    go_ret
    exact ⟨rfl, (Bl.refl _).alloc _⟩
  · have e : inPageB X Y BW BH W H = false := by unfold inPageB; exact decide_eq_false hall
    rw [e]
    clear e
    rcases (show BW < 1 ∨ (¬ BW < 1 ∧ BH < 1) ∨ (¬ BW < 1 ∧ ¬ BH < 1 ∧ X < 0) ∨ (¬ BW < 1 ∧ ¬ BH < 1 ∧ ¬ X < 0 ∧ Y < 0) ∨ (¬ BW < 1 ∧ ¬ BH < 1 ∧ ¬ X < 0 ∧ ¬ Y < 0 ∧ (W : Int) ≤ X) ∨ (¬ BW < 1 ∧ ¬ BH < 1 ∧ ¬ X < 0 ∧ ¬ Y < 0 ∧ ¬ (W : Int) ≤ X ∧ (H : Int) ≤ Y) ∨
      (¬ BW < 1 ∧ ¬ BH < 1 ∧ ¬ X < 0 ∧ ¬ Y < 0 ∧ ¬ (W : Int) ≤ X ∧ ¬ (H : Int) ≤ Y ∧ (W : Int) - X < BW) ∨ (¬ BW < 1 ∧ ¬ BH < 1 ∧ ¬ X < 0 ∧ ¬ Y < 0 ∧ ¬ (W : Int) ≤ X ∧ ¬ (H : Int) ≤ Y ∧ ¬ (W : Int) - X < BW ∧ (H : Int) - Y < BH) by omega) with
      c1 | ⟨c1, c2⟩ | ⟨c1, c2, c3⟩ | ⟨c1, c2, c3, c4⟩ | ⟨c1, c2, c3, c4, c5⟩ | ⟨c1, c2, c3, c4, c5, c6⟩ | ⟨c1, c2, c3, c4, c5, c6, c7⟩ | ⟨c1, c2, c3, c4, c5, c6, c7, c8⟩
    all_goals
      clear hall
      go_enter Tryz.func190, Tryz.ntmps190
      go_wp2_with fail
      go_ret
      exact ⟨rfl, (Bl.refl _).alloc _⟩

def cutErr (W H : Int) (n : Nat) (X Y BW BH : Int) : Int := firstNZ [pageErr W H n, whenI (!inPageB X Y BW BH W H) 13]
theorem cutErr_zero {W H : Int} {n : Nat} {X Y BW BH : Int} (h : cutErr W H n X Y BW BH = 0) : pageErr W H n = 0 ∧ 0 ≤ X ∧ X < W ∧ 0 ≤ Y ∧ Y < H ∧ 1 ≤ BW ∧ BW ≤ W - X ∧ 1 ≤ BH ∧ BH ≤ H - Y := by
  unfold cutErr firstNZ at h
  split at h
  · rename_i h0
    refine ⟨h0, ?_⟩
    cases hi : inPageB X Y BW BH W H
    · rw [hi] at h; simp [firstNZ, whenI] at h
    · exact of_decide_eq_true hi
  · contradiction
set_option maxRecDepth 100000 in
set_option maxHeartbeats 1000000 in
theorem checkBoth_any (W H : Int) (A : Option Addr) (an ac : Nat) (X Y BW BH : Int) (w : World) :
    Calls Tryz.prog 111 #[.agg #[.int .i64 W, .int .i64 H, .slice A an ac], .agg #[.int .i64 X, .int .i64 Y, .int .i64 BW, .int .i64 BH]] w fun e w' => e = .returned (.int .i64 (cutErr W H an X Y BW BH)) ∧ Bl w w' := by
  let w2 := ((w).alloc (.cells #[.int .i64 W, .int .i64 H, .slice A an ac] 28)).alloc (.cells #[.int .i64 X, .int .i64 Y, .int .i64 BW, .int .i64 BH] 81)
  have w2b : Bl w w2 := ((Bl.refl w).alloc _).alloc _
  have w21 : Blk w2 (w.heap.size) 28 #[.int .i64 W, .int .i64 H, .slice A an ac] := by
    have h0 := Blk.new (w) 28 #[.int .i64 W, .int .i64 H, .slice A an ac]
    exact (h0.alloc _)
  have w22 : Blk w2 (w.heap.size + 1) 81 #[.int .i64 X, .int .i64 Y, .int .i64 BW, .int .i64 BH] := by
    have h0 := Blk.new ((w).alloc (.cells #[.int .i64 W, .int .i64 H, .slice A an ac] 28)) 81 #[.int .i64 X, .int .i64 Y, .int .i64 BW, .int .i64 BH]
    simp only [World.size_alloc] at h0
    exact h0
  have k1 := w21.all3
  by_cases hp : pageErr W H an = 0
  · have e : cutErr W H an X Y BW BH = whenI (!inPageB X Y BW BH W H) 13 := by
      unfold cutErr
      simp only [firstNZ, if_pos hp]
      split <;> simp_all
    rw [e]
    clear e
    have hz := sizeErr_zero (pageErr_zero hp).1
    obtain ⟨W, H, rfl, rfl, rfl, u1, u2, u3⟩ := page_nat hp
    have hW : 1 ≤ W ∧ W ≤ 4000 := by omega
    have hH : 1 ≤ H ∧ H ≤ 4000 := by omega
    clear hz
    go_enter Tryz.func111, Tryz.ntmps111
    go_wp2_with fail
    refine (checkBits_any _ _ _ _ _ _).mono ?_
    rintro e w3 ⟨rfl, hb3⟩
    have k3 := (w21.bl hb3).all3
    have k4 := (w22.bl hb3).all4
    clear k1
    go_wp2_with fail
    refine (inPage_any X Y BW BH W H _ hW hH).mono ?_
    rintro e w4 ⟨rfl, hb4⟩
    go_wp2_with fail
    go_ret
    exact ⟨rfl, (w2b.trans hb3).trans hb4⟩
  · have e : cutErr W H an X Y BW BH = pageErr W H an := by unfold cutErr; simp only [firstNZ, if_neg hp]
    have hq : (pageErr W H an != 0) = true := by simp [hp]
    rw [e]
    clear e hp
    go_enter Tryz.func111, Tryz.ntmps111
    go_wp2_with fail
    refine (checkBits_any _ _ _ _ _ _).mono ?_
    rintro e w3 ⟨rfl, hb3⟩
    go_wp2_with fail
    go_ret
    exact ⟨rfl, w2b.trans hb3⟩

/-! ### Cut -/
def cutF (bs : List Bool) (W X Y x y : Nat) : Bool := pix bs W (X + x) (Y + y)
set_option maxRecDepth 100000 in
set_option maxHeartbeats 1000000 in
theorem cut1_any (p q W H X Y BW BH : Nat) (A : Option Addr) (ac : Nat) (bs : List Bool) (x y : Nat) (w : World) (hp : Blk w p 28 #[.int .i64 W, .int .i64 H, .slice A (W * H) ac]) (hq : Blk w q 81 #[.int .i64 X, .int .i64 Y, .int .i64 BW, .int .i64 BH])
    (hA : Reads w 1 A (W * H) (bs.map .bool)) (hW : W ≤ 4000) (hH : H ≤ 4000) (hx : x < BW) (hy : y < BH) (hX : X + BW ≤ W) (hY : Y + BH ≤ H) :
    Calls Tryz.prog 339 #[.int .i64 x, .int .i64 y, .pointer (some ⟨p, 0, none⟩), .pointer (some ⟨q, 0, none⟩)] w fun e w' => e = .returned (.bool (cutF bs W X Y x y)) ∧ Bl w w' := by
  have kp := hp.all3
  have kq := hq.all4
  have lx : X + x < W := by omega
  have ly : Y + y < H := by omega
  obtain ⟨ad, rfl, hc⟩ := hA.place lx ly
  have hk := place_lt lx ly
  obtain ⟨k, hkk⟩ : ∃ k, k = (Y + y) * W + (X + x) := ⟨_, rfl⟩
  rw [← hkk] at hc hk
  have f0 := Int.natCast_mul (Y + y) W
  have f1 : ((Y : Int) + (y : Int)) * (W : Int) + (X : Int) + (x : Int) = (k : Int) := by rw [hkk]; push_cast; omega
  have f2 : (k : Int) < (W : Int) * (H : Int) := by have := Int.natCast_mul W H; omega
  have f3 : (0 : Int) ≤ ((Y : Int) + (y : Int)) * (W : Int) ∧ ((Y : Int) + (y : Int)) * (W : Int) ≤ 16000000 := by
    have := Nat.mul_le_mul (show Y + y ≤ 4000 by omega) hW
    push_cast at f0
    omega
  unfold cutF
  obtain ⟨v, hv⟩ : ∃ v, v = pix bs W (X + x) (Y + y) := ⟨_, rfl⟩
  rw [← hv] at hc ⊢
  have Hkk := Lib.hid hkk
  clear hv hkk hA f0
  go_enter Tryz.func339, Tryz.ntmps339
  go_wp2_with fail
  go_ret
  exact ⟨rfl, by first | exact Bl.refl _ | exact (Bl.refl _).drew⟩
set_option maxRecDepth 100000 in
set_option maxHeartbeats 2000000 in
theorem cut_any (W H : Int) (A : Option Addr) (an ac : Nat) (bs : List Bool) (X Y BW BH : Int) (w : World) (hA : Reads w 1 A an (bs.map .bool)) :
    Calls Tryz.prog 268 #[.agg #[.int .i64 W, .int .i64 H, .slice A an ac], .agg #[.int .i64 X, .int .i64 Y, .int .i64 BW, .int .i64 BH]] w fun e w' => ∃ a b R m d, e = .returned (.tuple #[.agg #[.int .i64 a, .int .i64 b, .slice R m d], .int .i64 (cutErr W H an X Y BW BH)]) ∧
      Res w.heap.size w' (cutErr W H an X Y BW BH) BW.toNat BH.toNat ((grid BW.toNat BH.toNat (cutF bs W.toNat X.toNat Y.toNat)).map .bool) a b R m d ∧ Bl w w' := by
  by_cases he : cutErr W H an X Y BW BH = 0
  · obtain ⟨hp, c1, c2, c3, c4, c5, c6, c7, c8⟩ := cutErr_zero he
    obtain ⟨W, H, rfl, rfl, rfl, u1, u2, u3⟩ := page_nat hp
    obtain ⟨X, rfl⟩ := Int.eq_ofNat_of_zero_le c1
    obtain ⟨Y, rfl⟩ := Int.eq_ofNat_of_zero_le c3
    obtain ⟨BW, rfl⟩ := Int.eq_ofNat_of_zero_le (show 0 ≤ BW by omega)
    obtain ⟨BH, rfl⟩ := Int.eq_ofNat_of_zero_le (show 0 ≤ BH by omega)
    have hX : X + BW ≤ W := by omega
    have hY : Y + BH ≤ H := by omega
    have hsz : BW * BH ≤ 1048576 := Nat.le_trans (Nat.mul_le_mul (show BW ≤ W by omega) (show BH ≤ H by omega)) u3
    simp only [Int.toNat_natCast]
    clear c1 c2 c3 c4 c5 c6 c7 c8 hp
    let w2 := (((w).alloc (.cells #[.int .i64 W, .int .i64 H, .slice A (W * H) ac] 28)).alloc (.cells #[.int .i64 X, .int .i64 Y, .int .i64 BW, .int .i64 BH] 81)).alloc (.cells #[.int .i64 0, .int .i64 0, .slice none 0 0] 28)
    have w2b : Bl w w2 := (((Bl.refl w).alloc _).alloc _).alloc _
    have w21 : Blk w2 (w.heap.size) 28 #[.int .i64 W, .int .i64 H, .slice A (W * H) ac] := by
      have h0 := Blk.new (w) 28 #[.int .i64 W, .int .i64 H, .slice A (W * H) ac]
      exact ((h0.alloc _).alloc _)
    have w22 : Blk w2 (w.heap.size + 1) 81 #[.int .i64 X, .int .i64 Y, .int .i64 BW, .int .i64 BH] := by
      have h0 := Blk.new ((w).alloc (.cells #[.int .i64 W, .int .i64 H, .slice A (W * H) ac] 28)) 81 #[.int .i64 X, .int .i64 Y, .int .i64 BW, .int .i64 BH]
      simp only [World.size_alloc] at h0
      exact (h0.alloc _)
    have w23 : Blk w2 (w.heap.size + 1 + 1) 28 #[.int .i64 0, .int .i64 0, .slice none 0 0] := by
      have h0 := Blk.new (((w).alloc (.cells #[.int .i64 W, .int .i64 H, .slice A (W * H) ac] 28)).alloc (.cells #[.int .i64 X, .int .i64 Y, .int .i64 BW, .int .i64 BH] 81)) 28 #[.int .i64 0, .int .i64 0, .slice none 0 0]
      simp only [World.size_alloc] at h0
      exact h0
    have k1 := w21.all3
    have k2 := w22.all4
    have hA2 := hA.bl w2b
    have HA := Lib.hid hA2
    clear hA hA2
    go_enter Tryz.func268, Tryz.ntmps268
    go_wp2_with fail
    refine (checkBoth_any _ _ _ _ _ _ _ _ _ _).mono ?_
    rintro e w3 ⟨rfl, hb3⟩
    have k1 := (w21.bl hb3).all3
    have k2 := (w22.bl hb3).all4
    have hle := w2b.trans hb3
    have hP : Paints Tryz.prog 339 #[.pointer (some ⟨w.heap.size, 0, none⟩), .pointer (some ⟨w.heap.size + 1, 0, none⟩)] Value.bool w3 BW BH (cutF bs W X Y) :=
      ⟨enters Tryz.func339 (by kernel_rfl) rfl, fun wx x y hb hx hy => cut1_any _ _ W H X Y BW BH A ac bs x y wx ((w21.bl hb3).bl hb) ((w22.bl hb3).bl hb) ((HA.out.bl hb3).bl hb) u1 u2 hx hy hX hY⟩
    have HP := Lib.hid hP
    clear hP
    go_wp2_with fail
    refine (made_any BW BH _ _ _ _ (by omega) (by omega) hsz HP.out).mono ?_
    rintro e w6 ⟨r, rfl, hpg, hb6⟩
    have k3 := (w23.bl (hb3.trans hb6)).all3
    have hle6 := hle.trans hb6
    have hsz3 := (w23.bl hb3).lt
    obtain ⟨R, rc, rfl, hR, hRn⟩ := hpg
    have hRn' : ∀ ad, R = some ad → w.heap.size + 3 ≤ ad.block := fun ad h => by have := hRn ad h; omega
    have HR := Lib.hid hR; have HRn := Lib.hid hRn'
    clear hR hRn hRn'
    go_wp2_with fail
    refine bodyPost_ret (v := .tuple #[.agg #[.int .i64 BW, .int .i64 BH, .slice R (BW * BH) rc], .int .i64 0]) (by simp [results, Tryz.results268, go_sem, k3]) rfl ⟨_, _, R, _, rc, by rw [he], Res.page he ?_ (fun ad h => by have := HRn.out ad h; omega), ?_⟩
    · exact ((HR.out.store HRn.out (by simp) _).store HRn.out (by simp) _).store HRn.out (by simp) _
    · exact (((hle6.setCell (by simp; omega) _).setCell (by simp; omega) _).setCell (by simp; omega) _)
  · have hq : (cutErr W H an X Y BW BH != 0) = true := by simp [he]
    have He := Lib.hid he
    clear he hA
    let w2 := (((w).alloc (.cells #[.int .i64 W, .int .i64 H, .slice A an ac] 28)).alloc (.cells #[.int .i64 X, .int .i64 Y, .int .i64 BW, .int .i64 BH] 81)).alloc (.cells #[.int .i64 0, .int .i64 0, .slice none 0 0] 28)
    have w2b : Bl w w2 := (((Bl.refl w).alloc _).alloc _).alloc _
    have w21 : Blk w2 (w.heap.size) 28 #[.int .i64 W, .int .i64 H, .slice A an ac] := by
      have h0 := Blk.new (w) 28 #[.int .i64 W, .int .i64 H, .slice A an ac]
      exact ((h0.alloc _).alloc _)
    have w22 : Blk w2 (w.heap.size + 1) 81 #[.int .i64 X, .int .i64 Y, .int .i64 BW, .int .i64 BH] := by
      have h0 := Blk.new ((w).alloc (.cells #[.int .i64 W, .int .i64 H, .slice A an ac] 28)) 81 #[.int .i64 X, .int .i64 Y, .int .i64 BW, .int .i64 BH]
      simp only [World.size_alloc] at h0
      exact (h0.alloc _)
    have w23 : Blk w2 (w.heap.size + 1 + 1) 28 #[.int .i64 0, .int .i64 0, .slice none 0 0] := by
      have h0 := Blk.new (((w).alloc (.cells #[.int .i64 W, .int .i64 H, .slice A an ac] 28)).alloc (.cells #[.int .i64 X, .int .i64 Y, .int .i64 BW, .int .i64 BH] 81)) 28 #[.int .i64 0, .int .i64 0, .slice none 0 0]
      simp only [World.size_alloc] at h0
      exact h0
    have k1 := w21.all3
    have k2 := w22.all4
    go_enter Tryz.func268, Tryz.ntmps268
    go_wp2_with fail
    refine (checkBoth_any _ _ _ _ _ _ _ _ _ _).mono ?_
    rintro e w3 ⟨rfl, hb3⟩
    have k3 := (w23.bl hb3).all3
    go_wp2_with fail
    refine bodyPost_ret (v := .tuple #[.agg #[.int .i64 0, .int .i64 0, .slice none 0 0], .int .i64 (cutErr W H an X Y BW BH)]) (by simp [results, Tryz.results268, go_sem, k3]) rfl ⟨_, _, _, _, _, rfl, Res.zero _ _ _ _ _ He.out, ?_⟩
    exact ((((w2b.trans hb3).setCell (by simp; omega) _).setCell (by simp; omega) _).setCell (by simp; omega) _)

/-! ### Ink -/
set_option maxRecDepth 100000 in
set_option maxHeartbeats 2000000 in
theorem ink_any (W H : Int) (A : Option Addr) (an ac : Nat) (bs : List Bool) (X Y BW BH : Int) (w : World) (hA : Reads w 1 A an (bs.map .bool)) :
    Calls Tryz.prog 338 #[.agg #[.int .i64 W, .int .i64 H, .slice A an ac], .agg #[.int .i64 X, .int .i64 Y, .int .i64 BW, .int .i64 BH]] w fun e w' => ∃ n : Nat, e = .returned (.tuple #[.int .i64 n, .int .i64 (cutErr W H an X Y BW BH)]) ∧
      (cutErr W H an X Y BW BH ≠ 0 → n = 0) ∧ (cutErr W H an X Y BW BH = 0 → n = inkN bs W.toNat X.toNat Y.toNat BW.toNat BH.toNat) ∧ Bl w w' := by
  let w2 := ((w).alloc (.cells #[.int .i64 W, .int .i64 H, .slice A an ac] 28)).alloc (.cells #[.int .i64 X, .int .i64 Y, .int .i64 BW, .int .i64 BH] 81)
  have w2b : Bl w w2 := ((Bl.refl w).alloc _).alloc _
  have w21 : Blk w2 (w.heap.size) 28 #[.int .i64 W, .int .i64 H, .slice A an ac] := by
    have h0 := Blk.new (w) 28 #[.int .i64 W, .int .i64 H, .slice A an ac]
    exact (h0.alloc _)
  have w22 : Blk w2 (w.heap.size + 1) 81 #[.int .i64 X, .int .i64 Y, .int .i64 BW, .int .i64 BH] := by
    have h0 := Blk.new ((w).alloc (.cells #[.int .i64 W, .int .i64 H, .slice A an ac] 28)) 81 #[.int .i64 X, .int .i64 Y, .int .i64 BW, .int .i64 BH]
    simp only [World.size_alloc] at h0
    exact h0
  have k1 := w21.all3
  have k2 := w22.all4
  have hA2 := hA.bl w2b
  have HA := Lib.hid hA2
  clear hA hA2
  go_enter Tryz.func338, Tryz.ntmps338
  go_wp2_with fail
  refine (cut_any W H A an ac bs X Y BW BH _ HA.out).mono ?_
  rintro e w3 ⟨a, b, R, m, d, rfl, hres, hb3⟩
  have hlist : ∃ xs : List Bool, Reads w3 1 R m (xs.map .bool) ∧ m ≤ 1048576 ∧ (cutErr W H an X Y BW BH ≠ 0 → m = 0) ∧ (cutErr W H an X Y BW BH = 0 → sumN (fun i => b1 (xs.getD i false)) m = inkN bs W.toNat X.toNat Y.toNat BW.toNat BH.toNat) := by
    by_cases he : cutErr W H an X Y BW BH = 0
    · obtain ⟨R', c', e', hr, _⟩ := hres.1 he
      simp only [Value.agg.injEq, List.cons.injEq, Value.slice.injEq, and_true, Array.mk.injEq] at e'
      obtain ⟨_, _, rfl, rfl, rfl⟩ := e'
      obtain ⟨hp, c1, c2, c3, c4, c5, c6, c7, c8⟩ := cutErr_zero he
      obtain ⟨W, H, rfl, rfl, rfl, u1, u2, u3⟩ := page_nat hp
      refine ⟨_, hr, ?_, fun h => absurd he h, fun _ => ?_⟩
      · exact Nat.le_trans (Nat.mul_le_mul (show BW.toNat ≤ W by omega) (show BH.toNat ≤ H by omega)) u3
      · rw [ink_grid]; rfl
    · obtain ⟨_, _, rfl, rfl, _⟩ := hres.2 he
      exact ⟨[], Reads.none_, by omega, fun _ => rfl, fun h => absurd h he⟩
  obtain ⟨xs, hxs, hm, hz1, hz2⟩ := hlist
  have b3 := Blk.new w3 28 #[.int .i64 a, .int .i64 b, .slice R m d]
  have hb4 : Bl w2 (w3.alloc (.cells #[.int .i64 a, .int .i64 b, .slice R m d] 28)) := hb3.alloc _
  have hxs4 := hxs.bl ((Bl.refl w3).alloc (.cells #[.int .i64 a, .int .i64 b, .slice R m d] 28))
  have Hxs := Lib.hid hxs4; have Hz1 := Lib.hid hz1; have Hz2 := Lib.hid hz2
  clear hres hxs hxs4 hz1 hz2 k1 k2
  have k3 := b3.all3
  go_wp2_with fail
  go_loop [8, 20] (fun n u => ∃ i : Nat, i ≤ m ∧ u = .int .i64 i ∧ n = .int .i64 ((sumN (fun i => b1 (xs.getD i false)) i : Nat) : Int)) (fun _ u => m - (intOf u).toNat)
  case atStart => exact ⟨0, Nat.zero_le _, rfl, rfl⟩
  case round =>
    clear k3
    obtain ⟨i, hi, rfl, rfl⟩ := hrel
    by_cases hlt : i < m
    · obtain ⟨ad, ua, eA, hu, hca⟩ := Hxs.out.at_ hlt
      have hua : ua = .bool (xs.getD i false) := by
        simp only [List.getElem?_map, Option.map_eq_some_iff] at hu
        obtain ⟨b, hb1, hb2⟩ := hu
        rw [← hb2, List.getD, hb1]; rfl
      clear hu
      subst hua eA
      have hst : sumN (fun i => b1 (xs.getD i false)) (i + 1) = sumN (fun i => b1 (xs.getD i false)) i + b1 (xs.getD i false) := rfl
      have hle : sumN (fun i => b1 (xs.getD i false)) i ≤ i * 1 := sumN_le (fun _ => b1_le _) i
      obtain ⟨n, hn⟩ : ∃ n, n = sumN (fun i => b1 (xs.getD i false)) i := ⟨_, rfl⟩
      obtain ⟨va, hva⟩ : ∃ v, v = xs.getD i false := ⟨_, rfl⟩
      rw [← hn] at hst hle ⊢
      rw [← hva] at hst hca
      have Hst := Lib.hid hst
      clear hn hva hst
      cases va
      all_goals
        go_wp2_with fail
        exact ⟨⟨i + 1, hlt, by go_num, by rw [Hst.out]; simp [b1]⟩, by simp [intOf]; omega⟩
    · obtain rfl : i = m := by omega
      go_wp2_with fail
      refine bodyPost_ret (v := .tuple #[.int .i64 ((sumN (fun i => b1 (xs.getD i false)) i : Nat) : Int), .int .i64 (cutErr W H an X Y BW BH)]) (by simp [results, Tryz.results338, go_sem]) rfl ⟨_, rfl, fun h => ?_, Hz2.out, w2b.trans hb4⟩
      rw [Hz1.out h]; rfl

end Go.Proofs.YtjelhdpcaileiaaGreatDoor


/-! bedref2.CutOf. -/
namespace Go.Proofs.YtjelhdpcaileiaaGreatDoor
open Go.RowKit

set_option maxRecDepth 100000 in
set_option maxHeartbeats 1000000 in
theorem cutOf1_any (p q W H X Y BW BH : Nat) (A : Option Addr) (ac : Nat) (bs : List Bool) (x y : Nat) (w : World) (hp : Blk w p 28 #[.int .i64 W, .int .i64 H, .slice A (W * H) ac]) (hq : Blk w q 81 #[.int .i64 X, .int .i64 Y, .int .i64 BW, .int .i64 BH])
    (hA : Reads w 1 A (W * H) (bs.map .bool)) (hW : W ≤ 4000) (hH : H ≤ 4000) (hx : x < BW) (hy : y < BH) (hX : X + BW ≤ W) (hY : Y + BH ≤ H) :
    Calls Tryz.prog 248 #[.int .i64 x, .int .i64 y, .pointer (some ⟨p, 0, none⟩), .pointer (some ⟨q, 0, none⟩)] w fun e w' => e = .returned (.bool (cutF bs W X Y x y)) ∧ Bl w w' := by
  have kp := hp.all3
  have kq := hq.all4
  have hat := at_any W H A ac bs ((X + x : Nat) : Int) ((Y + y : Nat) : Int) w hA hW hH
  rw [atI_in bs W H _ _ (by omega) (by omega)] at hat
  have e1 : ((X + x : Nat) : Int) = (X : Int) + (x : Int) := by simp
  have e2 : ((Y + y : Nat) : Int) = (Y : Int) + (y : Int) := by simp
  rw [e1, e2] at hat
  have Hat := Lib.hid hat
  clear hat hA e1 e2
  go_enter Tryz.func248, Tryz.ntmps248
  go_wp2_with fail
  refine Hat.out.mono ?_
  rintro e w1 ⟨rfl, hb1⟩
  go_wp2_with fail
  go_ret
  exact ⟨rfl, hb1⟩
set_option maxRecDepth 100000 in
set_option maxHeartbeats 1000000 in
theorem cutOf_any (W H X Y BW BH : Nat) (A : Option Addr) (ac : Nat) (bs : List Bool) (w : World) (hA : Reads w 1 A (W * H) (bs.map .bool)) (hW : W ≤ 4000) (hH : H ≤ 4000) (hX : X + BW ≤ W) (hY : Y + BH ≤ H) :
    Calls Tryz.prog 181 #[.agg #[.int .i64 W, .int .i64 H, .slice A (W * H) ac], .agg #[.int .i64 X, .int .i64 Y, .int .i64 BW, .int .i64 BH]] w fun e w' => ∃ R rc, e = .returned (.agg #[.int .i64 BW, .int .i64 BH, .slice R (BW * BH) rc]) ∧ Reads w' 1 R (BW * BH) ((grid BW BH (cutF bs W X Y)).map .bool) ∧ (∀ ad, R = some ad → w.heap.size + 3 ≤ ad.block) ∧ Bl w w' := by
  let w2 := (((w).alloc (.cells #[.int .i64 W, .int .i64 H, .slice A (W * H) ac] 28)).alloc (.cells #[.int .i64 X, .int .i64 Y, .int .i64 BW, .int .i64 BH] 81)).alloc (.cells #[.int .i64 0, .int .i64 0, .slice none 0 0] 28)
  have w2b : Bl w w2 := (((Bl.refl w).alloc _).alloc _).alloc _
  have w21 : Blk w2 (w.heap.size) 28 #[.int .i64 W, .int .i64 H, .slice A (W * H) ac] := by
    have h0 := Blk.new (w) 28 #[.int .i64 W, .int .i64 H, .slice A (W * H) ac]
    exact ((h0.alloc _).alloc _)
  have w22 : Blk w2 (w.heap.size + 1) 81 #[.int .i64 X, .int .i64 Y, .int .i64 BW, .int .i64 BH] := by
    have h0 := Blk.new ((w).alloc (.cells #[.int .i64 W, .int .i64 H, .slice A (W * H) ac] 28)) 81 #[.int .i64 X, .int .i64 Y, .int .i64 BW, .int .i64 BH]
    simp only [World.size_alloc] at h0
    exact (h0.alloc _)
  have w23 : Blk w2 (w.heap.size + 1 + 1) 28 #[.int .i64 0, .int .i64 0, .slice none 0 0] := by
    have h0 := Blk.new (((w).alloc (.cells #[.int .i64 W, .int .i64 H, .slice A (W * H) ac] 28)).alloc (.cells #[.int .i64 X, .int .i64 Y, .int .i64 BW, .int .i64 BH] 81)) 28 #[.int .i64 0, .int .i64 0, .slice none 0 0]
    simp only [World.size_alloc] at h0
    exact h0
  have hbd : BW * BH ≤ 16000000 := by have := Nat.mul_le_mul (show BW ≤ 4000 by omega) (show BH ≤ 4000 by omega); omega
  have hP : Paints Tryz.prog 248 #[.pointer (some ⟨w.heap.size, 0, none⟩), .pointer (some ⟨w.heap.size + 1, 0, none⟩)] Value.bool w2 BW BH (cutF bs W X Y) :=
    ⟨enters Tryz.func248 (by kernel_rfl) rfl, fun wy x y hb hx hy => cutOf1_any _ _ W H X Y BW BH A ac bs x y wy (w21.bl hb) (w22.bl hb) ((hA.bl w2b).bl hb) hW hH hx hy hX hY⟩
  have HP := Lib.hid hP
  clear hP hA
  have k2 := w22.all4
  go_enter Tryz.func181, Tryz.ntmps181
  go_wp2_with fail
  refine (Made_any BW BH _ _ _ _ (by omega) (by omega) (by omega) HP.out).mono ?_
  rintro e w6 ⟨r, rfl, hpg, hb6⟩
  have kr3 := (w23.bl hb6).all3
  have hsz3 := w23.lt
  have hle6 := w2b.trans hb6
  obtain ⟨R, rc, rfl, hR, hRn⟩ := hpg
  have hRn' : ∀ ad, R = some ad → w.heap.size + 3 ≤ ad.block := fun ad h => by have := hRn ad h; omega
  have HR := Lib.hid hR; have HRn := Lib.hid hRn'
  clear hR hRn hRn'
  go_wp2_with fail
  refine bodyPost_ret (v := .agg #[.int .i64 BW, .int .i64 BH, .slice R (BW * BH) rc]) (by simp [results, Tryz.results181, go_sem, kr3]) rfl ⟨R, rc, rfl, ?_, HRn.out, ?_⟩
  · exact ((HR.out.store HRn.out (by simp) _).store HRn.out (by simp) _).store HRn.out (by simp) _
  · exact (((hle6.setCell (by simp; omega) _).setCell (by simp; omega) _).setCell (by simp; omega) _)

end Go.Proofs.YtjelhdpcaileiaaGreatDoor


/-! Margins; bedref2.Moved and CutOf. -/
namespace Go.Proofs.YtjelhdpcaileiaaGreatDoor
open Go.RowKit

/-! ### Margins -/
def boundErr (W H : Int) (k : Nat) (is : Bool) : Int := firstNZ [pageErr W H k, whenI (!is) 10]
/-! ### bedref2.Moved and CutOf -/
def movedF (bs : List Bool) (W H : Nat) (dx dy : Int) (x y : Nat) : Bool := atI bs W H ((x : Int) - dx) ((y : Int) - dy)
end Go.Proofs.YtjelhdpcaileiaaGreatDoor
