/- slices.Equal of numbers; blank pages; 'pages'. -/
import Derived.Test.YtjelhdpcaileiaaDoorU1
import Derived.Test.YtjelhdpcaileiaaDoorU0

namespace Go.Proofs.YtjelhdpcaileiaaDoor
open Go.RowKit

/-- The ink that is counted ahead of the i-th page. -/
def allT (cs bs : List Bool) (n m : Nat) : Nat → Nat
  | 0 => 0
  | 1 => tally cs n
  | _ => tally cs n + tally bs m
/-- A row of what meets. -/
def meetN (A B : Int → Int → Bool) (dx dy x0 : Int) (nx : Nat) (y : Int) : Nat := winN (fun x => b1 (A x y && B (x - dx) (y - dy))) x0 nx
theorem both_rows (A B : Int → Int → Bool) (W H W' H' : Nat) (dx dy : Int) : bothN A B W H W' H' dx dy = winN (meetN A B dx dy (max 0 dx) (overN (max 0 dx) (min (W : Int) ((W' : Int) + dx)))) (max 0 dy) (overN (max 0 dy) (min (H : Int) ((H' : Int) + dy))) := rfl
theorem pix_cell {w : World} {A : Option Addr} {n : Nat} {bs : List Bool} (h : Reads w 1 A n (bs.map .bool)) {k : Nat} (hk : k < n) : ∃ ad, A = some ad ∧ w.cell? (ad.add k) = some (.bool (bs.getD k false)) := by
  obtain ⟨ad, u, e, hu, hc⟩ := h.at_ hk
  refine ⟨ad, e, ?_⟩
  simp only [List.getElem?_map, Option.map_eq_some_iff] at hu
  obtain ⟨b, hb1, hb2⟩ := hu
  rw [hc, ← hb2, List.getD, hb1]
  rfl

set_option maxRecDepth 100000 in
set_option maxHeartbeats 8000000 in
theorem distance_any (W H W' H' r : Nat) (A B : Option Addr) (ac bc : Nat) (cs bs : List Bool) (w : World) (hA : Reads w 1 A (W * H) (cs.map .bool)) (hB : Reads w 1 B (W' * H') (bs.map .bool)) (hW : W ≤ 4000) (hH : H ≤ 4000) (hW' : W' ≤ 4000) (hH' : H' ≤ 4000) (hr : r ≤ 4) :
    Calls Tryd.prog 121 #[.agg #[.int .i64 W, .int .i64 H, .slice A (W * H) ac], .agg #[.int .i64 W', .int .i64 H', .slice B (W' * H') bc], .int .i64 r] w fun e w' => e = .returned (.int .i64 (farN (inkF cs W H) (inkF bs W' H') W H W' H' r)) ∧ Bl w w' := by
  let w2 := ((w).alloc (.cells #[.int .i64 W, .int .i64 H, .slice A (W * H) ac] 27)).alloc (.cells #[.int .i64 W', .int .i64 H', .slice B (W' * H') bc] 27)
  have w2b : Bl w w2 := ((Bl.refl w).alloc _).alloc _
  have w21 : Blk w2 (w.heap.size) 27 #[.int .i64 W, .int .i64 H, .slice A (W * H) ac] := by
    have h0 := Blk.new (w) 27 #[.int .i64 W, .int .i64 H, .slice A (W * H) ac]
    exact (h0.alloc _)
  have w22 : Blk w2 (w.heap.size + 1) 27 #[.int .i64 W', .int .i64 H', .slice B (W' * H') bc] := by
    have h0 := Blk.new ((w).alloc (.cells #[.int .i64 W, .int .i64 H, .slice A (W * H) ac] 27)) 27 #[.int .i64 W', .int .i64 H', .slice B (W' * H') bc]
    simp only [World.size_alloc] at h0
    exact h0
  have hA2 := hA.bl w2b
  have hB2 := hB.bl w2b
  have k1 := w21.all3
  have k2 := w22.all3
  have hn : W * H ≤ 16000000 := by have := Nat.mul_le_mul hW hH; omega
  have hm : W' * H' ≤ 16000000 := by have := Nat.mul_le_mul hW' hH'; omega
  have HA := Lib.hid hA2; have HB := Lib.hid hB2
  have t1 := tally_le cs (W * H)
  have t2 := tally_le bs (W' * H')
  have i0 : ∀ w : World, (Instr.index 157 (.agg #[.int .i64 W, .int .i64 H, .slice A (W * H) ac, .int .i64 W', .int .i64 H', .slice B (W' * H') bc]) (.int .i64 0)).run Tryd.prog w = .ok (.agg #[.int .i64 W, .int .i64 H, .slice A (W * H) ac]) w := fun _ => by kernel_rfl
  have i1 : ∀ w : World, (Instr.index 157 (.agg #[.int .i64 W, .int .i64 H, .slice A (W * H) ac, .int .i64 W', .int .i64 H', .slice B (W' * H') bc]) (.int .i64 1)).run Tryd.prog w = .ok (.agg #[.int .i64 W', .int .i64 H', .slice B (W' * H') bc]) w := fun _ => by kernel_rfl
  clear hA hB hA2 hB2
  go_enter Tryd.func121, Tryd.ntmps121
  go_wp2_with fail
  go_loopw [21, 7] (fun u v wr => ∃ i : Nat, i ≤ 2 ∧ u = .int .i64 i ∧ v = .int .i64 (allT cs bs (W * H) (W' * H') i : Nat) ∧ Bl w2 wr) (fun u _ _ => 2 - (RowKit.intOf u).toNat)
  case atStart => exact ⟨0, by omega, rfl, rfl, Bl.refl _⟩
  case round =>
    clear k1 k2
    obtain ⟨i, hi, rfl, rfl, hbr⟩ := hrel
    by_cases hlt : i < 2
    · have inner : ∀ (X : Option Addr) (q pre : Nat) (zs : List Bool), True := fun _ _ _ _ => trivial
      clear inner
      have hcase : i = 0 ∨ i = 1 := by omega
      rcases hcase with rfl | rfl
      · have e0 : allT cs bs (W * H) (W' * H') 0 = 0 := rfl
        rw [e0]
        go_wp2_with fail
        obtain ⟨w5, hw5⟩ : ∃ x, x = wr.alloc (.cells #[.int .i64 W, .int .i64 H, .slice A (W * H) ac] 27) := ⟨_, rfl⟩
        have hb5 : Bl wr w5 := by rw [hw5]; exact (Bl.refl _).alloc _
        rw [← hw5]
        clear hw5
        go_loopw [27, 7] (fun u v wx => ∃ k : Nat, k ≤ W * H ∧ u = .int .i64 k ∧ v = .int .i64 (tally cs k : Nat) ∧ Bl w5 wx) (fun u _ _ => W * H - (RowKit.intOf u).toNat)
        case atStart => exact ⟨0, Nat.zero_le _, rfl, rfl, Bl.refl _⟩
        case round =>
          rename World => wx
          obtain ⟨k, hk, rfl, rfl, hbx⟩ := hrel
          have hts := tally_succ cs k
          have htl := tally_le cs k
          obtain ⟨v, hv⟩ : ∃ v, v = tally cs k := ⟨_, rfl⟩
          rw [← hv] at hts htl ⊢
          have Hts := Lib.hid hts; have HVv := Lib.hid hv
          clear hts hv
          by_cases hkl : k < W * H
          · obtain ⟨ad, rfl, j1⟩ := pix_cell (HA.out.bl (hbr.trans (hb5.trans hbx))) hkl
            obtain ⟨bt, hbt⟩ : ∃ b, b = cs.getD k false := ⟨_, rfl⟩
            rw [← hbt] at j1
            have HBt := Lib.hid hbt
            clear hbt
            cases bt
            · have HN := Lib.hid (show tally cs (k + 1) = v by rw [Hts.out, ← HBt.out]; rfl)
              go_wp2_with fail
              exact ⟨⟨k + 1, hkl, by go_num, by rw [HN.out], hbx⟩, by simp [RowKit.intOf] <;> omega⟩
            · have HN := Lib.hid (show tally cs (k + 1) = v + 1 by rw [Hts.out, ← HBt.out]; rfl)
              go_wp2_with fail
              exact ⟨⟨k + 1, hkl, by go_num, by rw [HN.out]; go_num, hbx⟩, by simp [RowKit.intOf] <;> omega⟩
          · obtain rfl : k = W * H := by omega
            have HN := Lib.hid (show allT cs bs (W * H) (W' * H') 1 = v by rw [HVv.out]; rfl)
            go_wp2_with fail
            exact ⟨⟨1, by omega, by go_num, by rw [HN.out], hbr.trans (hb5.trans hbx)⟩, by simp [RowKit.intOf] <;> omega⟩
      · have e0 : allT cs bs (W * H) (W' * H') 1 = tally cs (W * H) := rfl
        rw [e0]
        obtain ⟨P0, hP0⟩ : ∃ x, x = tally cs (W * H) := ⟨_, rfl⟩
        rw [← hP0] at t1 ⊢
        have HP0 := Lib.hid hP0
        clear hP0 e0
        go_wp2_with fail
        obtain ⟨w5, hw5⟩ : ∃ x, x = wr.alloc (.cells #[.int .i64 W', .int .i64 H', .slice B (W' * H') bc] 27) := ⟨_, rfl⟩
        have hb5 : Bl wr w5 := by rw [hw5]; exact (Bl.refl _).alloc _
        rw [← hw5]
        clear hw5
        go_loopw [27, 7] (fun u v wx => ∃ k : Nat, k ≤ W' * H' ∧ u = .int .i64 k ∧ v = .int .i64 (P0 + tally bs k : Nat) ∧ Bl w5 wx) (fun u _ _ => W' * H' - (RowKit.intOf u).toNat)
        case atStart => exact ⟨0, Nat.zero_le _, rfl, rfl, Bl.refl _⟩
        case round =>
          rename World => wx
          obtain ⟨k, hk, rfl, rfl, hbx⟩ := hrel
          have hts := tally_succ bs k
          have htl := tally_le bs k
          obtain ⟨v, hv⟩ : ∃ v, v = tally bs k := ⟨_, rfl⟩
          rw [← hv] at hts htl ⊢
          have Hts := Lib.hid hts; have HVv := Lib.hid hv
          clear hts hv
          by_cases hkl : k < W' * H'
          · obtain ⟨ad, rfl, j1⟩ := pix_cell (HB.out.bl (hbr.trans (hb5.trans hbx))) hkl
            obtain ⟨bt, hbt⟩ : ∃ b, b = bs.getD k false := ⟨_, rfl⟩
            rw [← hbt] at j1
            have HBt := Lib.hid hbt
            clear hbt
            cases bt
            · have HN := Lib.hid (show tally bs (k + 1) = v by rw [Hts.out, ← HBt.out]; rfl)
              go_wp2_with fail
              exact ⟨⟨k + 1, hkl, by go_num, by rw [HN.out], hbx⟩, by simp [RowKit.intOf] <;> omega⟩
            · have HN := Lib.hid (show tally bs (k + 1) = v + 1 by rw [Hts.out, ← HBt.out]; rfl)
              go_wp2_with fail
              exact ⟨⟨k + 1, hkl, by go_num, by rw [HN.out]; go_num, hbx⟩, by simp [RowKit.intOf] <;> omega⟩
          · obtain rfl : k = W' * H' := by omega
            have HN := Lib.hid (show allT cs bs (W * H) (W' * H') 2 = P0 + v by rw [HVv.out, HP0.out]; rfl)
            go_wp2_with fail
            exact ⟨⟨2, by omega, by go_num, by rw [HN.out], hbr.trans (hb5.trans hbx)⟩, by simp [RowKit.intOf] <;> omega⟩
    · obtain rfl : i = 2 := by omega
      have e2 : allT cs bs (W * H) (W' * H') 2 = tally cs (W * H) + tally bs (W' * H') := rfl
      have hT1 := tally_ink cs W H
      have hT2 := tally_ink bs W' H'
      rw [e2]
      obtain ⟨P1, hP1⟩ : ∃ x, x = tally cs (W * H) := ⟨_, rfl⟩
      obtain ⟨P2, hP2⟩ : ∃ x, x = tally bs (W' * H') := ⟨_, rfl⟩
      rw [← hP1] at t1 hT1 ⊢
      rw [← hP2] at t2 hT2 ⊢
      obtain ⟨F, hF⟩ : ∃ F, F = shifted (inkF cs W H) (inkF bs W' H') W H W' H' r := ⟨_, rfl⟩
      have hFb : ∀ k, mostN F k ≤ 16000000 := fun k => by
        have := most_shift_le (inkF cs W H) (inkF bs W' H') W H W' H' r k
        rw [← hF] at this
        rw [Nat.mul_comm] at this
        omega
      have hFi : ∀ i j, j < 2 * r + 1 → F (i * (2 * r + 1) + j) = bothN (inkF cs W H) (inkF bs W' H') W H W' H' ((j : Int) - (r : Int)) ((i : Int) - (r : Int)) := fun i j hj => by
        rw [hF]
        unfold shifted
        rw [(shift_at r i j hj).1, (shift_at r i j hj).2]
      have hres : farN (inkF cs W H) (inkF bs W' H') W H W' H' r = (P1 : Int) + (P2 : Int) - 2 * (mostN F ((2 * r + 1) * (2 * r + 1)) : Int) := by
        unfold farN
        rw [← hF, ← hT1, ← hT2]
      have k1 := (w21.bl hbr).all3
      have k2 := (w22.bl hbr).all3
      have HA2 := Lib.hid (HA.out.bl hbr); have HB2 := Lib.hid (HB.out.bl hbr)
      have HFb := Lib.hid hFb; have HFi := Lib.hid hFi; have HRs := Lib.hid hres
      clear hF hFb hFi hres hT1 hT2 hP1 hP2 e2 i0 i1 HA HB
      go_wp2_with fail
      go_loopw [13, 12] (fun u v wx => ∃ i : Nat, i ≤ 2 * r + 1 ∧ u = .int .i64 ((i : Int) - (r : Int)) ∧ v = .int .i64 (mostN F (i * (2 * r + 1)) : Nat) ∧ wr = wx) (fun u _ _ => 2 * r + 1 - (RowKit.intOf u + (r : Int)).toNat)
      case atStart => exact ⟨0, Nat.zero_le _, by simp, by simp [mostN], rfl⟩
      case round =>
        obtain ⟨i, hi, rfl, rfl, rfl⟩ := hrel
        by_cases hlt : i < 2 * r + 1
        · have hc : (i : Int) - (r : Int) ≤ (r : Int) := by omega
          obtain ⟨dy, hdy⟩ : ∃ dy, dy = (i : Int) - (r : Int) := ⟨_, rfl⟩
          have hd1 : -4 ≤ dy ∧ dy ≤ 4 := by omega
          rw [← hdy] at hc ⊢
          have HDy := Lib.hid hdy
          have hM0 := HFb.out (i * (2 * r + 1))
          clear hdy
          go_wp2_with fail
          go_loopw [14, 12] (fun u v wx => ∃ j : Nat, j ≤ 2 * r + 1 ∧ u = .int .i64 ((j : Int) - (r : Int)) ∧ v = .int .i64 (mostN F (i * (2 * r + 1) + j) : Nat) ∧ wr = wx) (fun u _ _ => 2 * r + 1 - (RowKit.intOf u + (r : Int)).toNat)
          case atStart => exact ⟨0, Nat.zero_le _, by simp, by simp, rfl⟩
          case round =>
            obtain ⟨j, hj, rfl, rfl, rfl⟩ := hrel
            by_cases hjt : j < 2 * r + 1
            · have hFj := HFi.out i j hjt
              have hcj : (j : Int) - (r : Int) ≤ (r : Int) := by omega
              obtain ⟨dx, hdx⟩ : ∃ dx, dx = (j : Int) - (r : Int) := ⟨_, rfl⟩
              have hd2 : -4 ≤ dx ∧ dx ≤ 4 := by omega
              rw [← hdx, ← HDy.out, both_rows] at hFj
              rw [← hdx] at hcj ⊢
              have HDx := Lib.hid hdx
              have hM1 := HFb.out (i * (2 * r + 1) + j)
              obtain ⟨M, hM⟩ : ∃ M, M = mostN F (i * (2 * r + 1) + j) := ⟨_, rfl⟩
              have hMs : mostN F (i * (2 * r + 1) + (j + 1)) = max M (F (i * (2 * r + 1) + j)) := by rw [hM]; rfl
              rw [← hM] at hM1 ⊢
              obtain ⟨x0, hx0⟩ : ∃ x0 : Nat, (x0 : Int) = max 0 dx := ⟨(max 0 dx).toNat, by omega⟩
              obtain ⟨y0, hy0⟩ : ∃ y0 : Nat, (y0 : Int) = max 0 dy := ⟨(max 0 dy).toNat, by omega⟩
              obtain ⟨x1, hx1⟩ : ∃ x1, x1 = min (W : Int) ((W' : Int) + dx) := ⟨_, rfl⟩
              obtain ⟨y1, hy1⟩ : ∃ y1, y1 = min (H : Int) ((H' : Int) + dy) := ⟨_, rfl⟩
              have gx0 : (if (0 : Int) < dx then dx else 0) = (x0 : Int) := by split <;> omega
              have gy0 : (if (0 : Int) < dy then dy else 0) = (y0 : Int) := by split <;> omega
              have gx1 : (if (W : Int) < (W' : Int) + dx then (W : Int) else (W' : Int) + dx) = x1 := by split <;> omega
              have gy1 : (if (H : Int) < (H' : Int) + dy then (H : Int) else (H' : Int) + dy) = y1 := by split <;> omega
              have gx2 : (if dx < 0 then (0 : Int) else dx) = (x0 : Int) := by split <;> omega
              have gy2 : (if dy < 0 then (0 : Int) else dy) = (y0 : Int) := by split <;> omega
              have gx3 : (if (W' : Int) + dx < (W : Int) then (W' : Int) + dx else (W : Int)) = x1 := by split <;> omega
              have gy3 : (if (H' : Int) + dy < (H : Int) then (H' : Int) + dy else (H : Int)) = y1 := by split <;> omega
              rw [← hx0, ← hx1, ← hy0, ← hy1] at hFj
              obtain ⟨nx, hnx⟩ : ∃ nx, nx = overN (x0 : Int) x1 := ⟨_, rfl⟩
              obtain ⟨ny, hny⟩ : ∃ ny, ny = overN (y0 : Int) y1 := ⟨_, rfl⟩
              rw [← hnx, ← hny] at hFj
              obtain ⟨Row, hRow⟩ : ∃ Row, Row = meetN (inkF cs W H) (inkF bs W' H') dx dy (x0 : Int) nx := ⟨_, rfl⟩
              rw [← hRow] at hFj
              have HFj := Lib.hid hFj; have HMs := Lib.hid hMs; have HRow := Lib.hid hRow; have HM := Lib.hid hM
              have Hx0 := Lib.hid hx0; have Hy0 := Lib.hid hy0; have Hx1 := Lib.hid hx1; have Hy1 := Lib.hid hy1; have Hnx := Lib.hid hnx; have Hny := Lib.hid hny
              have hrl : ∀ y, Row y ≤ nx := fun y => by rw [hRow]; unfold meetN; have := winN_le (c := 1) (fun x => b1_le (inkF cs W H x y && inkF bs W' H' (x - dx) (y - dy))) (x0 : Int) nx; omega
              have hwl : ∀ k, k ≤ ny → winN Row (y0 : Int) k ≤ 16000000 := fun k hk => by
                have h1 := winN_le (c := nx) hrl (y0 : Int) k
                have h2 : nx ≤ W := by rw [hnx]; unfold overN; omega
                have h3 : k ≤ H := by have : ny ≤ H := by rw [hny]; unfold overN; omega
                                      omega
                have h4 := Nat.mul_le_mul h3 h2
                rw [Nat.mul_comm H W] at h4
                omega
              have HWl := Lib.hid hwl
              have hy4 : y0 ≤ 4 := by omega
              have hx4 : x0 ≤ 4 := by omega
              clear hFj hMs hRow hM hx0 hy0 hx1 hy1 hnx hny hrl hwl hdx
              go_wp2_with fail
              go_loopw [16, 15] (fun u v wx => ∃ y : Nat, y0 ≤ y ∧ y ≤ y0 + ny ∧ u = .int .i64 (y : Int) ∧ v = .int .i64 (winN Row (y0 : Int) (y - y0) : Nat) ∧ wr = wx) (fun u _ _ => y0 + ny - (RowKit.intOf u).toNat)
              case atStart => exact ⟨y0, Nat.le_refl _, by omega, rfl, by rw [Nat.sub_self]; rfl, rfl⟩
              case round =>
                obtain ⟨y, hya, hyb, rfl, rfl, rfl⟩ := hrel
                by_cases hyt : y < y0 + ny
                · have hyc : (y : Int) < y1 := by have := Hny.out; unfold overN at this; omega
                  have hP := HWl.out (y - y0) (by omega)
                  have hPs : winN Row (y0 : Int) (y + 1 - y0) = winN Row (y0 : Int) (y - y0) + Row (y : Int) := by
                    rw [show y + 1 - y0 = (y - y0) + 1 by omega, winN_succ, show (y0 : Int) + ((y - y0 : Nat) : Int) = (y : Int) by omega]
                  have hPb := HWl.out (y + 1 - y0) (by omega)
                  have hyH : y < H := by have := Hy1.out; omega
                  obtain ⟨yb, hyb2⟩ : ∃ yb : Nat, (yb : Int) = (y : Int) - dy := ⟨((y : Int) - dy).toNat, by have := Hy0.out; omega⟩
                  have hybH : yb < H' := by have := Hy1.out; omega
                  obtain ⟨G, hG⟩ : ∃ G : Int → Nat, G = fun x => b1 (inkF cs W H x (y : Int) && inkF bs W' H' (x - dx) ((y : Int) - dy)) := ⟨_, rfl⟩
                  have hRG : Row (y : Int) = winN G (x0 : Int) nx := by rw [HRow.out, hG]; rfl
                  rw [hRG] at hPs
                  obtain ⟨P, hPP⟩ : ∃ P, P = winN Row (y0 : Int) (y - y0) := ⟨_, rfl⟩
                  rw [← hPP] at hP hPs ⊢
                  have hGl : ∀ k, winN G (x0 : Int) k ≤ k := fun k => by have := winN_le (f := G) (c := 1) (fun z => by rw [hG]; exact b1_le _) (x0 : Int) k; omega
                  have hGx : ∀ xn xb : Nat, xn < W → xb < W' → (xb : Int) = (xn : Int) - dx → G (xn : Int) = b1 (cs.getD (y * W + xn) false && bs.getD (yb * W' + xb) false) := fun xn xb h1 h2 h3 => by
                    rw [hG]
                    show b1 (inkF cs W H xn y && inkF bs W' H' ((xn : Int) - dx) ((y : Int) - dy)) = _
                    rw [← hyb2, ← h3, inkF_at cs W H xn y h1 hyH, inkF_at bs W' H' xb yb h2 hybH]
                  have q1 : 0 ≤ (y : Int) * (W : Int) ∧ (y : Int) * (W : Int) ≤ 16000000 := by
                    have h5 := Int.natCast_mul y W
                    have h6 := Nat.mul_le_mul (show y ≤ 4000 by omega) hW
                    omega
                  have q2 : 0 ≤ (yb : Int) * (W' : Int) ∧ (yb : Int) * (W' : Int) ≤ 16000000 := by
                    have h5 := Int.natCast_mul yb W'
                    have h6 := Nat.mul_le_mul (show yb ≤ 4000 by omega) hW'
                    omega
                  have hnxW : nx ≤ 4000 := by have := Hnx.out; unfold overN at this; have := Hx1.out; omega
                  have hyb3 : (y : Int) - dy = (yb : Int) := hyb2.symm
                  have HPs := Lib.hid hPs; have HGx := Lib.hid hGx; have HGl := Lib.hid hGl
                  clear hPs hG hRG hPP hGl hGx hPb hyb2
                  go_wp2_with fail
                  go_loopw [17, 15] (fun u v wx => ∃ x : Nat, x0 ≤ x ∧ x ≤ x0 + nx ∧ u = .int .i64 (x : Int) ∧ v = .int .i64 ((P + winN G (x0 : Int) (x - x0) : Nat) : Int) ∧ wr = wx) (fun u _ _ => x0 + nx - (RowKit.intOf u).toNat)
                  case atStart => exact ⟨x0, Nat.le_refl _, by omega, rfl, by rw [Nat.sub_self]; rfl, rfl⟩
                  case round =>
                    obtain ⟨x, hxa, hxb, rfl, rfl, rfl⟩ := hrel
                    have hV := HGl.out (x - x0)
                    have hVs : winN G (x0 : Int) (x + 1 - x0) = winN G (x0 : Int) (x - x0) + G (x : Int) := by
                      rw [show x + 1 - x0 = (x - x0) + 1 by omega, winN_succ, show (x0 : Int) + ((x - x0 : Nat) : Int) = (x : Int) by omega]
                    by_cases hxt : x < x0 + nx
                    · have hxc : (x : Int) < x1 := by have := Hnx.out; unfold overN at this; omega
                      have hxW : x < W := by have := Hx1.out; omega
                      obtain ⟨xb, hxb2⟩ : ∃ xb : Nat, (xb : Int) = (x : Int) - dx := ⟨((x : Int) - dx).toNat, by have := Hx0.out; omega⟩
                      have hxbW : xb < W' := by have := Hx1.out; omega
                      have hGv := HGx.out x xb hxW hxbW hxb2
                      obtain ⟨ka, hka⟩ : ∃ ka, ka = y * W + x := ⟨_, rfl⟩
                      obtain ⟨kb, hkb⟩ : ∃ kb, kb = yb * W' + xb := ⟨_, rfl⟩
                      have eka : (y : Int) * (W : Int) + (x : Int) = (ka : Int) := by rw [hka]; simp
                      have ekb : (yb : Int) * (W' : Int) + (x : Int) - dx = (kb : Int) := by
                        have : (kb : Int) = (yb : Int) * (W' : Int) + (xb : Int) := by rw [hkb]; simp
                        omega
                      have hkal : ka < W * H := by rw [hka]; exact place_lt hxW hyH
                      have hkbl : kb < W' * H' := by rw [hkb]; exact place_lt hxbW hybH
                      obtain ⟨ada, eA, ja⟩ := pix_cell HA2.out hkal
                      obtain ⟨adb, eB, jb⟩ := pix_cell HB2.out hkbl
                      rw [← hka, ← hkb] at hGv
                      obtain ⟨va, hva⟩ : ∃ v, v = cs.getD ka false := ⟨_, rfl⟩
                      obtain ⟨vb, hvb⟩ : ∃ v, v = bs.getD kb false := ⟨_, rfl⟩
                      rw [← hva] at ja hGv
                      rw [← hvb] at jb hGv
                      rw [hGv] at hVs
                      obtain ⟨V, hVV⟩ : ∃ V, V = winN G (x0 : Int) (x - x0) := ⟨_, rfl⟩
                      rw [← hVV] at hV hVs ⊢
                      have HVs := Lib.hid hVs
                      subst eA
                      subst eB
                      clear hVs hVV hva hvb hGv hka hkb hxb2
                      cases va
                      · have HN := Lib.hid (show P + winN G (x0 : Int) (x + 1 - x0) = P + V by rw [HVs.out]; rfl)
                        go_wp2_with fail
                        exact ⟨⟨x + 1, by omega, by omega, by go_num, by rw [HN.out], trivial⟩, by simp [RowKit.intOf] <;> omega⟩
                      · cases vb
                        · have HN := Lib.hid (show P + winN G (x0 : Int) (x + 1 - x0) = P + V by rw [HVs.out]; rfl)
                          go_wp2_with fail
                          exact ⟨⟨x + 1, by omega, by omega, by go_num, by rw [HN.out], trivial⟩, by simp [RowKit.intOf] <;> omega⟩
                        · have HN := Lib.hid (show P + winN G (x0 : Int) (x + 1 - x0) = P + V + 1 by rw [HVs.out]; rfl)
                          go_wp2_with fail
                          exact ⟨⟨x + 1, by omega, by omega, by go_num, by rw [HN.out]; go_num, trivial⟩, by simp [RowKit.intOf] <;> omega⟩
                    · obtain rfl : x = x0 + nx := by omega
                      have hxc : ¬ ((x0 : Int) + (nx : Int) < x1) := by have := Hnx.out; unfold overN at this; omega
                      have HN := Lib.hid (show winN Row (y0 : Int) (y + 1 - y0) = P + winN G (x0 : Int) (x0 + nx - x0) by rw [HPs.out, show x0 + nx - x0 = nx by omega])
                      go_wp2_with fail
                      exact ⟨⟨y + 1, by omega, by omega, by go_num, by rw [HN.out], trivial⟩, by simp [RowKit.intOf] <;> omega⟩
                · obtain rfl : y = y0 + ny := by omega
                  have hyc : ¬ ((y0 : Int) + (ny : Int) < y1) := by have := Hny.out; unfold overN at this; omega
                  have hFv := HFj.out
                  have hMs := HMs.out
                  have hFvl := HWl.out ny (Nat.le_refl _)
                  rw [show y0 + ny - y0 = ny by omega]
                  rw [hFv] at hMs
                  obtain ⟨V, hVV⟩ : ∃ V, V = winN Row (y0 : Int) ny := ⟨_, rfl⟩
                  rw [← hVV] at hMs hFvl ⊢
                  obtain ⟨Mx, hMx⟩ : ∃ Mx, Mx = max M V := ⟨_, rfl⟩
                  rw [← hMx] at hMs
                  have gm1 : (if (M : Int) < (V : Int) then (V : Int) else (M : Int)) = (Mx : Int) := by split <;> omega
                  have gm2 : (if M < V then (V : Int) else (M : Int)) = (Mx : Int) := by split <;> omega
                  have gm3 : (if (V : Int) < (M : Int) then (M : Int) else (V : Int)) = (Mx : Int) := by split <;> omega
                  have gm4 : (if V < M then (M : Int) else (V : Int)) = (Mx : Int) := by split <;> omega
                  have HMs2 := Lib.hid hMs
                  clear hFv hMs hVV hMx
                  go_wp2_with fail
                  exact ⟨⟨j + 1, hjt, by rw [HDx.out]; go_num, by rw [HMs2.out], trivial⟩, by rw [HDx.out]; simp [RowKit.intOf] <;> omega⟩
            · obtain rfl : j = 2 * r + 1 := by omega
              have hcj : ¬ (((2 * r + 1 : Nat) : Int) - (r : Int) ≤ (r : Int)) := by omega
              have he : i * (2 * r + 1) + (2 * r + 1) = (i + 1) * (2 * r + 1) := by rw [Nat.add_mul, Nat.one_mul]
              rw [he]
              have HDy2 := HDy
              go_wp2_with fail
              exact ⟨⟨i + 1, hlt, by rw [HDy.out]; go_num, rfl, trivial⟩, by rw [HDy.out]; simp [RowKit.intOf] <;> omega⟩
        · obtain rfl : i = 2 * r + 1 := by omega
          have hc : ¬ (((2 * r + 1 : Nat) : Int) - (r : Int) ≤ (r : Int)) := by omega
          have hb := HFb.out ((2 * r + 1) * (2 * r + 1))
          obtain ⟨M, hM⟩ : ∃ M, M = mostN F ((2 * r + 1) * (2 * r + 1)) := ⟨_, rfl⟩
          have hres := HRs.out
          rw [← hM] at hb hres ⊢
          have HR2 := Lib.hid hres
          clear hM hres
          go_wp2_with fail
          go_ret
          exact ⟨ret_int (by rw [HR2.out] <;> omega), w2b.trans hbr⟩

end Go.Proofs.YtjelhdpcaileiaaDoor


/-! bedref2.FarOf is farN. -/
namespace Go.Proofs.YtjelhdpcaileiaaDoor
open Go.RowKit

def diffRow (A B : Int → Int → Bool) (dx dy x0 : Int) (nx : Nat) (y : Int) : Nat := winN (fun x => b1 (A x y != B (x - dx) (y - dy))) x0 nx
theorem diff_rows (A B : Int → Int → Bool) (W H W' H' r : Nat) (dx dy : Int) : diffN A B W H W' H' r dx dy = winN (diffRow A B dx dy (-(r : Int)) (max W W' + 2 * r)) (-(r : Int)) (max H H' + 2 * r) := rfl
/-- The least so far; none: -1. -/
def leastI (T : Nat) (F : Nat → Nat) (k : Nat) : Int := if k = 0 then -1 else (T : Int) - 2 * (mostN F k : Int)

set_option maxRecDepth 100000 in
set_option maxHeartbeats 8000000 in
theorem farOf_any (W H W' H' r : Nat) (A B : Option Addr) (ac bc : Nat) (cs bs : List Bool) (w : World) (hA : Reads w 1 A (W * H) (cs.map .bool)) (hB : Reads w 1 B (W' * H') (bs.map .bool)) (hW : W ≤ 4000) (hH : H ≤ 4000) (hW' : W' ≤ 4000) (hH' : H' ≤ 4000) (hr : r ≤ 4) :
    Calls Tryd.prog 45 #[.agg #[.int .i64 W, .int .i64 H, .slice A (W * H) ac], .agg #[.int .i64 W', .int .i64 H', .slice B (W' * H') bc], .int .i64 r] w fun e w' => e = .returned (.int .i64 (farN (inkF cs W H) (inkF bs W' H') W H W' H' r)) ∧ Bl w w' := by
  let w2 := ((w).alloc (.cells #[.int .i64 W, .int .i64 H, .slice A (W * H) ac] 27)).alloc (.cells #[.int .i64 W', .int .i64 H', .slice B (W' * H') bc] 27)
  have w2b : Bl w w2 := ((Bl.refl w).alloc _).alloc _
  have w21 : Blk w2 (w.heap.size) 27 #[.int .i64 W, .int .i64 H, .slice A (W * H) ac] := by
    have h0 := Blk.new (w) 27 #[.int .i64 W, .int .i64 H, .slice A (W * H) ac]
    exact (h0.alloc _)
  have w22 : Blk w2 (w.heap.size + 1) 27 #[.int .i64 W', .int .i64 H', .slice B (W' * H') bc] := by
    have h0 := Blk.new ((w).alloc (.cells #[.int .i64 W, .int .i64 H, .slice A (W * H) ac] 27)) 27 #[.int .i64 W', .int .i64 H', .slice B (W' * H') bc]
    simp only [World.size_alloc] at h0
    exact h0
  have hAt1 := fun wx (hx : Bl w2 wx) (x y : Int) => at_any W H A ac cs x y wx ((hA.bl w2b).bl hx) hW hH
  have hAt2 := fun wx (hx : Bl w2 wx) (x y : Int) => at_any W' H' B bc bs x y wx ((hB.bl w2b).bl hx) hW' hH'
  obtain ⟨F, hF⟩ : ∃ F, F = shifted (inkF cs W H) (inkF bs W' H') W H W' H' r := ⟨_, rfl⟩
  obtain ⟨T, hT⟩ : ∃ T, T = inkA (inkF cs W H) W H + inkA (inkF bs W' H') W' H' := ⟨_, rfl⟩
  have hTl : T ≤ 32000000 := by
    have h1 := tally_ink cs W H
    have h2 := tally_ink bs W' H'
    have h3 := tally_le cs (W * H)
    have h4 := tally_le bs (W' * H')
    have h5 := Nat.mul_le_mul hW hH
    have h6 := Nat.mul_le_mul hW' hH'
    omega
  have hFi : ∀ i j, i < 2 * r + 1 → j < 2 * r + 1 → diffN (inkF cs W H) (inkF bs W' H') W H W' H' r ((j : Int) - (r : Int)) ((i : Int) - (r : Int)) + 2 * F (i * (2 * r + 1) + j) = T := fun i j hi hj => by
    rw [hF, hT]
    unfold shifted
    rw [(shift_at r i j hj).1, (shift_at r i j hj).2]
    exact diff_both (inkF_held cs W H) (inkF_held bs W' H') (by omega) (by omega) (by omega) (by omega)
  have hFm : ∀ k, k ≤ (2 * r + 1) * (2 * r + 1) → 2 * mostN F k ≤ T := fun k hk => by
    have : mostN F k ≤ T / 2 := mostN_le fun idx hidx => by
      have h1 : idx / (2 * r + 1) < 2 * r + 1 := Nat.div_lt_of_lt_mul (by omega)
      have h2 := hFi (idx / (2 * r + 1)) (idx % (2 * r + 1)) h1 (Nat.mod_lt _ (by omega))
      rw [show idx / (2 * r + 1) * (2 * r + 1) + idx % (2 * r + 1) = idx by rw [Nat.mul_comm]; exact Nat.div_add_mod _ _] at h2
      omega
    omega
  have hres : farN (inkF cs W H) (inkF bs W' H') W H W' H' r = leastI T F ((2 * r + 1) * (2 * r + 1)) := by
    unfold farN leastI
    rw [← hF, hT, if_neg (by have := Nat.mul_pos (show 0 < 2 * r + 1 by omega) (show 0 < 2 * r + 1 by omega); omega)]
    omega
  have HAt1 := Lib.hid hAt1; have HAt2 := Lib.hid hAt2; have HFi := Lib.hid hFi; have HFm := Lib.hid hFm; have HRs := Lib.hid hres
  have k1 := w21.all3
  have k2 := w22.all3
  clear hAt1 hAt2 hFi hFm hres hF hT hA hB
  go_enter Tryd.func45, Tryd.ntmps45
  go_wp2_with fail
  go_loopw [8, 7] (fun u v wr => ∃ i : Nat, i ≤ 2 * r + 1 ∧ u = .int .i64 ((i : Int) - (r : Int)) ∧ v = .int .i64 (leastI T F (i * (2 * r + 1))) ∧ Bl w2 wr) (fun u _ _ => 2 * r + 1 - (RowKit.intOf u + (r : Int)).toNat)
  case atStart => exact ⟨0, Nat.zero_le _, by simp, by simp [leastI], Bl.refl _⟩
  case round =>
    clear k1 k2
    obtain ⟨i, hi, rfl, rfl, hbr⟩ := hrel
    by_cases hlt : i < 2 * r + 1
    · have hc : (i : Int) - (r : Int) ≤ (r : Int) := by omega
      obtain ⟨dy, hdy⟩ : ∃ dy, dy = (i : Int) - (r : Int) := ⟨_, rfl⟩
      have hd1 : -4 ≤ dy ∧ dy ≤ 4 := by omega
      rw [← hdy] at hc ⊢
      have HDy := Lib.hid hdy
      clear hdy
      go_wp2_with fail
      go_loopw [9, 7] (fun u v wx => ∃ j : Nat, j ≤ 2 * r + 1 ∧ u = .int .i64 ((j : Int) - (r : Int)) ∧ v = .int .i64 (leastI T F (i * (2 * r + 1) + j)) ∧ Bl w2 wx) (fun u _ _ => 2 * r + 1 - (RowKit.intOf u + (r : Int)).toNat)
      case atStart => exact ⟨0, Nat.zero_le _, by simp, by simp, hbr⟩
      case round =>
        clear hbr
        obtain ⟨j, hj, rfl, rfl, hbr⟩ := hrel
        by_cases hjt : j < 2 * r + 1
        · have hFj := HFi.out i j hlt hjt
          have hcj : (j : Int) - (r : Int) ≤ (r : Int) := by omega
          obtain ⟨dx, hdx⟩ : ∃ dx, dx = (j : Int) - (r : Int) := ⟨_, rfl⟩
          have hd2 : -4 ≤ dx ∧ dx ≤ 4 := by omega
          rw [← hdx, ← HDy.out, diff_rows] at hFj
          rw [← hdx] at hcj ⊢
          have HDx := Lib.hid hdx
          have hidx : i * (2 * r + 1) + j < (2 * r + 1) * (2 * r + 1) := by
            have := Nat.mul_le_mul_right (2 * r + 1) (show i + 1 ≤ 2 * r + 1 by omega)
            rw [Nat.add_mul] at this
            omega
          have hm := HFm.out (i * (2 * r + 1) + j) (by omega)
          obtain ⟨idx, hix⟩ : ∃ idx, idx = i * (2 * r + 1) + j := ⟨_, rfl⟩
          have hnx : leastI T F (i * (2 * r + 1) + (j + 1)) = (T : Int) - 2 * ((max (mostN F idx) (F idx) : Nat) : Int) := by
            rw [← Nat.add_assoc, ← hix]
            unfold leastI
            rw [if_neg (by omega)]
            rfl
          rw [← hix] at hFj hm ⊢
          have HNx := Lib.hid hnx
          clear hnx hidx hix hdx
          obtain ⟨MW, hMW⟩ : ∃ M, M = max W W' := ⟨_, rfl⟩
          obtain ⟨MH, hMH⟩ : ∃ M, M = max H H' := ⟨_, rfl⟩
          rw [← hMW, ← hMH] at hFj
          have g1 : (if (W : Int) < (W' : Int) then (W' : Int) else (W : Int)) = (MW : Int) := by split <;> omega
          have g2 : (if W < W' then (W' : Int) else (W : Int)) = (MW : Int) := by split <;> omega
          have g3 : (if (W' : Int) < (W : Int) then (W : Int) else (W' : Int)) = (MW : Int) := by split <;> omega
          have g4 : (if W' < W then (W : Int) else (W' : Int)) = (MW : Int) := by split <;> omega
          have g5 : (if (H : Int) < (H' : Int) then (H' : Int) else (H : Int)) = (MH : Int) := by split <;> omega
          have g6 : (if H < H' then (H' : Int) else (H : Int)) = (MH : Int) := by split <;> omega
          have g7 : (if (H' : Int) < (H : Int) then (H : Int) else (H' : Int)) = (MH : Int) := by split <;> omega
          have g8 : (if H' < H then (H : Int) else (H' : Int)) = (MH : Int) := by split <;> omega
          have hMWl : MW ≤ 4000 := by omega
          have hMHl : MH ≤ 4000 := by omega
          obtain ⟨NX, hNX⟩ : ∃ N, N = MW + 2 * r := ⟨_, rfl⟩
          obtain ⟨NY, hNY⟩ : ∃ N, N = MH + 2 * r := ⟨_, rfl⟩
          rw [← hNX, ← hNY] at hFj
          obtain ⟨Row, hRow⟩ : ∃ Row, Row = diffRow (inkF cs W H) (inkF bs W' H') dx dy (-(r : Int)) NX := ⟨_, rfl⟩
          rw [← hRow] at hFj
          have hrl : ∀ y, Row y ≤ NX := fun y => by rw [hRow]; unfold diffRow; have := winN_le (c := 1) (fun x => b1_le (inkF cs W H x y != inkF bs W' H' (x - dx) (y - dy))) (-(r : Int)) NX; omega
          have hwl : ∀ k, k ≤ NY → winN Row (-(r : Int)) k ≤ 20000000 := fun k hk => by
            have h1 := winN_le (c := NX) hrl (-(r : Int)) k
            have h4 := Nat.mul_le_mul (show k ≤ 4008 by omega) (show NX ≤ 4008 by omega)
            omega
          have HWl := Lib.hid hwl; have HRow := Lib.hid hRow; have HNX := Lib.hid hNX; have HNY := Lib.hid hNY; have HFj := Lib.hid hFj; have Hm := Lib.hid hm
          have hNX2 : NX ≤ 4008 := by omega
          have hNY2 : NY ≤ 4008 := by omega
          clear hrl hwl hRow hNX hNY hFj hm hMW hMH
          go_wp2_with fail
          go_loopw [11, 10] (fun u v wx => ∃ k : Nat, k ≤ NY ∧ u = .int .i64 ((k : Int) - (r : Int)) ∧ v = .int .i64 (winN Row (-(r : Int)) k : Nat) ∧ Bl w2 wx) (fun u _ _ => NY - (RowKit.intOf u + (r : Int)).toNat)
          case atStart => exact ⟨0, Nat.zero_le _, by simp, rfl, hbr⟩
          case round =>
            clear hbr
            obtain ⟨k, hk, rfl, rfl, hbr⟩ := hrel
            have k1 := (w21.bl hbr).all3
            have k2 := (w22.bl hbr).all3
            have hP := HWl.out k hk
            by_cases hkt : k < NY
            · have hPs : winN Row (-(r : Int)) (k + 1) = winN Row (-(r : Int)) k + Row (-(r : Int) + (k : Int)) := winN_succ _ _ _
              have hyc : (k : Int) - (r : Int) < (MH : Int) + (r : Int) := by have := HNY.out; omega
              obtain ⟨y, hy⟩ : ∃ y, y = (k : Int) - (r : Int) := ⟨_, rfl⟩
              have hyl : -4 ≤ y ∧ y ≤ 4008 := by omega
              rw [show -(r : Int) + (k : Int) = y by omega] at hPs
              rw [← hy] at hyc ⊢
              have hPb := HWl.out (k + 1) hkt
              obtain ⟨P, hPP⟩ : ∃ P, P = winN Row (-(r : Int)) k := ⟨_, rfl⟩
              rw [← hPP] at hP hPs ⊢
              obtain ⟨G, hG⟩ : ∃ G : Int → Nat, G = fun x => b1 (inkF cs W H x y != inkF bs W' H' (x - dx) (y - dy)) := ⟨_, rfl⟩
              have hRG : Row y = winN G (-(r : Int)) NX := by rw [HRow.out, hG]; rfl
              rw [hRG] at hPs
              have hGl : ∀ k, winN G (-(r : Int)) k ≤ k := fun k => by have := winN_le (f := G) (c := 1) (fun z => by rw [hG]; exact b1_le _) (-(r : Int)) k; omega
              have HPs := Lib.hid hPs; have HG := Lib.hid hG; have HGl := Lib.hid hGl; have Hy := Lib.hid hy
              clear hPs hRG hPP hG hGl hPb hy
              go_wp2_with fail
              go_loopw [12, 10] (fun u v wx => ∃ l : Nat, l ≤ NX ∧ u = .int .i64 ((l : Int) - (r : Int)) ∧ v = .int .i64 ((P + winN G (-(r : Int)) l : Nat) : Int) ∧ Bl w2 wx) (fun u _ _ => NX - (RowKit.intOf u + (r : Int)).toNat)
              case atStart => exact ⟨0, Nat.zero_le _, by simp, rfl, hbr⟩
              case round =>
                clear hbr k1 k2
                obtain ⟨l, hl, rfl, rfl, hbr⟩ := hrel
                have k1 := (w21.bl hbr).all3
                have k2 := (w22.bl hbr).all3
                have hV := HGl.out l
                by_cases hlx : l < NX
                · have hVs : winN G (-(r : Int)) (l + 1) = winN G (-(r : Int)) l + G (-(r : Int) + (l : Int)) := winN_succ _ _ _
                  have hxc : (l : Int) - (r : Int) < (MW : Int) + (r : Int) := by have := HNX.out; omega
                  obtain ⟨x, hx⟩ : ∃ x, x = (l : Int) - (r : Int) := ⟨_, rfl⟩
                  have hxl : -4 ≤ x ∧ x ≤ 4008 := by omega
                  rw [show -(r : Int) + (l : Int) = x by omega, HG.out] at hVs
                  rw [← hx] at hxc ⊢
                  have h1 := HAt1.out
                  have h2 := HAt2.out
                  have e1 : inkF cs W H x y = atI cs W H x y := rfl
                  have e2 : inkF bs W' H' (x - dx) (y - dy) = atI bs W' H' (x - dx) (y - dy) := rfl
                  have ha := fun wx hx => h1 wx hx x y
                  have hb := fun wx hx => h2 wx hx (x - dx) (y - dy)
                  obtain ⟨va, hva⟩ : ∃ v, v = atI cs W H x y := ⟨_, rfl⟩
                  obtain ⟨vb, hvb⟩ : ∃ v, v = atI bs W' H' (x - dx) (y - dy) := ⟨_, rfl⟩
                  rw [← hva] at ha e1
                  rw [← hvb] at hb e2
                  have hVs2 : winN G (-(r : Int)) (l + 1) = winN G (-(r : Int)) l + b1 (va != vb) := by
                    rw [← HG.out] at hVs
                    rw [hVs, HG.out]
                    show _ + b1 (inkF cs W H x y != inkF bs W' H' (x - dx) (y - dy)) = _
                    rw [e1, e2]
                  obtain ⟨V, hVV⟩ : ∃ V, V = winN G (-(r : Int)) l := ⟨_, rfl⟩
                  rw [← hVV] at hV hVs2 ⊢
                  have HA1 := Lib.hid ha; have HB1' := Lib.hid hb; have HVs := Lib.hid hVs2; have Hx := Lib.hid hx
                  clear hVs hVs2 hVV hva hvb e1 e2 h1 h2 ha hb hx
                  go_upto_region 15 with fail
                  refine wp_region_flow [(true, 0), (true, 1), (true, 2), (true, 4), (true, 5), (true, 6), (true, 7), (true, 8), (true, 9), (true, 10), (false, 3), (false, 11), (true, 12)] (fun _ => false) (by kernel_rfl) (by kernel_rfl) (by kernel_rfl) (by kernel_rfl) ?_
                  iterate 1
                    apply Flow.calm2 _ _ rfl rfl
                    · intro w' hb' K' hK'
                      obtain ⟨hc', hf'⟩ := hb'.rule
                      go_simp
                      try go_ints
                      exact hK'
                    · intro K' hK'
                      simp only [Act.put, List.setIfInBounds_toArray, List.set_cons_zero, List.set_cons_succ]
                      exact hK'
                  iterate 2
                    apply Flow.mv _ rfl
                    · intro K' hK'
                      simp only [Act.put, Act.eval, List.setIfInBounds_toArray, List.set_cons_zero, List.set_cons_succ, arr_getD, List.getD_cons_zero, List.getD_cons_succ]
                      exact hK'
                  iterate 1
                    apply Flow.calm2 _ _ rfl rfl
                    · intro w' hb' K' hK'
                      obtain ⟨hc', hf'⟩ := hb'.rule
                      go_simp
                      try go_ints
                      exact hK'
                    · intro K' hK'
                      simp only [Act.put, List.setIfInBounds_toArray, List.set_cons_zero, List.set_cons_succ]
                      exact hK'
                  iterate 2
                    apply Flow.mv _ rfl
                    · intro K' hK'
                      simp only [Act.put, Act.eval, List.setIfInBounds_toArray, List.set_cons_zero, List.set_cons_succ, arr_getD, List.getD_cons_zero, List.getD_cons_succ]
                      exact hK'
                  iterate 1
                    apply Flow.calm2 _ _ rfl rfl
                    · intro w' hb' K' hK'
                      obtain ⟨hc', hf'⟩ := hb'.rule
                      go_simp
                      try go_ints
                      exact hK'
                    · intro K' hK'
                      simp only [Act.put, List.setIfInBounds_toArray, List.set_cons_zero, List.set_cons_succ]
                      exact hK'
                  iterate 2
                    apply Flow.mv _ rfl
                    · intro K' hK'
                      simp only [Act.put, Act.eval, List.setIfInBounds_toArray, List.set_cons_zero, List.set_cons_succ, arr_getD, List.getD_cons_zero, List.getD_cons_succ]
                      exact hK'
                  iterate 1
                    apply Flow.calm2 _ _ rfl rfl
                    · intro w' hb' K' hK'
                      obtain ⟨hc', hf'⟩ := hb'.rule
                      go_simp
                      try go_ints
                      exact hK'
                    · intro K' hK'
                      simp only [Act.put, List.setIfInBounds_toArray, List.set_cons_zero, List.set_cons_succ]
                      exact hK'
                  apply Flow.move rfl
                  go_wp2_with fail
                  refine (HA1.out _ hbr.drew).mono ?_
                  rintro e w5 ⟨rfl, HB1⟩
                  go_wp2_with fail
                  refine ⟨fun _ => (by first | exact HB1 | exact Bl.refl _), ?_⟩
                  apply Flow.move rfl
                  go_wp2_with fail
                  refine (HB1'.out _ (hbr.drew.trans HB1)).mono ?_
                  rintro e w6 ⟨rfl, HB2⟩
                  go_wp2_with fail
                  refine ⟨fun _ => (by first | exact HB2 | exact Bl.refl _), ?_⟩
                  iterate 1
                    apply Flow.calm2 _ _ rfl rfl
                    · intro w' hb' K' hK'
                      obtain ⟨hc', hf'⟩ := hb'.rule
                      go_simp
                      try go_ints
                      exact hK'
                    · intro K' hK'
                      simp only [Act.put, List.setIfInBounds_toArray, List.set_cons_zero, List.set_cons_succ]
                      exact hK'
                  refine Flow.done ?_
                  have hb6 := (hbr.drew.trans HB1).trans HB2
                  cases va
                  · cases vb
                    · have HN := Lib.hid (show P + winN G (-(r : Int)) (l + 1) = P + V by rw [HVs.out]; rfl)
                      go_wp2_with fail
                      exact ⟨⟨l + 1, hlx, by rw [Hx.out]; go_num, by rw [HN.out] <;> go_num, hb6⟩, by rw [Hx.out]; simp [RowKit.intOf] <;> omega⟩
                    · have HN := Lib.hid (show P + winN G (-(r : Int)) (l + 1) = P + V + 1 by rw [HVs.out]; rfl)
                      go_wp2_with fail
                      exact ⟨⟨l + 1, hlx, by rw [Hx.out]; go_num, by rw [HN.out]; go_num, hb6⟩, by rw [Hx.out]; simp [RowKit.intOf] <;> omega⟩
                  · cases vb
                    · have HN := Lib.hid (show P + winN G (-(r : Int)) (l + 1) = P + V + 1 by rw [HVs.out]; rfl)
                      go_wp2_with fail
                      exact ⟨⟨l + 1, hlx, by rw [Hx.out]; go_num, by rw [HN.out]; go_num, hb6⟩, by rw [Hx.out]; simp [RowKit.intOf] <;> omega⟩
                    · have HN := Lib.hid (show P + winN G (-(r : Int)) (l + 1) = P + V by rw [HVs.out]; rfl)
                      go_wp2_with fail
                      exact ⟨⟨l + 1, hlx, by rw [Hx.out]; go_num, by rw [HN.out] <;> go_num, hb6⟩, by rw [Hx.out]; simp [RowKit.intOf] <;> omega⟩
                · obtain rfl : l = NX := by omega
                  have hxc : ¬ ((l : Int) - (r : Int) < (MW : Int) + (r : Int)) := by have := HNX.out; omega
                  have HN := Lib.hid (show winN Row (-(r : Int)) (k + 1) = P + winN G (-(r : Int)) l from HPs.out)
                  go_wp2_with fail
                  exact ⟨⟨k + 1, hkt, by rw [Hy.out]; go_num, by rw [HN.out], hbr⟩, by rw [Hy.out]; simp [RowKit.intOf] <;> omega⟩
            · obtain rfl : k = NY := by omega
              have hyc : ¬ ((k : Int) - (r : Int) < (MH : Int) + (r : Int)) := by have := HNY.out; omega
              have hFj := HFj.out
              obtain ⟨V, hVV⟩ : ∃ V, V = winN Row (-(r : Int)) k := ⟨_, rfl⟩
              rw [← hVV] at hFj hP ⊢
              have hst := least_step (l := leastI T F idx) (m := mostN F idx) hFj (by
                unfold leastI
                split
                · rename_i h0; exact .inl ⟨rfl, by rw [h0]; rfl⟩
                · exact .inr rfl) Hm.out
              rw [← HNx.out] at hst
              have hlb : leastI T F idx ≤ 32000000 ∧ -1 ≤ leastI T F idx := by
                have := Hm.out
                unfold leastI
                split <;> omega
              obtain ⟨Lv, hLv⟩ : ∃ x, x = leastI T F idx := ⟨_, rfl⟩
              rw [← hLv] at hst hlb ⊢
              obtain ⟨Ln, hLn⟩ : ∃ x, x = leastI T F (i * (2 * r + 1) + (j + 1)) := ⟨_, rfl⟩
              rw [← hLn] at hst
              have HLn := Lib.hid hLn
              clear hLn hLv hFj hVV
              by_cases c1 : Lv < 0
              · rw [if_pos (.inl c1)] at hst
                have HSt := Lib.hid hst
                clear hst
                go_wp2_with fail
                exact ⟨⟨j + 1, hjt, by rw [HDx.out]; go_num, by rw [← HLn.out, ← HSt.out], hbr⟩, by rw [HDx.out]; simp [RowKit.intOf] <;> omega⟩
              · by_cases c2 : (V : Int) < Lv
                · rw [if_pos (.inr c2)] at hst
                  have HSt := Lib.hid hst
                  clear hst
                  go_wp2_with fail
                  exact ⟨⟨j + 1, hjt, by rw [HDx.out]; go_num, by rw [← HLn.out, ← HSt.out], hbr⟩, by rw [HDx.out]; simp [RowKit.intOf] <;> omega⟩
                · rw [if_neg (by omega)] at hst
                  have HSt := Lib.hid hst
                  clear hst
                  go_wp2_with fail
                  exact ⟨⟨j + 1, hjt, by rw [HDx.out]; go_num, by rw [← HLn.out, ← HSt.out], hbr⟩, by rw [HDx.out]; simp [RowKit.intOf] <;> omega⟩
        · obtain rfl : j = 2 * r + 1 := by omega
          have hcj : ¬ (((2 * r + 1 : Nat) : Int) - (r : Int) ≤ (r : Int)) := by omega
          have he : i * (2 * r + 1) + (2 * r + 1) = (i + 1) * (2 * r + 1) := by rw [Nat.add_mul, Nat.one_mul]
          rw [he]
          go_wp2_with fail
          exact ⟨⟨i + 1, hlt, by rw [HDy.out]; go_num, rfl, hbr⟩, by rw [HDy.out]; simp [RowKit.intOf] <;> omega⟩
    · obtain rfl : i = 2 * r + 1 := by omega
      have hc : ¬ (((2 * r + 1 : Nat) : Int) - (r : Int) ≤ (r : Int)) := by omega
      go_wp2_with fail
      go_ret
      exact ⟨ret_int HRs.out.symm, w2b.trans hbr⟩

end Go.Proofs.YtjelhdpcaileiaaDoor


/-! Rows that a call owns, and rows that lie: cells that are set, rows that grow. -/
namespace Go.Proofs.YtjelhdpcaileiaaDoor
open Go.RowKit

theorem ownsRow_set {w : World} {base : Nat} {e : TypeId} {size n g cap : Nat} {xs : List Value} (h : w.ownsRow base e size (.slice (some ⟨g, 0, none⟩) n cap) n xs) (j : Nat) (u : Value) : (w.setCell ⟨g, j, none⟩ u).ownsRow base e size (.slice (some ⟨g, 0, none⟩) n cap) n (xs.set j u) := by
  refine ⟨by rw [List.length_set]; exact h.1, ?_⟩
  rcases h.2 with ⟨hv, _⟩ | ⟨g', cap', cur, hv, hb, hg, hn, hc, hs, ht⟩
  · cases hv
  · injection hv with h1 h2 h3
    injection h1 with h1
    injection h1 with h1
    subst h1
    subst h3
    refine .inr ⟨g, cap, cur.setIfInBounds j u, rfl, hb, ?_, hn, hc, by simpa using hs, ?_⟩
    · simp [World.setCell, Array.getElem?_modify, hg]
    · rw [Array.toList_setIfInBounds, List.take_set, ht]
theorem add_flat (g i : Nat) : (⟨g, 0, none⟩ : Addr).add i = ⟨g, i, none⟩ := by unfold Addr.add; split <;> simp_all
theorem Reads.lt {w : World} {A : Option Addr} {n : Nat} {xs : List Value} (h : Reads w 1 A n xs) : ∀ a, A = some a → 0 < n → a.block < w.heap.size := fun a ha hn => by
  obtain ⟨ad, u, e, -, hc⟩ := h.at_ hn
  rw [ha] at e
  injection e with e
  subst e
  have := World.block_lt_of_cell? w _ hc
  rwa [block_of_add] at this
theorem Reads.far {w : World} {size n : Nat} {A : Option Addr} {xs : List Value} (h : Reads w size A n xs) {p : Addr} (hn : ∀ a, A = some a → 0 < n → a.block ≠ p.block) (u : Value) : Reads (w.setCell p u) size A n xs :=
  ⟨h.1, fun hk => by
    obtain ⟨ad, e, hc⟩ := h.2 hk
    exact ⟨ad, e, fun j x hx => by rw [World.cell?_setCell_other w p _ u (fun e' => by have h1 := hn ad e hk; have h2 := congrArg Addr.block e'; rw [block_of_add] at h2; omega)]; exact hc j x hx⟩⟩
theorem Reads.grown {w w' : World} {n : Nat} {A : Option Addr} {xs : List Value} {row : Option Nat} (h : Reads w 1 A n xs) (hb : w.grownBy w' row) (hn : ∀ a, A = some a → 0 < n → some a.block ≠ row) : Reads w' 1 A n xs :=
  ⟨h.1, fun hk => by
    obtain ⟨ad, e, hc⟩ := h.2 hk
    refine ⟨ad, e, fun j x hx => ?_⟩
    rw [World.cell?_of_block (hb.block _ (by rw [block_of_add]; exact h.lt ad e hk) (by rw [block_of_add]; exact hn ad e hk))]
    exact hc j x hx⟩
theorem own_some {w : World} {base : Nat} {e : TypeId} {size n : Nat} {v : Value} {xs : List Value} (h : w.ownsRow base e size v n xs) (hn : 0 < n) : ∃ g cap, v = .slice (some ⟨g, 0, none⟩) n cap ∧ base ≤ g ∧ n ≤ cap := by
  rcases h.2 with ⟨-, h0⟩ | ⟨g, cap, cur, rfl, hb, -, hc, -⟩
  · omega
  · exact ⟨g, cap, rfl, hb, hc⟩
theorem own_lt {w : World} {base : Nat} {e : TypeId} {size n g cap : Nat} {xs : List Value} (h : w.ownsRow base e size (.slice (some ⟨g, 0, none⟩) n cap) n xs) : g < w.heap.size := by
  rcases h.2 with ⟨hv, -⟩ | ⟨g', cap', cur, hv, -, hg, -⟩
  · cases hv
  · injection hv with h1 h2 h3
    injection h1 with h1
    injection h1 with h1
    subst h1
    exact (Array.getElem?_eq_some_iff.1 hg).1
theorem own_blk {w : World} {base : Nat} {e : TypeId} {size n g cap : Nat} {xs : List Value} (h : w.ownsRow base e size (.slice (some ⟨g, 0, none⟩) n cap) n xs) : (∀ j, j < n * size → ∃ v, w.cell? ⟨g, j, none⟩ = some v) ∧ ∀ j, w.frozen? ⟨g, j, none⟩ = false := by
  rcases h.2 with ⟨hv, -⟩ | ⟨g', cap', cur, hv, -, hg, hn, -, hs, -⟩
  · cases hv
  · injection hv with h1 h2 h3
    injection h1 with h1
    injection h1 with h1
    subst h1
    subst h3
    have hb : Blk w g e cur := hg
    refine ⟨fun j hj => ?_, hb.frozen⟩
    have hlt : j < cur.size := by have := Nat.mul_le_mul_right size hn; omega
    exact ⟨cur[j], by rw [hb.cell]; exact Array.getElem?_eq_getElem hlt⟩
theorem page_ok {W H : Nat} (h1 : 1 ≤ W) (h2 : W ≤ 4000) (h3 : 1 ≤ H) (h4 : H ≤ 4000) (h5 : W * H ≤ 1048576) : pageErr (W : Int) (H : Int) (W * H) = 0 := by
  have e := Int.natCast_mul W H
  have hs : sizeErr (W : Int) (H : Int) = 0 := by
    unfold sizeErr
    rw [if_pos (by omega), if_neg (by omega)]
  unfold pageErr
  rw [if_pos hs, if_pos (by omega)]

end Go.Proofs.YtjelhdpcaileiaaDoor


/-! The plain law of the pieces of a line: columns with ink that lie side by side. -/
namespace Go.Proofs.YtjelhdpcaileiaaDoor
open Go.RowKit

/-- A piece: its first column, and how many. -/
abbrev Piece := Nat × Nat
def wider : List Piece → List Piece
  | [] => []
  | [p] => [(p.1, p.2 + 1)]
  | p :: q :: l => p :: wider (q :: l)
theorem wider_append (l : List Piece) (p : Piece) : wider (l ++ [p]) = l ++ [(p.1, p.2 + 1)] := by
  induction l with
  | nil => rfl
  | cons x l ih =>
    cases l with
    | nil => rfl
    | cons y l => show x :: wider (y :: l ++ [p]) = _; rw [ih]; rfl
/-- Is the column ahead inked? -/
def ahead (f : Nat → Nat) : Nat → Bool
  | 0 => false
  | k + 1 => decide (0 < f k)
def piecesTo (f : Nat → Nat) : Nat → List Piece
  | 0 => []
  | k + 1 => if f k = 0 then piecesTo f k else if ahead f k = true then wider (piecesTo f k) else piecesTo f k ++ [(k, 1)]
/-- Where the last piece ends. -/
theorem pieces_last (f : Nat → Nat) : ∀ k, (ahead f k = true → ∃ l p, piecesTo f k = l ++ [p] ∧ p.1 + p.2 = k) ∧ (ahead f k = false → piecesTo f k = [] ∨ ∃ l p, piecesTo f k = l ++ [p] ∧ p.1 + p.2 < k)
  | 0 => ⟨(fun h => by cases h), fun _ => Or.inl rfl⟩
  | k + 1 => by
    have ih := pieces_last f k
    constructor
    · intro h
      have hf : 0 < f k := of_decide_eq_true h
      show ∃ l p, (if f k = 0 then piecesTo f k else if ahead f k = true then wider (piecesTo f k) else piecesTo f k ++ [(k, 1)]) = l ++ [p] ∧ p.1 + p.2 = k + 1
      rw [if_neg (by omega)]
      cases ha : ahead f k
      · rw [if_neg (by simp)]
        exact ⟨_, _, rfl, rfl⟩
      · obtain ⟨l, p, e, hp⟩ := ih.1 ha
        rw [if_pos rfl, e, wider_append]
        exact ⟨l, _, rfl, by show p.1 + (p.2 + 1) = k + 1; omega⟩
    · intro h
      have hf : f k = 0 := by have : ¬ 0 < f k := of_decide_eq_false h; omega
      show (if f k = 0 then piecesTo f k else _) = [] ∨ ∃ l p, (if f k = 0 then piecesTo f k else _) = l ++ [p] ∧ p.1 + p.2 < k + 1
      rw [if_pos hf]
      cases ha : ahead f k
      · rcases ih.2 ha with h2 | ⟨l, p, e, hp⟩
        · exact .inl h2
        · exact .inr ⟨l, p, e, by omega⟩
      · obtain ⟨l, p, e, hp⟩ := ih.1 ha
        exact .inr ⟨l, p, e, by omega⟩
theorem wider_length : ∀ l : List Piece, (wider l).length = l.length
  | [] => rfl
  | [_] => rfl
  | _ :: q :: l => by show (wider (q :: l)).length + 1 = _; rw [wider_length (q :: l)]; rfl
theorem pieces_len (f : Nat → Nat) : ∀ k, (piecesTo f k).length ≤ k
  | 0 => Nat.le_refl _
  | k + 1 => by
    have ih := pieces_len f k
    show (if f k = 0 then piecesTo f k else if ahead f k = true then wider (piecesTo f k) else piecesTo f k ++ [(k, 1)]).length ≤ k + 1
    split
    · omega
    · split
      · rw [wider_length]; omega
      · rw [List.length_append]; simp; exact ih
/-- A piece lies within what was looked at, and is not empty. -/
theorem pieces_in (f : Nat → Nat) : ∀ k, ∀ p ∈ piecesTo f k, 1 ≤ p.2 ∧ p.1 + p.2 ≤ k
  | 0 => fun p hp => by cases hp
  | k + 1 => by
    have ih := pieces_in f k
    intro p hp
    change p ∈ (if f k = 0 then piecesTo f k else if ahead f k = true then wider (piecesTo f k) else piecesTo f k ++ [(k, 1)]) at hp
    split at hp
    · have := ih p hp; omega
    · split at hp
      · rename_i ha
        obtain ⟨l, q, e, hq⟩ := (pieces_last f k).1 ha
        rw [e, wider_append] at hp
        have hq2 := ih q (by rw [e]; simp)
        rcases List.mem_append.1 hp with h | h
        · have := ih p (by rw [e]; exact List.mem_append_left _ h); omega
        · rw [List.mem_singleton.1 h]
          show 1 ≤ q.2 + 1 ∧ q.1 + (q.2 + 1) ≤ k + 1
          omega
      · rcases List.mem_append.1 hp with h | h
        · have := ih p h; omega
        · rw [List.mem_singleton.1 h]
          show 1 ≤ 1 ∧ k + 1 ≤ k + 1
          omega
/-- The boxes of pieces, flat. -/
def boxCells (H : Nat) (l : List Piece) : List Value := l.flatMap fun p => [.int .i64 p.1, .int .i64 0, .int .i64 p.2, .int .i64 H]
theorem boxCells_append (H : Nat) (a b : List Piece) : boxCells H (a ++ b) = boxCells H a ++ boxCells H b := by unfold boxCells; rw [List.flatMap_append]
theorem boxCells_len (H : Nat) (l : List Piece) : (boxCells H l).length = l.length * 4 := by
  unfold boxCells
  induction l with
  | nil => rfl
  | cons x l ih =>
    rw [List.flatMap_cons, List.length_append, ih, List.length_cons]
    show 4 + l.length * 4 = (l.length + 1) * 4
    omega
theorem boxCells_at {H : Nat} {l : List Piece} {i : Nat} {p : Piece} (h : l[i]? = some p) (j : Nat) (hj : j < 4) : (boxCells H l)[i * 4 + j]? = ([.int .i64 p.1, .int .i64 0, .int .i64 p.2, .int .i64 H] : List Value)[j]? := by
  induction l generalizing i with
  | nil => simp at h
  | cons x l ih =>
    unfold boxCells
    rw [List.flatMap_cons]
    rcases i with _ | i
    · simp only [List.getElem?_cons_zero, Option.some.injEq] at h
      subst h
      rw [List.getElem?_append_left (by show 0 * 4 + j < 4; omega)]
      simp
    · rw [List.getElem?_append_right (by show 4 ≤ (i + 1) * 4 + j; omega)]
      have e : (i + 1) * 4 + j - 4 = i * 4 + j := by omega
      show (boxCells H l)[(i + 1) * 4 + j - 4]? = _
      rw [e]
      exact ih (by simpa using h)
/-- The last box made wider: one cell is set. -/
theorem boxCells_wider (H : Nat) (l : List Piece) (p : Piece) : (boxCells H (l ++ [p])).set (l.length * 4 + 2) (.int .i64 ((p.2 : Int) + 1)) = boxCells H (wider (l ++ [p])) := by
  rw [wider_append, boxCells_append, boxCells_append]
  rw [List.set_append_right _ _ (by rw [boxCells_len]; omega), boxCells_len]
  rw [show l.length * 4 + 2 - l.length * 4 = 2 by omega]
  rfl

end Go.Proofs.YtjelhdpcaileiaaDoor


/-! The plain law of what is seen of a piece: the nearest letter, and the next. -/
namespace Go.Proofs.YtjelhdpcaileiaaDoor
open Go.RowKit

/-- How far a letter is from a shape, at a reach of 1. -/
def farL (cs : List Bool) (W H : Nat) (l : Ltr) : Int := farN (inkF cs W H) (inkF l.bs l.W.toNat l.H.toNat) W H l.W.toNat l.H.toNat 1
/-- The nearest letter's text, how far it is, and the next. -/
abbrev Best := List UInt8 × Int × Int
def bestStep (cs : List Bool) (W H : Nat) (s : Best) (l : Ltr) : Best :=
  if l.W - (W : Int) < -2 ∨ 2 < l.W - (W : Int) then s
  else if s.2.1 < 0 ∨ farL cs W H l < s.2.1 then (l.text, farL cs W H l, s.2.1)
  else if s.2.2 < 0 ∨ farL cs W H l < s.2.2 then (s.1, s.2.1, farL cs W H l)
  else s
def bestOf (cs : List Bool) (W H : Nat) (t0 : List UInt8) (ls : List Ltr) : Best := ls.foldl (bestStep cs W H) (t0, -1, -1)
theorem bestOf_succ {cs : List Bool} {W H : Nat} {t0 : List UInt8} {ls : List Ltr} {i : Nat} {l : Ltr} (h : ls[i]? = some l) : bestOf cs W H t0 (ls.take (i + 1)) = bestStep cs W H (bestOf cs W H t0 (ls.take i)) l := by
  unfold bestOf
  rw [List.take_add_one, h, List.foldl_append]
  rfl
theorem far_range {W H W' H' r : Nat} {cs bs : List Bool} (hW : W ≤ 4000) (hH : H ≤ 4000) (hW' : W' ≤ 4000) (hH' : H' ≤ 4000) : 0 ≤ farN (inkF cs W H) (inkF bs W' H') W H W' H' r ∧ farN (inkF cs W H) (inkF bs W' H') W H W' H' r ≤ 32000000 := by
  have h1 := tally_ink cs W H
  have h2 := tally_ink bs W' H'
  have h3 := tally_le cs (W * H)
  have h4 := tally_le bs (W' * H')
  have h5 := Nat.mul_le_mul hW hH
  have h6 := Nat.mul_le_mul hW' hH'
  have hFm : mostN (shifted (inkF cs W H) (inkF bs W' H') W H W' H' r) ((2 * r + 1) * (2 * r + 1)) ≤ (inkA (inkF cs W H) W H + inkA (inkF bs W' H') W' H') / 2 := mostN_le fun idx hidx => by
    have e1 : idx / (2 * r + 1) < 2 * r + 1 := Nat.div_lt_of_lt_mul (by omega)
    have e2 : idx % (2 * r + 1) < 2 * r + 1 := Nat.mod_lt _ (by omega)
    have h7 : diffN (inkF cs W H) (inkF bs W' H') W H W' H' r (shiftX r idx) (shiftY r idx) + 2 * bothN (inkF cs W H) (inkF bs W' H') W H W' H' (shiftX r idx) (shiftY r idx) = inkA (inkF cs W H) W H + inkA (inkF bs W' H') W' H' := by
      unfold shiftX shiftY
      obtain ⟨a, ha⟩ : ∃ a, a = idx % (2 * r + 1) := ⟨_, rfl⟩
      obtain ⟨b, hb⟩ : ∃ b, b = idx / (2 * r + 1) := ⟨_, rfl⟩
      rw [← ha, ← hb]
      rw [← ha] at e2
      rw [← hb] at e1
      exact diff_both (inkF_held cs W H) (inkF_held bs W' H') (by omega) (by omega) (by omega) (by omega)
    unfold shifted
    omega
  unfold farN
  omega
/-- What holds of the best, whatever letters came. -/
theorem best_inv {cs : List Bool} {W H : Nat} (t0 : List UInt8) (hW : W ≤ 4000) (hH : H ≤ 4000) {ls : List Ltr} (hl : ∀ l ∈ ls, l.W ≤ 64 ∧ l.H ≤ 4000) : (bestOf cs W H t0 ls).2.1 = -1 ∧ (bestOf cs W H t0 ls).2.2 = -1 ∨ (0 ≤ (bestOf cs W H t0 ls).2.1 ∧ (bestOf cs W H t0 ls).2.1 ≤ 32000000 ∧ -1 ≤ (bestOf cs W H t0 ls).2.2 ∧ (bestOf cs W H t0 ls).2.2 ≤ 32000000) := by
  have key : ∀ (ls : List Ltr) (s : Best), (∀ l ∈ ls, l.W ≤ 64 ∧ l.H ≤ 4000) → (s.2.1 = -1 ∧ s.2.2 = -1 ∨ (0 ≤ s.2.1 ∧ s.2.1 ≤ 32000000 ∧ -1 ≤ s.2.2 ∧ s.2.2 ≤ 32000000)) →
      ((ls.foldl (bestStep cs W H) s).2.1 = -1 ∧ (ls.foldl (bestStep cs W H) s).2.2 = -1 ∨ (0 ≤ (ls.foldl (bestStep cs W H) s).2.1 ∧ (ls.foldl (bestStep cs W H) s).2.1 ≤ 32000000 ∧ -1 ≤ (ls.foldl (bestStep cs W H) s).2.2 ∧ (ls.foldl (bestStep cs W H) s).2.2 ≤ 32000000)) := by
    intro ls
    induction ls with
    | nil => intro s _ h; exact h
    | cons l ls ih =>
      intro s hl h
      refine ih (bestStep cs W H s l) (fun x hx => hl x (List.mem_cons_of_mem _ hx)) ?_
      have hll := hl l (List.mem_cons_self ..)
      have hr : 0 ≤ farL cs W H l ∧ farL cs W H l ≤ 32000000 := far_range hW hH (by omega) (by omega)
      unfold bestStep
      split
      · exact h
      · split
        · right
          show 0 ≤ farL cs W H l ∧ farL cs W H l ≤ 32000000 ∧ -1 ≤ s.2.1 ∧ s.2.1 ≤ 32000000
          omega
        · split
          · right
            show 0 ≤ s.2.1 ∧ s.2.1 ≤ 32000000 ∧ -1 ≤ farL cs W H l ∧ farL cs W H l ≤ 32000000
            omega
          · exact h
  exact key ls _ hl (.inl ⟨rfl, rfl⟩)
/-- The text that one begins with counts only where no letter came near. -/
theorem best_text {cs : List Bool} {W H : Nat} (t0 t1 : List UInt8) (ls : List Ltr) (_hW : W ≤ 4000) (_hH : H ≤ 4000) (hl : ∀ l ∈ ls, l.W ≤ 64 ∧ l.H ≤ 4000) : (bestOf cs W H t0 ls).2 = (bestOf cs W H t1 ls).2 ∧ (0 ≤ (bestOf cs W H t0 ls).2.1 → (bestOf cs W H t0 ls).1 = (bestOf cs W H t1 ls).1) := by
  have key : ∀ (ls : List Ltr) (s u : Best), (∀ l ∈ ls, l.W ≤ 64 ∧ l.H ≤ 4000) → s.2 = u.2 → (0 ≤ s.2.1 → s.1 = u.1) → (ls.foldl (bestStep cs W H) s).2 = (ls.foldl (bestStep cs W H) u).2 ∧ (0 ≤ (ls.foldl (bestStep cs W H) s).2.1 → (ls.foldl (bestStep cs W H) s).1 = (ls.foldl (bestStep cs W H) u).1) := by
    intro ls
    induction ls with
    | nil => intro s u _ h1 h2; exact ⟨h1, h2⟩
    | cons l ls ih =>
      intro s u hl h1 h2
      have hll := hl l (List.mem_cons_self ..)
      refine ih _ _ (fun x hx => hl x (List.mem_cons_of_mem _ hx)) ?_ ?_
      · unfold bestStep
        rw [h1]
        split
        · exact h1
        · split
          · rfl
          · split <;> first | rfl | exact h1
      · unfold bestStep
        rw [h1]
        split
        · intro h; first | exact h2 h | exact h2 (by rw [h1]; exact h)
        · split
          · intro _; rfl
          · rename_i hno
            split
            · intro h
              first | exact h2 h | exact h2 (by rw [h1]; exact h)
            · intro h
              first | exact h2 h | exact h2 (by rw [h1]; exact h)
  exact key ls _ _ hl rfl (fun h => absurd h (show ¬ (0 : Int) ≤ -1 by decide))
/-- What is seen of a piece. -/
def farOff (b : Best) (most ht w : Int) : Bool := decide (b.2.1 < 0 ∨ most * ht * w < b.2.1 * 1000)
def seenCells (b : Best) (X W H : Nat) (most ht : Int) : List Value :=
  if farOff b most ht W = true then [.string ⟨#[63]⟩, .int .i64 X, .int .i64 0, .int .i64 W, .int .i64 H, .int .i64 (-1), .int .i64 (-1)]
  else [.string ⟨b.1.toArray⟩, .int .i64 X, .int .i64 0, .int .i64 W, .int .i64 H, .int .i64 b.2.1, .int .i64 b.2.2]
theorem seen_text {cs : List Bool} {bW bH : Nat} (t0 t1 : List UInt8) (ls : List Ltr) (hW : bW ≤ 4000) (hH : bH ≤ 4000) (hl : ∀ l ∈ ls, l.W ≤ 64 ∧ l.H ≤ 4000) (X W H : Nat) (most ht : Int) : seenCells (bestOf cs bW bH t0 ls) X W H most ht = seenCells (bestOf cs bW bH t1 ls) X W H most ht := by
  obtain ⟨h1, h2⟩ := best_text (cs := cs) t0 t1 ls hW hH hl
  have hf : farOff (bestOf cs bW bH t0 ls) most ht W = farOff (bestOf cs bW bH t1 ls) most ht W := by unfold farOff; rw [h1]
  unfold seenCells
  rw [hf]
  split
  · rfl
  · rename_i h
    have h0 : 0 ≤ (bestOf cs bW bH t0 ls).2.1 := by
      rw [← hf] at h
      unfold farOff at h
      simp only [decide_eq_true_eq, not_or] at h
      omega
    rw [h2 h0, h1]

end Go.Proofs.YtjelhdpcaileiaaDoor


/-! page.ToBits, page.ToGray, and the function values of the law on counts. -/
namespace Go.Proofs.YtjelhdpcaileiaaDoor
open Go.RowKit

def lvlErr (W H : Int) (k : Nat) (n : Int) : Int := firstNZ [pageErr W H k, whenI (!inB n 0 256) 3]
theorem lvlErr_zero {W H : Int} {k : Nat} {n : Int} (h : lvlErr W H k n = 0) : pageErr W H k = 0 ∧ (0 ≤ n ∧ n ≤ 256) := by
  unfold lvlErr firstNZ at h
  split at h
  · rename_i h0
    refine ⟨h0, ?_⟩
    cases hi : inB n 0 256
    · rw [hi] at h; simp [firstNZ, whenI] at h
    · exact inB_true.1 hi
  · contradiction
def bitF (zs : List Int) (W : Nat) (level : Int) (x y : Nat) : Bool := decide (vix zs W x y < level)
def grayF (bs : List Bool) (W : Nat) (x y : Nat) : Int := if pix bs W x y then 0 else 255

/-! ### ToGray -/
end Go.Proofs.YtjelhdpcaileiaaDoor


/-! page.counted, Rows, Columns, Histogram. -/
namespace Go.Proofs.YtjelhdpcaileiaaDoor
open Go.RowKit

/-- A table of numbers if the error is 0, nothing else. -/
def TabRes (w : World) (err : Int) (N : Nat) (f : Nat → Int) (P : Option Addr) (m : Nat) : Prop :=
  (err = 0 → m = N ∧ Reads w 1 P m ((tabL m f).map (.int .i64))) ∧ (err ≠ 0 → m = 0 ∧ P = none)
theorem TabRes.bl {w w' : World} {err : Int} {N : Nat} {f : Nat → Int} {P : Option Addr} {m : Nat} (h : TabRes w err N f P m) (hb : Bl w w') : TabRes w' err N f P m :=
  ⟨fun e => ⟨(h.1 e).1, (h.1 e).2.bl hb⟩, h.2⟩
def rowI (bs : List Bool) (W k : Nat) : Int := ((rowN bs W k : Nat) : Int)
def colI (bs : List Bool) (W H k : Nat) : Int := ((colN bs W H k : Nat) : Int)
def valI (zs : List Int) (n k : Nat) : Int := ((cntV zs n k : Nat) : Int)

set_option maxRecDepth 100000 in
set_option maxHeartbeats 2000000 in
theorem counted_any (W H : Nat) (A : Option Addr) (ac : Nat) (bs : List Bool) (many : Nat) (num : Nat → Nat) (kf : FuncId) (cap : Array Value) (w : World) (hA : Reads w 1 A (W * H) (bs.map .bool)) (hbd : W * H ≤ 1048576) (hmany : many ≤ 4000)
    (hent : ∀ args w, (callFunc kf args).run Tryd.prog w = .ok (.enter kf args) w)
    (hnum : ∀ wx (i : Nat), Bl w wx → i < W * H → Calls Tryd.prog kf (#[.int .i64 i] ++ cap) wx fun e w' => e = .returned (.int .i64 ((num i : Nat) : Int)) ∧ Bl wx w') (hlt : ∀ i, i < W * H → num i < many) :
    Calls Tryd.prog 183 #[.agg #[.int .i64 W, .int .i64 H, .slice A (W * H) ac], .int .i64 many, .func (.func kf) #[] cap] w fun e w' =>
      ∃ g, e = .returned (.slice (some ⟨g, 0, none⟩) many many) ∧ w.heap.size ≤ g ∧ Blk w' g 3 (tabI many fun k => ((cntBy bs num (W * H) k : Nat) : Int)) ∧ Bl w w' := by
  let w2 := (w).alloc (.cells #[.int .i64 W, .int .i64 H, .slice A (W * H) ac] 27)
  have w2b : Bl w w2 := (Bl.refl w).alloc _
  have w21 : Blk w2 (w.heap.size) 27 #[.int .i64 W, .int .i64 H, .slice A (W * H) ac] := by
    have h0 := Blk.new (w) 27 #[.int .i64 W, .int .i64 H, .slice A (W * H) ac]
    exact h0
  have k1 := w21.all3
  have lw2 : w2.heap.size = w.heap.size + 1 := by simp [w2]
  have hmk := run_make_row' (P := Tryd.prog) 62 3 (.int .i64 0) 8 Tryd.underlying62 info_int rfl .i64 .i64 many (by omega) (by omega)
  rw [tabI_made] at hmk
  have HA := Lib.hid hA; have Hnum := Lib.hid hnum; have Hlt := Lib.hid hlt
  have start : Blk (w2.alloc (.cells (tabI many fun _ => 0) 3)) (w.heap.size + 1) 3 (tabI many fun k => ((cntBy bs num 0 k : Nat) : Int)) := by
    have := Blk.new w2 3 (tabI many fun _ => 0)
    rw [lw2] at this
    exact this
  have Start := Lib.hid start
  clear hA hnum hlt start
  go_enter Tryd.func183, Tryd.ntmps183
  go_wp2_with fail
  go_loopw [15] (fun u wr => ∃ i : Nat, i ≤ W * H ∧ u = .int .i64 i ∧ Bl w2 wr ∧ Blk wr (w.heap.size + 1) 3 (tabI many fun k => ((cntBy bs num i k : Nat) : Int))) (fun u _ => W * H - (intOf u).toNat)
  case atStart => exact ⟨0, Nat.zero_le _, rfl, (Bl.refl _).alloc _, Start.out⟩
  case round =>
    clear k1
    obtain ⟨i, hi, rfl, hbr, hbo⟩ := hrel
    have k1 := (w21.bl hbr).all3
    by_cases hlt : i < W * H
    · have il : (i : Int) < (W : Int) * (H : Int) := by have := Int.natCast_mul W H; omega
      obtain ⟨ad, ua, eA, hu, hca⟩ := (HA.out.bl (w2b.trans hbr)).at_ hlt
      have hua : ua = .bool (bs.getD i false) := by
        simp only [List.getElem?_map, Option.map_eq_some_iff] at hu
        obtain ⟨b, hb1, hb2⟩ := hu
        rw [← hb2, List.getD, hb1]; rfl
      clear hu
      subst hua eA
      have hst := fun k => cntBy_succ bs num i k
      have hle := fun k => cntBy_le bs num i k
      have hn := Hlt.out i hlt
      have hcall := fun wx h => Hnum.out wx i (w2b.trans h) hlt
      obtain ⟨va, hva⟩ : ∃ v, v = bs.getD i false := ⟨_, rfl⟩
      obtain ⟨a, ha⟩ : ∃ a, a = num i := ⟨_, rfl⟩
      rw [← ha] at hn
      simp only [← ha] at hcall hst
      simp only [← hva] at hst hca
      have Hst := Lib.hid hst; have Hle := Lib.hid hle; have Hcall := Lib.hid hcall
      clear hst hle hcall hva ha
      cases va
      · have hsame : tabI many (fun k => ((cntBy bs num i k : Nat) : Int)) = tabI many (fun k => ((cntBy bs num (i + 1) k : Nat) : Int)) :=
          tabI_congr fun k _ => by rw [Hst.out k]; simp [b1]
        rw [hsame] at hbo
        clear hsame
        go_wp2_with fail
        exact ⟨⟨i + 1, hlt, by go_num, hbr, hbo⟩, by simp [intOf]; omega⟩
      · go_wp2_with fail
        refine (Hcall.out _ hbr).mono ?_
        rintro e w4 ⟨rfl, hb4⟩
        have hbr4 := hbr.trans hb4
        have hbo4 := hbo.bl hb4
        have kc := hbo4.tabAt hn
        have kf := hbo4.frozen a
        have hset := hbo4.tabSet (f' := fun k => ((cntBy bs num (i + 1) k : Nat) : Int)) a (((cntBy bs num i a : Nat) : Int) + 1) (fun k hk => by
          rw [Hst.out k]
          by_cases e : k = a
          · subst e; simp [b1]
          · have : ¬ (a = k) := fun h => e h.symm
            simp [e, this, b1])
        have hcb := Hle.out a
        obtain ⟨c, hc⟩ : ∃ c, c = cntBy bs num i a := ⟨_, rfl⟩
        rw [← hc] at kc hset hcb
        have Hset := Lib.hid hset
        clear hset hc k1
        go_wp2_with fail
        exact ⟨⟨i + 1, hlt, by go_num, hbr4.setCell (by simp; omega) _, Hset.out⟩, by simp [intOf]; omega⟩
    · obtain rfl : i = W * H := by omega
      go_wp2_with fail
      go_ret
      exact ⟨_, rfl, by omega, hbo, w2b.trans hbr⟩

set_option maxHeartbeats 400000 in
theorem columns1_any (p W : Nat) (H : Int) (v : Value) (i : Nat) (w : World) (hp : Blk w p 27 #[.int .i64 W, .int .i64 H, v]) (hW : 1 ≤ W ∧ W ≤ 4000) (hi : i ≤ 1048576) :
    Calls Tryd.prog 184 #[.int .i64 i, .pointer (some ⟨p, 0, none⟩)] w fun e w' => e = .returned (.int .i64 ((i % W : Nat) : Int)) ∧ Bl w w' := by
  have kp := hp.all3
  have hWp : ¬ (W = 0) := by omega
  obtain ⟨q, hq⟩ : ∃ q, q = i % W := ⟨_, rfl⟩
  have e1 : (i : Int) % (W : Int) = (q : Int) := by rw [hq]; simp
  have e2 := hq.symm
  have hqb : q ≤ i := by rw [hq]; first | exact Nat.div_le_self _ _ | exact Nat.mod_le _ _
  rw [← hq]
  clear hq
  go_enter Tryd.func184, Tryd.ntmps184
  go_wp2_with fail
  go_ret
  exact ⟨by first | rfl | exact ret_int e1, Bl.refl _⟩
set_option maxRecDepth 100000 in
set_option maxHeartbeats 1000000 in
theorem columns_any (W H : Int) (A : Option Addr) (an ac : Nat) (bs : List Bool) (w : World) (hA : Reads w 1 A an (bs.map .bool)) :
    Calls Tryd.prog 125 #[.agg #[.int .i64 W, .int .i64 H, .slice A an ac]] w fun e w' =>
      ∃ P m c, e = .returned (.tuple #[.slice P m c, .int .i64 (pageErr W H an)]) ∧ TabRes w' (pageErr W H an) W.toNat (colI bs W.toNat H.toNat) P m ∧ Bl w w' := by
  let w2 := (w).alloc (.cells #[.int .i64 W, .int .i64 H, .slice A an ac] 27)
  have w2b : Bl w w2 := (Bl.refl w).alloc _
  have w21 : Blk w2 (w.heap.size) 27 #[.int .i64 W, .int .i64 H, .slice A an ac] := by
    have h0 := Blk.new (w) 27 #[.int .i64 W, .int .i64 H, .slice A an ac]
    exact h0
  have k1 := w21.all3
  by_cases hp : pageErr W H an = 0
  · have hz := sizeErr_zero (pageErr_zero hp).1
    have Hp := Lib.hid hp
    obtain ⟨W, H, rfl, rfl, rfl, u1, u2, u3⟩ := page_nat hp
    have hW : 1 ≤ W ∧ W ≤ 4000 := by omega
    have HA := Lib.hid (hA.bl w2b)
    clear hz hA
    have ent := enters Tryd.func184 (by kernel_rfl) rfl
    go_enter Tryd.func125, Tryd.ntmps125
    go_wp2_with fail
    refine (checkBits_any _ _ _ _ _ _).mono ?_
    rintro e w3 ⟨rfl, hb3⟩
    have k3 := (w21.bl hb3).all3
    clear k1
    go_wp2_with fail
    refine (counted_any W H A ac bs W (fun i => i % W) 184 #[.pointer (some ⟨w.heap.size, 0, none⟩)] _ (HA.out.bl hb3) u3 (by omega) ent
      (fun wx i hb hi => columns1_any _ W H _ i wx ((w21.bl hb3).bl hb) hW (by omega)) (fun i hi => (place_parts hi).1)).mono ?_
    rintro e w4 ⟨g, rfl, hg, hbk, hb4⟩
    have e : tabI W (fun k => ((cntBy bs (fun i => i % W) (W * H) k : Nat) : Int)) = tabI W (colI bs W H) := tabI_congr fun k hk => by rw [cntBy_cols bs W H k hk]; rfl
    rw [e] at hbk
    have hp := Hp.out
    go_wp2_with fail
    refine bodyPost_ret (v := .tuple #[.slice (some ⟨g, 0, none⟩) W W, .int .i64 0]) (by simp [results, Tryd.results125, go_sem]) rfl ⟨_, _, _, by rw [hp], ⟨fun _ => ⟨by simp, ?_⟩, fun h => absurd hp h⟩, (w2b.trans hb3).trans hb4⟩
    simpa using hbk.tabReads
  · have hq : (pageErr W H an != 0) = true := by simp [hp]
    have Hp := Lib.hid hp
    clear hp
    go_enter Tryd.func125, Tryd.ntmps125
    go_wp2_with fail
    refine (checkBits_any _ _ _ _ _ _).mono ?_
    rintro e w3 ⟨rfl, hb3⟩
    go_wp2_with fail
    refine bodyPost_ret (v := .tuple #[.slice none 0 0, .int .i64 (pageErr W H an)]) (by simp [results, Tryd.results125, go_sem]) rfl ⟨_, _, _, rfl, ⟨fun h => absurd h Hp.out, fun _ => ⟨rfl, rfl⟩⟩, w2b.trans hb3⟩

/-! ### Histogram -/
end Go.Proofs.YtjelhdpcaileiaaDoor


/-! slices.Equal of numbers; blank pages; 'pages'. -/
namespace Go.Proofs.YtjelhdpcaileiaaDoor
open Go.RowKit

theorem eq_of_takes (xs ys : List Int) (hl : xs.length = ys.length) (h : ∀ j, j < xs.length → xs[j]? = ys[j]?) : xs = ys := by
  apply List.ext_getElem? 
  intro i
  rcases Nat.lt_or_ge i xs.length with hi | hi
  · exact h i hi
  · rw [List.getElem?_eq_none hi, List.getElem?_eq_none (by omega)]

set_option maxRecDepth 100000 in
set_option maxHeartbeats 400000 in
theorem equalInts_any (A B : Option Addr) (c d : Nat) (xs ys : List Int) (w : World) (hx : Reads w 1 A xs.length (xs.map (.int .i64))) (hy : Reads w 1 B ys.length (ys.map (.int .i64))) (hl : xs.length ≤ 1099511627776) :
    Calls Tryd.prog 39 #[.slice A xs.length c, .slice B ys.length d] w fun e w' => e = .returned (.bool (decide (xs = ys))) ∧ Bl w w' := by
  by_cases hlen : xs.length = ys.length
  · have hne : ((xs.length : Int) != (ys.length : Int)) = false := by simp [hlen]
    have hne2 : (xs.length != ys.length) = false := by simp [hlen]
    have Hlen := Lib.hid hlen; clear hlen
    go_enter Tryd.func39, Tryd.ntmps39
    go_wp2
    go_loopw [13] (fun v wr => ∃ k : Nat, k ≤ xs.length ∧ v = .int .i64 k ∧ Hid (∀ j, j < k → xs[j]? = ys[j]?) ∧ Bl w wr) (fun v _ => xs.length - (intOf v).toNat)
    case atStart => exact ⟨0, Nat.zero_le _, rfl, fun j hj => absurd hj (by omega), Bl.refl _⟩
    case round =>
      obtain ⟨k, hk, rfl, hz, hbr⟩ := hrel
      by_cases hlt : k < xs.length
      · have hlt' : k < ys.length := by have := Hlen.out; omega
        obtain ⟨ad, u, rfl, hu, hc⟩ := (hx.bl hbr).at_ hlt
        obtain ⟨bd, t, rfl, ht, hd⟩ := (hy.bl hbr).at_ hlt'
        have hu' : u = .int .i64 xs[k] := by simpa [hlt] using hu.symm
        have ht' : t = .int .i64 ys[k] := by simpa [hlt'] using ht.symm
        subst hu' ht'
        have Hx := Lib.hid hx; have Hy := Lib.hid hy
        clear hx hy hu ht
        have i1 : (k : Int) < (xs.length : Int) := by omega
        have i2 : (k : Int) < (ys.length : Int) := by omega
        by_cases h0 : xs[k] = ys[k]
        · have hb : (xs[k] != ys[k]) = false := by simp [h0]
          have hzz : Hid (∀ j, j < k + 1 → xs[j]? = ys[j]?) := fun j hj => by
            rcases Nat.lt_or_ge j k with h | h
            · exact hz.out j h
            · obtain rfl : j = k := by omega
              simp [hlt, hlt', h0]
          have H0 := Lib.hid h0; clear h0
          go_wp2
          refine wp_region_flow [(true, 0), (true, 1), (true, 2), (true, 3), (true, 4), (true, 5), (true, 6), (true, 7), (true, 8)] (fun _ => false) (by kernel_rfl) (by kernel_rfl) (by kernel_rfl) (by kernel_rfl) ?_
          iterate 2
            apply Flow.mv _ rfl
            · intro K' hK'
              simp only [Act.put, Act.eval, List.setIfInBounds_toArray, List.set_cons_zero, List.set_cons_succ, arr_getD, List.getD_cons_zero, List.getD_cons_succ]
              exact hK'
          iterate 1
            apply Flow.calm2 _ _ rfl rfl
            · intro w' hb' K' hK'
              obtain ⟨hc', hf'⟩ := hb'.rule
              go_simp
              try go_ints
              exact hK'
            · intro K' hK'
              simp only [Act.put, List.setIfInBounds_toArray, List.set_cons_zero, List.set_cons_succ]
              exact hK'
          iterate 1
            apply Flow.calm2 _ _ rfl rfl
            · intro w' hb' K' hK'
              obtain ⟨hc', hf'⟩ := hb'.rule
              go_simp
              try go_ints
              exact hK'
            · intro K' hK'
              simp only [Act.put, List.setIfInBounds_toArray, List.set_cons_zero, List.set_cons_succ]
              exact hK'
          iterate 2
            apply Flow.mv _ rfl
            · intro K' hK'
              simp only [Act.put, Act.eval, List.setIfInBounds_toArray, List.set_cons_zero, List.set_cons_succ, arr_getD, List.getD_cons_zero, List.getD_cons_succ]
              exact hK'
          iterate 1
            apply Flow.calm2 _ _ rfl rfl
            · intro w' hb' K' hK'
              obtain ⟨hc', hf'⟩ := hb'.rule
              go_simp
              try go_ints
              exact hK'
            · intro K' hK'
              simp only [Act.put, List.setIfInBounds_toArray, List.set_cons_zero, List.set_cons_succ]
              exact hK'
          iterate 1
            apply Flow.calm2 _ _ rfl rfl
            · intro w' hb' K' hK'
              obtain ⟨hc', hf'⟩ := hb'.rule
              go_simp
              try go_ints
              exact hK'
            · intro K' hK'
              simp only [Act.put, List.setIfInBounds_toArray, List.set_cons_zero, List.set_cons_succ]
              exact hK'
          iterate 1
            apply Flow.calm2 _ _ rfl rfl
            · intro w' hb' K' hK'
              obtain ⟨hc', hf'⟩ := hb'.rule
              go_simp
              try go_ints
              exact hK'
            · intro K' hK'
              simp only [Act.put, List.setIfInBounds_toArray, List.set_cons_zero, List.set_cons_succ]
              exact hK'
          refine Flow.done ?_
          go_wp2
          exact ⟨⟨k + 1, hlt, by go_num, hzz, hbr.drew⟩, by simp [intOf]; omega⟩
        · have hb : (xs[k] != ys[k]) = true := by simp [h0]
          have hf : ¬ xs = ys := fun e => h0 (by subst e; rfl)
          have H0 := Lib.hid hf; clear h0 hf
          go_wp2
          refine wp_region_flow [(true, 0), (true, 1), (true, 2), (true, 3), (true, 4), (true, 5), (true, 6), (true, 7), (true, 8)] (fun _ => false) (by kernel_rfl) (by kernel_rfl) (by kernel_rfl) (by kernel_rfl) ?_
          iterate 2
            apply Flow.mv _ rfl
            · intro K' hK'
              simp only [Act.put, Act.eval, List.setIfInBounds_toArray, List.set_cons_zero, List.set_cons_succ, arr_getD, List.getD_cons_zero, List.getD_cons_succ]
              exact hK'
          iterate 1
            apply Flow.calm2 _ _ rfl rfl
            · intro w' hb' K' hK'
              obtain ⟨hc', hf'⟩ := hb'.rule
              go_simp
              try go_ints
              exact hK'
            · intro K' hK'
              simp only [Act.put, List.setIfInBounds_toArray, List.set_cons_zero, List.set_cons_succ]
              exact hK'
          iterate 1
            apply Flow.calm2 _ _ rfl rfl
            · intro w' hb' K' hK'
              obtain ⟨hc', hf'⟩ := hb'.rule
              go_simp
              try go_ints
              exact hK'
            · intro K' hK'
              simp only [Act.put, List.setIfInBounds_toArray, List.set_cons_zero, List.set_cons_succ]
              exact hK'
          iterate 2
            apply Flow.mv _ rfl
            · intro K' hK'
              simp only [Act.put, Act.eval, List.setIfInBounds_toArray, List.set_cons_zero, List.set_cons_succ, arr_getD, List.getD_cons_zero, List.getD_cons_succ]
              exact hK'
          iterate 1
            apply Flow.calm2 _ _ rfl rfl
            · intro w' hb' K' hK'
              obtain ⟨hc', hf'⟩ := hb'.rule
              go_simp
              try go_ints
              exact hK'
            · intro K' hK'
              simp only [Act.put, List.setIfInBounds_toArray, List.set_cons_zero, List.set_cons_succ]
              exact hK'
          iterate 1
            apply Flow.calm2 _ _ rfl rfl
            · intro w' hb' K' hK'
              obtain ⟨hc', hf'⟩ := hb'.rule
              go_simp
              try go_ints
              exact hK'
            · intro K' hK'
              simp only [Act.put, List.setIfInBounds_toArray, List.set_cons_zero, List.set_cons_succ]
              exact hK'
          iterate 1
            apply Flow.calm2 _ _ rfl rfl
            · intro w' hb' K' hK'
              obtain ⟨hc', hf'⟩ := hb'.rule
              go_simp
              try go_ints
              exact hK'
            · intro K' hK'
              simp only [Act.put, List.setIfInBounds_toArray, List.set_cons_zero, List.set_cons_succ]
              exact hK'
          refine Flow.done ?_
          go_wp2
          go_ret
          exact ⟨ret_bool (by simp [H0.out]), hbr.drew⟩
      · have hf : xs = ys := eq_of_takes xs ys Hlen.out (fun j hj => hz.out j (by omega))
        have Hf := Lib.hid hf; clear hf
        have Hx := Lib.hid hx; have Hy := Lib.hid hy
        clear hx hy
        go_wp2
        go_ret
        exact ⟨ret_bool (by simp [Hf.out]), hbr⟩
  · have hne : ((xs.length : Int) != (ys.length : Int)) = true := by simp; omega
    have hne2 : (xs.length != ys.length) = true := by simp; omega
    have hf : ¬ xs = ys := fun e => hlen (by subst e; rfl)
    have Hf := Lib.hid hf
    clear hlen hx hy hf
    go_enter Tryd.func39, Tryd.ntmps39
    go_wp2
    go_ret
    exact ⟨ret_bool (by simp [Hf.out]), Bl.refl _⟩

/-! ### blank pages -/
set_option maxRecDepth 100000 in
set_option maxHeartbeats 400000 in
theorem blank_ok (W H : Nat) (w : World) (hs : sizeErr W H = 0) :
    Calls Tryd.prog 108 #[.int .i64 W, .int .i64 H] w fun e w' =>
      ∃ g, e = .returned (.tuple #[.agg #[.int .i64 W, .int .i64 H, .slice (some ⟨g, 0, none⟩) (W * H) (W * H)], .int .i64 0]) ∧ Blk w' g 4 (Array.replicate (W * H) (.bool false)) ∧ Bl w w' := by
  have hz' := sizeErr_zero hs
  have hWH : (W : Int) * (H : Int) = ((W * H : Nat) : Int) := by simp
  have h1 : (0:Int) ≤ (W:Int) * (H:Int) := by omega
  have h2 : (W:Int) * (H:Int) ≤ 1048576 := by omega
  have hN : W * H ≤ 1048576 := by omega
  have hmk := run_make_row' (P := Tryd.prog) 25 4 (.bool false) 1 Tryd.underlying25 info_bool rfl .i64 .i64 (W * H) (by omega) (by omega)
  rw [← hWH] at hmk
  have hq : (sizeErr W H != 0) = false := by simp [hs]
  have HS := Lib.hid hs; have HWH := Lib.hid hWH
  clear hs hWH
  go_enter Tryd.func108, Tryd.ntmps108
  go_wp2_with (go_at_call 103; refine (checkSize_any _ _ _).mono ?_; rintro e w1 ⟨rfl, rfl⟩)
  have hm : madeCells #[.bool false] (W * H) = Array.replicate (W * H) (.bool false) := by
    apply Array.ext_getElem?
    intro i
    rcases Nat.lt_or_ge i (W * H) with h | h
    · simp [madeCells, h, Nat.mod_one]
    · rw [Array.getElem?_eq_none (by rw [size_madeCells]; exact h), Array.getElem?_eq_none (by simpa using h)]
  rw [hm]
  refine bodyPost_ret (v := .tuple #[.agg #[.int .i64 W, .int .i64 H, .slice (some ⟨w.heap.size + 1, 0, none⟩) (W * H) (W * H)], .int .i64 0]) (by simp [results, Tryd.results108, go_sem]) rfl ⟨_, rfl, ?_, ?_⟩
  · have hb := Blk.new (w.alloc (.cells #[.int .i64 W, .int .i64 H, .slice (some ⟨w.heap.size + 1, 0, none⟩) (W * H) (W * H)] 27)) 4 (Array.replicate (W * H) (.bool false))
    simpa using hb
  · repeat' (first | exact Bl.refl _ | refine Bl.drew ?_ | refine Bl.setCell ?_ (by simp) _ | refine Bl.alloc ?_ _)

set_option maxRecDepth 100000 in
set_option maxHeartbeats 400000 in
theorem blank_bad (W H : Int) (w : World) (hs : sizeErr W H ≠ 0) :
    Calls Tryd.prog 108 #[.int .i64 W, .int .i64 H] w fun e w' =>
      e = .returned (.tuple #[.agg #[.int .i64 0, .int .i64 0, .slice none 0 0], .int .i64 (sizeErr W H)]) ∧ Bl w w' := by
  have hq : (sizeErr W H != 0) = true := by simp [hs]
  clear hs
  go_enter Tryd.func108, Tryd.ntmps108
  go_wp2_with (go_at_call 103; refine (checkSize_any _ _ _).mono ?_; rintro e w1 ⟨rfl, rfl⟩)
  refine bodyPost_ret (v := .tuple #[.agg #[.int .i64 0, .int .i64 0, .slice none 0 0], .int .i64 (sizeErr W H)]) (by simp [results, Tryd.results108, go_sem]) rfl ⟨rfl, ?_⟩
  repeat' (first | exact Bl.refl _ | refine Bl.drew ?_ | refine Bl.setCell ?_ (by simp) _ | refine Bl.alloc ?_ _)

end Go.Proofs.YtjelhdpcaileiaaDoor
