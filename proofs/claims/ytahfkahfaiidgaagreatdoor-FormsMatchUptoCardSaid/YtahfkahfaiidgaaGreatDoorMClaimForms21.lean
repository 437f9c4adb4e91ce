/- forms.find. -/
import Derived.Test.YtahfkahfaiidgaaGreatDoorMClaimForms19
import Derived.Test.YtahfkahfaiidgaaGreatDoorMClaimForms5
import Derived.Test.YtahfkahfaiidgaaGreatDoorMClaimForms2

namespace Go.Proofs.YtahfkahfaiidgaaGreatDoor
open Go.RowKit

set_option maxHeartbeats 400000 in
theorem fsize_any (x : Int) (w : World) (hx : -1000000 ≤ x ∧ x ≤ 1000000) : Calls Tryz.prog 127 #[.int .i64 x] w fun e w' => e = .returned (.int .i64 x.natAbs) ∧ w = w' := by
  have hm : max x (-x) = (x.natAbs : Int) := by rw [Int.max_def]; split <;> omega
  have Hm := Lib.hid hm
  clear hm
  go_enter Tryz.func127, Tryz.ntmps127
  go_wp2
  go_ret
  exact ⟨by rw [← Hm.out]; rfl, rfl⟩
theorem grid_getD {w h i : Nat} (f : Nat → Nat → Bool) (hi : i < w * h) : (grid w h f).getD i false = f (i % w) (i / w) := by
  rw [List.getD, grid_at w h f i hi]; rfl
/-- One pixel more. -/
theorem cntD_cut (bs cs : List Bool) (W w h X Y i : Nat) (hi : i < w * h) : cntD bs (grid w h (cutF cs W X Y)) w h 0 0 (i + 1) = cntD bs (grid w h (cutF cs W X Y)) w h 0 0 i + (if (bs.getD i false != pix cs W (X + i % w) (Y + i / w)) = true then 1 else 0) := by
  have e := differs0 bs (grid w h (cutF cs W X Y)) w h i hi
  rw [grid_getD _ hi] at e
  show cntD bs (grid w h (cutF cs W X Y)) w h 0 0 i + (if differs bs (grid w h (cutF cs W X Y)) w h 0 0 i then 1 else 0) = _
  rw [e]
  rfl
/-- One place more, skipped. -/
theorem findF_skip {ok : Nat → Bool} {num : Nat → Nat} {r m : Nat} (h : ok m = false) : findF ok num r (m + 1) = findF ok num r m := by
  show stepO ok num r m (findF ok num r m) = _
  unfold stepO
  rw [if_neg (fun k => by rw [h] at k; exact absurd k.1 (by decide))]
theorem findF_take {ok : Nat → Bool} {num : Nat → Nat} {r m : Nat} {x y n : Int} (hs : findF ok num r m = (x, y, n)) (h : ok m = true) (hc : n < 0 ∨ (num m : Int) < n ∨ ((num m : Int) = n ∧ (farOf r m : Int) < x.natAbs + y.natAbs)) : findF ok num r (m + 1) = (dxOf r m, dyOf r m, (num m : Int)) := by
  show stepO ok num r m (findF ok num r m) = _
  unfold stepO
  rw [hs, if_pos ⟨h, hc⟩]
theorem findF_keep {ok : Nat → Bool} {num : Nat → Nat} {r m : Nat} {x y n : Int} (hs : findF ok num r m = (x, y, n)) (hc : ¬ (n < 0 ∨ (num m : Int) < n ∨ ((num m : Int) = n ∧ (farOf r m : Int) < x.natAbs + y.natAbs))) : findF ok num r (m + 1) = (x, y, n) := by
  show stepO ok num r m (findF ok num r m) = _
  unfold stepO
  rw [hs, if_neg (fun k => hc k.2)]

set_option maxRecDepth 100000 in
set_option maxHeartbeats 8000000 in
theorem find_any (f : Frm) (a : Anc) (C : Option Addr) (cc : Nat) (cs : List Bool) (W H BW BH r : Nat) (w : World) (hfW : f.W = (W : Int)) (hfH : f.H = (H : Int)) (hfr : f.reach = (r : Int)) (haW : a.W = (BW : Int)) (haH : a.H = (BH : Int)) (ham : a.m = BW * BH) (hr : r ≤ 40)
    (hW : 1 ≤ W ∧ W ≤ 4000) (hH : 1 ≤ H ∧ H ≤ 4000) (hWH : W * H ≤ 1048576) (hin : a.box.inP f.W f.H = true) (hA : Reads w 1 a.A a.m (a.bs.map .bool)) (hC : Reads w 1 C (W * H) (cs.map .bool)) :
    Calls Tryz.prog 93 #[f.val, a.val, .agg #[.int .i64 W, .int .i64 H, .slice C (W * H) cc]] w
      fun e w' => e = .returned (.agg #[.int .i64 (foundA f cs a).1, .int .i64 (foundA f cs a).2.1, .int .i64 (foundA f cs a).2.2]) ∧ Bl w w' := by
  obtain ⟨nm, fW, fH, reach, dark, AL, ac, la, FL, fc, lf, RL, rc, lr⟩ := f
  obtain ⟨aW, aH, A, am, aC, bs, X, Y⟩ := a
  simp only at hfW hfH hfr haW haH ham hin hA
  subst hfW hfH hfr haW haH ham
  obtain ⟨ok, hok⟩ : ∃ o, o = okA ⟨BW, BH, A, BW * BH, aC, bs, X, Y⟩ W H r := ⟨_, rfl⟩
  obtain ⟨num, hnum⟩ : ∃ o, o = numA ⟨BW, BH, A, BW * BH, aC, bs, X, Y⟩ cs W r := ⟨_, rfl⟩
  obtain ⟨FD, hFD⟩ : ∃ o, o = findF ok num r := ⟨_, rfl⟩
  have hfnd : foundA ⟨nm, W, H, r, dark, AL, ac, la, FL, fc, lf, RL, rc, lr⟩ cs ⟨BW, BH, A, BW * BH, aC, bs, X, Y⟩ = FD ((2 * r + 1) * (2 * r + 1)) := by
    rw [hFD, hok, hnum]; rfl
  rw [hfnd]
  have hin2 := of_decide_eq_true (show decide (0 ≤ X ∧ X < (W : Int) ∧ 0 ≤ Y ∧ Y < (H : Int) ∧ 1 ≤ (BW : Int) ∧ (BW : Int) ≤ (W : Int) - X ∧ 1 ≤ (BH : Int) ∧ (BH : Int) ≤ (H : Int) - Y) = true from hin)
  have HOk := Lib.hid hok; have HNum := Lib.hid hnum; have HFD := Lib.hid hFD; have HA := Lib.hid hA; have HC := Lib.hid hC
  have ub : W ≤ 4000 ∧ H ≤ 4000 ∧ 1 ≤ W ∧ 1 ≤ H ∧ BW ≤ 4000 ∧ BH ≤ 4000 ∧ 1 ≤ BW ∧ 1 ≤ BH := by omega
  have hpos : 0 < BW * BH := Nat.mul_pos (by omega) (by omega)
  have hmB : BW * BH ≤ 16000000 := by have := Nat.mul_le_mul (show BW ≤ 4000 by omega) (show BH ≤ 4000 by omega); omega
  have ubX : 0 ≤ X ∧ X ≤ 4000 ∧ 0 ≤ Y ∧ Y ≤ 4000 := by omega
  let w3 := (((w).alloc (.cells #[.string ⟨nm.toArray⟩, .int .i64 W, .int .i64 H, .int .i64 r, .int .i64 dark, .slice AL la.length ac, .slice FL lf.length fc, .slice RL lr.length rc] 26)).alloc (.cells #[.int .i64 BW, .int .i64 BH, .slice A (BW * BH) aC, .int .i64 X, .int .i64 Y] 60)).alloc (.cells #[.int .i64 W, .int .i64 H, .slice C (W * H) cc] 42)
  have w3b : Bl w w3 := (((Bl.refl w).alloc _).alloc _).alloc _
  have w31 : Blk w3 (w.heap.size) 26 #[.string ⟨nm.toArray⟩, .int .i64 W, .int .i64 H, .int .i64 r, .int .i64 dark, .slice AL la.length ac, .slice FL lf.length fc, .slice RL lr.length rc] := by
    have h0 := Blk.new (w) 26 #[.string ⟨nm.toArray⟩, .int .i64 W, .int .i64 H, .int .i64 r, .int .i64 dark, .slice AL la.length ac, .slice FL lf.length fc, .slice RL lr.length rc]
    exact ((h0.alloc _).alloc _)
  have w32 : Blk w3 (w.heap.size + 1) 60 #[.int .i64 BW, .int .i64 BH, .slice A (BW * BH) aC, .int .i64 X, .int .i64 Y] := by
    have h0 := Blk.new ((w).alloc (.cells #[.string ⟨nm.toArray⟩, .int .i64 W, .int .i64 H, .int .i64 r, .int .i64 dark, .slice AL la.length ac, .slice FL lf.length fc, .slice RL lr.length rc] 26)) 60 #[.int .i64 BW, .int .i64 BH, .slice A (BW * BH) aC, .int .i64 X, .int .i64 Y]
    simp only [World.size_alloc] at h0
    exact (h0.alloc _)
  have w33 : Blk w3 (w.heap.size + 1 + 1) 42 #[.int .i64 W, .int .i64 H, .slice C (W * H) cc] := by
    have h0 := Blk.new (((w).alloc (.cells #[.string ⟨nm.toArray⟩, .int .i64 W, .int .i64 H, .int .i64 r, .int .i64 dark, .slice AL la.length ac, .slice FL lf.length fc, .slice RL lr.length rc] 26)).alloc (.cells #[.int .i64 BW, .int .i64 BH, .slice A (BW * BH) aC, .int .i64 X, .int .i64 Y] 60)) 42 #[.int .i64 W, .int .i64 H, .slice C (W * H) cc]
    simp only [World.size_alloc] at h0
    exact h0
  have hbx := fun wx => anchorBox_any ⟨BW, BH, A, BW * BH, aC, bs, X, Y⟩ wx
  have hip := fun (x y : Int) wx => inPage_any x y BW BH W H wx hW hH
  unfold Anc.val Anc.box Bx.val at hbx
  have Hbx := Lib.hid hbx; have Hip := Lib.hid hip
  have k1 := w31.all8
  have k2 := w32.all5
  have k3 := w33.all3
  have lw3 : w3.heap.size = w.heap.size + 3 := by simp [w3]
  have B1 := Lib.hid w31; have B2 := Lib.hid w32; have B3 := Lib.hid w33; have W3b := Lib.hid w3b
  have FD0 := Lib.hid (show FD 0 = (0, 0, -1) by rw [hFD]; rfl)
  unfold Frm.val Anc.val
  clear hok hnum hFD hA hC hbx hip hfnd hin hin2 w31 w32 w33 w3b
  go_enter Tryz.func93, Tryz.ntmps93
  go_upto_region 2 with fail
  obtain ⟨w4, hw4⟩ : ∃ y, y = w3.alloc (.cells #[.int .i64 0, .int .i64 0, .int .i64 (-1)] 62) := ⟨_, rfl⟩
  change Code.wp _ _ _ _ (w3.alloc (.cells #[.int .i64 0, .int .i64 0, .int .i64 (-1)] 62))
  have e3 : w3.heap.size = w.heap.size + 1 + 1 + 1 := by simp [w3]
  rw [← hw4]
  obtain ⟨g, hg⟩ : ∃ g, g = w.heap.size + 1 + 1 + 1 := ⟨_, rfl⟩
  have hg3 : w3.heap.size ≤ g := by omega
  have b4 : Blk w4 g 62 #[.int .i64 0, .int .i64 0, .int .i64 (-1)] := by rw [hw4, hg, ← e3]; exact Blk.new w3 _ _
  have hb4 : Bl w3 w4 := by rw [hw4]; exact (Bl.refl _).alloc _
  rw [← hg]
  have B4 := Lib.hid b4; have Hb4 := Lib.hid hb4; have Hg3 := Lib.hid hg3
  have k1 := (B1.out.bl hb4).all8
  clear_value w3
  clear hw4 e3 hg b4 hb4 lw3 k2 k3 hg3
  go_wp2_with fail
  go_loopw [7] (fun u wr => ∃ (v : Nat) (x y n : Int), v ≤ 2 * r + 1 ∧ u = .int .i64 ((v : Int) - r) ∧ Hid (FD (v * (2 * r + 1)) = (x, y, n)) ∧ Hid (Blk wr g 62 #[.int .i64 x, .int .i64 y, .int .i64 n]) ∧ Bl w3 wr) (fun u _ => (r + 1 - intOf u).toNat)
  case atStart => exact ⟨0, 0, 0, -1, Nat.zero_le _, by simp, by rw [Nat.zero_mul]; exact FD0, B4, Hb4.out⟩
  case round =>
    clear k1
    obtain ⟨v, x0, y0, n0, hv, rfl, hst, hF, hbr⟩ := hrel
    have k1 := (B1.out.bl hbr).all8
    by_cases hlt : v < 2 * r + 1
    · have d1 : decide ((v : Int) - (r : Int) ≤ (r : Int)) = true := by simp; omega
      go_wp2_with fail
      go_loopw [8] (fun u wy => ∃ (x : Nat) (xx yy nn : Int), x ≤ 2 * r + 1 ∧ u = .int .i64 ((x : Int) - r) ∧ Hid (FD (v * (2 * r + 1) + x) = (xx, yy, nn)) ∧ Hid (Blk wy g 62 #[.int .i64 xx, .int .i64 yy, .int .i64 nn]) ∧ Bl w3 wy) (fun u _ => (r + 1 - intOf u).toNat)
      case atStart => exact ⟨0, x0, y0, n0, Nat.zero_le _, by simp, hst, hF, hbr⟩
      case round =>
        clear hst hbr hF k1
        rename World => wq
        obtain ⟨x, X0, Y0, N0, hx, rfl, hst, hF, hbr⟩ := hrel
        have k1 := (B1.out.bl hbr).all8
        by_cases hlt2 : x < 2 * r + 1
        · have d2 : decide ((x : Int) - (r : Int) ≤ (r : Int)) = true := by simp; omega
          have k2 := (B2.out.bl hbr).all5
          obtain ⟨P, hP⟩ : ∃ P : Int, P = X + ((x : Int) - (r : Int)) := ⟨_, rfl⟩
          obtain ⟨Q, hQ⟩ : ∃ Q : Int, Q = Y + ((v : Int) - (r : Int)) := ⟨_, rfl⟩
          obtain ⟨m, hm⟩ : ∃ m, m = v * (2 * r + 1) + x := ⟨_, rfl⟩
          have edx := dxOf_at r v x hlt2
          have edy := dyOf_at r v x hlt2
          have hokm : ok m = inPageB P Q BW BH W H := by rw [HOk.out, hm]; unfold okA; rw [edx, edy, hP, hQ]
          have bP : -5000 ≤ P ∧ P ≤ 5000 := by omega
          have bQ : -5000 ≤ Q ∧ Q ≤ 5000 := by omega
          have eP := hP.symm
          have eQ := hQ.symm
          rw [← hm] at hst edx edy
          have Hokm := Lib.hid hokm; have Hm := Lib.hid hm; have HP := Lib.hid hP; have HQ := Lib.hid hQ; have Hbr := Lib.hid hbr; have Edx := Lib.hid edx; have Edy := Lib.hid edy
          clear hokm hm hP hQ edx edy hbr
          go_wp2_with fail
          refine (Hbx.out _).mono ?_
          rintro e w5 ⟨rfl, hb5⟩
          have k1 := (B1.out.bl (Hbr.out.trans hb5)).all8
          go_upto_region 10 with fail
          obtain ⟨w6, hw6⟩ : ∃ y, y = w5.alloc (.cells #[.int .i64 P, .int .i64 Q, .int .i64 BW, .int .i64 BH] 79) := ⟨_, rfl⟩
          have b6 : Blk w6 w5.heap.size 79 #[.int .i64 P, .int .i64 Q, .int .i64 BW, .int .i64 BH] := by rw [hw6]; exact Blk.new _ _ _
          have hb56 : Bl w5 w6 := by rw [hw6]; exact (Bl.refl _).alloc _
          rw [← hw6]
          have Hb6 := Lib.hid (Hbr.out.trans (hb5.trans hb56))
          have F6 := Lib.hid (hF.out.bl (hb5.trans hb56)); have B6 := Lib.hid b6
          have k1 := (B1.out.bl Hb6.out).all8
          have k4 := b6.all4
          clear hw6 b6 hb56 hb5 hF k2
          go_wp2_with fail
          refine (Hip.out P Q _).mono ?_
          rintro e w7 ⟨rfl, hb7⟩
          have F7 := Lib.hid (F6.out.bl hb7); have B7 := Lib.hid (B6.out.bl hb7); have Hb7 := Lib.hid (Hb6.out.trans hb7)
          have k1 := (B1.out.bl Hb7.out).all8
          clear k4 hb7
          cases hpg : inPageB P Q BW BH W H with
          | false =>
            have HX := Lib.hid (show FD (m + 1) = (X0, Y0, N0) by rw [HFD.out, findF_skip (by rw [Hokm.out, hpg]), ← HFD.out]; exact hst.out)
            clear hpg
            go_wp2_with fail
            exact ⟨⟨x + 1, X0, Y0, N0, hlt2, by go_num, by rw [show v * (2 * r + 1) + (x + 1) = m + 1 by rw [Hm.out]; omega]; exact HX, F7, Hb7.out⟩, by simp [intOf]; omega⟩
          | true =>
            have Hok1 := Lib.hid (Hokm.out.trans hpg)
            have hin2 := of_decide_eq_true (show decide (0 ≤ P ∧ P < (W : Int) ∧ 0 ≤ Q ∧ Q < (H : Int) ∧ 1 ≤ (BW : Int) ∧ (BW : Int) ≤ (W : Int) - P ∧ 1 ≤ (BH : Int) ∧ (BH : Int) ≤ (H : Int) - Q) = true from hpg)
            obtain ⟨PX, rfl⟩ := Int.eq_ofNat_of_zero_le hin2.1
            obtain ⟨PY, rfl⟩ := Int.eq_ofNat_of_zero_le hin2.2.2.1
            have hx1 : PX + BW ≤ W := by omega
            have hy1 : PY + BH ≤ H := by omega
            have Hnm := Lib.hid (show num m = cntD bs (grid BW BH (cutF cs W PX PY)) BW BH 0 0 (BW * BH) by
              rw [HNum.out]
              unfold numA
              simp only [Int.toNat_natCast]
              rw [Edx.out, Edy.out, ← HP.out, ← HQ.out, Int.toNat_natCast, Int.toNat_natCast])
            obtain ⟨gr, hgr⟩ : ∃ l, l = grid BW BH (cutF cs W PX PY) := ⟨_, rfl⟩
            have hcut := fun i (hi : i < BW * BH) => cntD_cut bs cs W BW BH PX PY i hi
            rw [← hgr] at Hnm hcut
            have Hcut := Lib.hid hcut
            have k2 := (B2.out.bl Hb7.out).all5
            clear hpg hin2 hgr hcut bP bQ
            go_wp2_with fail
            go_loopw [10, 55] (fun n u wy => ∃ i : Nat, i ≤ BW * BH ∧ u = .int .i64 i ∧ n = .int .i64 (cntD bs gr BW BH 0 0 i) ∧ Bl w7 wy) (fun _ u _ => BW * BH - (intOf u).toNat)
            case atStart => exact ⟨0, Nat.zero_le _, rfl, rfl, Bl.refl _⟩
            case round =>
              clear k1 k2
              rename World => wy
              obtain ⟨i, hi, rfl, rfl, hby⟩ := hrel
              by_cases hlt3 : i < BW * BH
              · have hWp : ¬ (BW = 0) := by rintro rfl; simp at hpos
                have k3 := (B3.out.bl (Hb7.out.trans hby)).all3
                have k4 := (B7.out.bl hby).all4
                have mlt : i % BW < BW := Nat.mod_lt _ (by omega)
                have dlt : i / BW < BH := Nat.div_lt_of_lt_mul hlt3
                obtain ⟨ad, ua, eA, hu, hca⟩ := ((HA.out.bl W3b.out).bl (Hb7.out.trans hby)).at_ hlt3
                have hua : ua = .bool (bs.getD i false) := by
                  simp only [List.getElem?_map, Option.map_eq_some_iff] at hu
                  obtain ⟨b, hb1, hb2⟩ := hu
                  rw [← hb2, List.getD, hb1]; rfl
                clear hu
                subst hua eA
                have hst1 := Hcut.out i hlt3
                obtain ⟨xi, hxi⟩ : ∃ n, n = i % BW := ⟨_, rfl⟩
                obtain ⟨yi, hyi⟩ : ∃ n, n = i / BW := ⟨_, rfl⟩
                rw [← hxi, ← hyi] at hst1
                rw [← hxi] at mlt
                rw [← hyi] at dlt
                have f1 : (i : Int) % (BW : Int) = (xi : Int) := by rw [hxi]; simp
                have f2 : (i : Int) / (BW : Int) = (yi : Int) := by rw [hyi]; simp
                obtain ⟨cd, eC, hcc⟩ := ((HC.out.bl W3b.out).bl (Hb7.out.trans hby)).place (show PX + xi < W by omega) (show PY + yi < H by omega)
                subst eC
                have hk := place_lt (show PX + xi < W by omega) (show PY + yi < H by omega)
                obtain ⟨k, hkk⟩ : ∃ k, k = (PY + yi) * W + (PX + xi) := ⟨_, rfl⟩
                rw [← hkk] at hcc hk
                obtain ⟨T1, hT1⟩ : ∃ t, t = (PY + yi) * W := ⟨_, rfl⟩
                have f3 : ((PY : Int) + (yi : Int)) * (W : Int) = (T1 : Int) := by rw [hT1]; simp
                have f4 : (T1 : Int) + (PX : Int) + (xi : Int) = (k : Int) := by rw [hkk, ← hT1]; simp; omega
                have f5 : T1 ≤ 16000000 := by rw [hT1]; have := Nat.mul_le_mul (show PY + yi ≤ 4000 by omega) (show W ≤ 4000 by omega); omega
                have f6 : (k : Int) < (W : Int) * (H : Int) := by have := Int.natCast_mul W H; omega
                have hcl := cntD_le bs gr BW BH 0 0 i
                obtain ⟨n, hn⟩ : ∃ n, n = cntD bs gr BW BH 0 0 i := ⟨_, rfl⟩
                obtain ⟨va, hva⟩ : ∃ v, v = bs.getD i false := ⟨_, rfl⟩
                obtain ⟨vb, hvb⟩ : ∃ v, v = pix cs W (PX + xi) (PY + yi) := ⟨_, rfl⟩
                rw [← hn] at hst1 hcl ⊢
                rw [← hva] at hst1 hca
                rw [← hvb] at hst1 hcc
                have Hst1 := Lib.hid hst1; have Hby := Lib.hid hby
                have k2 := (B2.out.bl (Hb7.out.trans hby)).all5
                clear hxi hyi hkk hT1 hn hva hvb hst1 hby
                go_upto_region 15 with fail
                refine wp_region_flow [(true, 0), (true, 1), (true, 2), (true, 3), (true, 4), (true, 5), (true, 6), (true, 7), (true, 8), (true, 9), (true, 10), (true, 11), (true, 12), (true, 13), (true, 14), (true, 15), (true, 16), (true, 17), (true, 18), (true, 19), (true, 20), (true, 21), (true, 22), (true, 23)] (fun _ => false) (by kernel_rfl) (by kernel_rfl) (by kernel_rfl) (by kernel_rfl) ?_
                iterate 1
                  apply Flow.mv _ rfl
                  · intro K' hK'
                    simp only [Act.put, Act.eval, List.setIfInBounds_toArray, List.set_cons_zero, List.set_cons_succ, arr_getD, List.getD_cons_zero, List.getD_cons_succ]
                    exact hK'
                iterate 1
                  apply Flow.calm2 _ _ rfl rfl
                  · intro w' hb' K' hK'
                    obtain ⟨hc', hf'⟩ := hb'.rule
                    go_simp
                    try go_ints
                    exact hK'
                  · intro K' hK'
                    simp only [Act.put, List.setIfInBounds_toArray, List.set_cons_zero, List.set_cons_succ]
                    exact hK'
                iterate 1
                  apply Flow.calm2 _ _ rfl rfl
                  · intro w' hb' K' hK'
                    obtain ⟨hc', hf'⟩ := hb'.rule
                    go_simp
                    try go_ints
                    exact hK'
                  · intro K' hK'
                    simp only [Act.put, List.setIfInBounds_toArray, List.set_cons_zero, List.set_cons_succ]
                    exact hK'
                iterate 1
                  apply Flow.calm2 _ _ rfl rfl
                  · intro w' hb' K' hK'
                    obtain ⟨hc', hf'⟩ := hb'.rule
                    go_simp
                    try go_ints
                    exact hK'
                  · intro K' hK'
                    simp only [Act.put, List.setIfInBounds_toArray, List.set_cons_zero, List.set_cons_succ]
                    exact hK'
                iterate 1
                  apply Flow.calm2 _ _ rfl rfl
                  · intro w' hb' K' hK'
                    obtain ⟨hc', hf'⟩ := hb'.rule
                    go_simp
                    try go_ints
                    exact hK'
                  · intro K' hK'
                    simp only [Act.put, List.setIfInBounds_toArray, List.set_cons_zero, List.set_cons_succ]
                    exact hK'
                iterate 1
                  apply Flow.mv _ rfl
                  · intro K' hK'
                    simp only [Act.put, Act.eval, List.setIfInBounds_toArray, List.set_cons_zero, List.set_cons_succ, arr_getD, List.getD_cons_zero, List.getD_cons_succ]
                    exact hK'
                iterate 1
                  apply Flow.calm2 _ _ rfl rfl
                  · intro w' hb' K' hK'
                    obtain ⟨hc', hf'⟩ := hb'.rule
                    go_simp
                    try go_ints
                    exact hK'
                  · intro K' hK'
                    simp only [Act.put, List.setIfInBounds_toArray, List.set_cons_zero, List.set_cons_succ]
                    exact hK'
                iterate 1
                  apply Flow.calm2 _ _ rfl rfl
                  · intro w' hb' K' hK'
                    obtain ⟨hc', hf'⟩ := hb'.rule
                    go_simp
                    try go_ints
                    exact hK'
                  · intro K' hK'
                    simp only [Act.put, List.setIfInBounds_toArray, List.set_cons_zero, List.set_cons_succ]
                    exact hK'
                iterate 2
                  apply Flow.calm2 _ _ rfl rfl
                  · intro w' hb' K' hK'
                    obtain ⟨hc', hf'⟩ := hb'.rule
                    go_simp
                    try go_ints
                    exact hK'
                  · intro K' hK'
                    simp only [Act.put, List.setIfInBounds_toArray, List.set_cons_zero, List.set_cons_succ]
                    exact hK'
                iterate 1
                  apply Flow.calm2 _ _ rfl rfl
                  · intro w' hb' K' hK'
                    obtain ⟨hc', hf'⟩ := hb'.rule
                    go_simp
                    try go_ints
                    exact hK'
                  · intro K' hK'
                    simp only [Act.put, List.setIfInBounds_toArray, List.set_cons_zero, List.set_cons_succ]
                    exact hK'
                iterate 1
                  apply Flow.calm2 _ _ rfl rfl
                  · intro w' hb' K' hK'
                    obtain ⟨hc', hf'⟩ := hb'.rule
                    go_simp
                    try go_ints
                    exact hK'
                  · intro K' hK'
                    simp only [Act.put, List.setIfInBounds_toArray, List.set_cons_zero, List.set_cons_succ]
                    exact hK'
                iterate 1
                  apply Flow.calm2 _ _ rfl rfl
                  · intro w' hb' K' hK'
                    obtain ⟨hc', hf'⟩ := hb'.rule
                    go_simp
                    try go_ints
                    exact hK'
                  · intro K' hK'
                    simp only [Act.put, List.setIfInBounds_toArray, List.set_cons_zero, List.set_cons_succ]
                    exact hK'
                iterate 1
                  apply Flow.calm2 _ _ rfl rfl
                  · intro w' hb' K' hK'
                    obtain ⟨hc', hf'⟩ := hb'.rule
                    go_simp
                    try go_ints
                    exact hK'
                  · intro K' hK'
                    simp only [Act.put, List.setIfInBounds_toArray, List.set_cons_zero, List.set_cons_succ]
                    exact hK'
                iterate 1
                  apply Flow.calm2 _ _ rfl rfl
                  · intro w' hb' K' hK'
                    obtain ⟨hc', hf'⟩ := hb'.rule
                    go_simp
                    try go_ints
                    exact hK'
                  · intro K' hK'
                    simp only [Act.put, List.setIfInBounds_toArray, List.set_cons_zero, List.set_cons_succ]
                    exact hK'
                iterate 1
                  apply Flow.calm2 _ _ rfl rfl
                  · intro w' hb' K' hK'
                    obtain ⟨hc', hf'⟩ := hb'.rule
                    go_simp
                    try go_ints
                    exact hK'
                  · intro K' hK'
                    simp only [Act.put, List.setIfInBounds_toArray, List.set_cons_zero, List.set_cons_succ]
                    exact hK'
                iterate 1
                  apply Flow.mv _ rfl
                  · intro K' hK'
                    simp only [Act.put, Act.eval, List.setIfInBounds_toArray, List.set_cons_zero, List.set_cons_succ, arr_getD, List.getD_cons_zero, List.getD_cons_succ]
                    exact hK'
                iterate 1
                  apply Flow.calm2 _ _ rfl rfl
                  · intro w' hb' K' hK'
                    obtain ⟨hc', hf'⟩ := hb'.rule
                    go_simp
                    try go_ints
                    exact hK'
                  · intro K' hK'
                    simp only [Act.put, List.setIfInBounds_toArray, List.set_cons_zero, List.set_cons_succ]
                    exact hK'
                iterate 1
                  apply Flow.calm2 _ _ rfl rfl
                  · intro w' hb' K' hK'
                    obtain ⟨hc', hf'⟩ := hb'.rule
                    go_simp
                    try go_ints
                    exact hK'
                  · intro K' hK'
                    simp only [Act.put, List.setIfInBounds_toArray, List.set_cons_zero, List.set_cons_succ]
                    exact hK'
                iterate 2
                  apply Flow.calm2 _ _ rfl rfl
                  · intro w' hb' K' hK'
                    obtain ⟨hc', hf'⟩ := hb'.rule
                    go_simp
                    try go_ints
                    exact hK'
                  · intro K' hK'
                    simp only [Act.put, List.setIfInBounds_toArray, List.set_cons_zero, List.set_cons_succ]
                    exact hK'
                iterate 1
                  apply Flow.calm2 _ _ rfl rfl
                  · intro w' hb' K' hK'
                    obtain ⟨hc', hf'⟩ := hb'.rule
                    go_simp
                    try go_ints
                    exact hK'
                  · intro K' hK'
                    simp only [Act.put, List.setIfInBounds_toArray, List.set_cons_zero, List.set_cons_succ]
                    exact hK'
                iterate 1
                  apply Flow.calm2 _ _ rfl rfl
                  · intro w' hb' K' hK'
                    obtain ⟨hc', hf'⟩ := hb'.rule
                    go_simp
                    try go_ints
                    exact hK'
                  · intro K' hK'
                    simp only [Act.put, List.setIfInBounds_toArray, List.set_cons_zero, List.set_cons_succ]
                    exact hK'
                iterate 1
                  apply Flow.calm2 _ _ rfl rfl
                  · intro w' hb' K' hK'
                    obtain ⟨hc', hf'⟩ := hb'.rule
                    go_simp
                    try go_ints
                    exact hK'
                  · intro K' hK'
                    simp only [Act.put, List.setIfInBounds_toArray, List.set_cons_zero, List.set_cons_succ]
                    exact hK'
                refine Flow.done ?_
                cases va <;> cases vb
                all_goals
                  go_wp2_with fail
                  exact ⟨⟨i + 1, hlt3, by go_num, by rw [Hst1.out]; simp, Hby.out.drew⟩, by simp [intOf]; omega⟩
              · obtain rfl : i = BW * BH := by omega
                rw [← Hnm.out]
                have hst2 : findF ok num r m = (X0, Y0, N0) := by rw [← HFD.out]; exact hst.out
                have hbd := (findF_st ok num r m).bd (by rw [Hm.out]; exact Nat.le_of_lt (place_lt hlt2 hlt)) hr
                rw [hst2] at hbd
                simp only at hbd
                have hstp := fun (hc : N0 < 0 ∨ (num m : Int) < N0 ∨ ((num m : Int) = N0 ∧ (farOf r m : Int) < X0.natAbs + Y0.natAbs)) => findF_take hst2 Hok1.out hc
                have hkeep := fun (hc : ¬ (N0 < 0 ∨ (num m : Int) < N0 ∨ ((num m : Int) = N0 ∧ (farOf r m : Int) < X0.natAbs + Y0.natAbs))) => findF_keep (ok := ok) (num := num) (r := r) (m := m) hst2 hc
                have hfar : (farOf r m : Int) = (((x : Int) - r).natAbs : Int) + (((v : Int) - r).natAbs : Int) := by unfold farOf; rw [Edx.out, Edy.out]; simp
                have hnle : num m ≤ 16000000 := by rw [Hnm.out]; have := cntD_le bs gr BW BH 0 0 (BW * BH); omega
                rw [← HFD.out] at hstp hkeep
                rw [hfar, Edx.out, Edy.out] at hstp
                rw [hfar] at hkeep
                obtain ⟨n, hn⟩ : ∃ n, n = num m := ⟨_, rfl⟩
                rw [← hn] at hstp hkeep hnle ⊢
                obtain ⟨qa, hqa⟩ : ∃ q, q = ((x : Int) - r).natAbs := ⟨_, rfl⟩
                obtain ⟨qb, hqb⟩ : ∃ q, q = ((v : Int) - r).natAbs := ⟨_, rfl⟩
                obtain ⟨qx, hqx⟩ : ∃ q, q = X0.natAbs := ⟨_, rfl⟩
                obtain ⟨qy, hqy⟩ : ∃ q, q = Y0.natAbs := ⟨_, rfl⟩
                rw [← hqa, ← hqb, ← hqx, ← hqy] at hstp hkeep
                have a1 : (((x : Int) - r).natAbs : Int) = (qa : Int) := by rw [hqa]
                have a2 : (((v : Int) - r).natAbs : Int) = (qb : Int) := by rw [hqb]
                have a3 : (X0.natAbs : Int) = (qx : Int) := by rw [hqx]
                have a4 : (Y0.natAbs : Int) = (qy : Int) := by rw [hqy]
                have a5 : qa ≤ 100 ∧ qb ≤ 100 ∧ qx ≤ 100 ∧ qy ≤ 100 := by omega
                have b1 : -1000000 ≤ (x : Int) - r ∧ (x : Int) - r ≤ 1000000 := by omega
                have b2 : -1000000 ≤ (v : Int) - r ∧ (v : Int) - r ≤ 1000000 := by omega
                have Hby := Lib.hid (Hb7.out.trans hby)
                have Fy := Lib.hid (F7.out.bl hby)
                have kF := (F7.out.bl hby).all3
                clear hqa hqb hqx hqy hn hfar hst hst2 hby d1 d2 ub hpos hmB ubX hx1 hy1 eP eQ hWH
                go_upto_region 18 with fail
                rcases (show N0 < 0 ∨ (¬ N0 < 0 ∧ (n : Int) < N0) ∨ (¬ N0 < 0 ∧ (n : Int) = N0 ∧ (qa : Int) + qb < qx + qy) ∨ (¬ N0 < 0 ∧ (n : Int) = N0 ∧ ¬ ((qa : Int) + qb < qx + qy)) ∨ (¬ N0 < 0 ∧ N0 < (n : Int)) by omega) with c1 | ⟨c1, c2⟩ | ⟨c1, c2, c3⟩ | ⟨c1, c2, c3⟩ | ⟨c1, c2⟩
                · have Hs := Lib.hid (hstp (Or.inl c1))
                  clear hstp hkeep
                  refine wp_region_flow [(true, 0), (true, 1), (true, 2), (true, 3), (true, 4), (true, 5), (true, 6), (true, 7), (true, 8), (true, 9), (true, 10), (true, 11), (true, 12), (true, 13), (true, 14), (true, 15), (true, 17), (true, 20), (true, 21), (true, 23), (true, 24), (false, 16), (false, 18), (true, 19), (false, 22), (false, 25), (true, 26), (true, 27), (true, 28), (true, 29)] (fun _ => false) (by kernel_rfl) (by kernel_rfl) (by kernel_rfl) (by kernel_rfl) ?_
                  iterate 1
                    apply Flow.calm2 _ _ rfl rfl
                    · intro w' hb' K' hK'
                      obtain ⟨hc', hf'⟩ := hb'.rule
                      go_simp
                      try go_ints
                      exact hK'
                    · intro K' hK'
                      simp only [Act.put, List.setIfInBounds_toArray, List.set_cons_zero, List.set_cons_succ]
                      exact hK'
                  iterate 1
                    apply Flow.calm2 _ _ rfl rfl
                    · intro w' hb' K' hK'
                      obtain ⟨hc', hf'⟩ := hb'.rule
                      go_simp
                      try go_ints
                      exact hK'
                    · intro K' hK'
                      simp only [Act.put, List.setIfInBounds_toArray, List.set_cons_zero, List.set_cons_succ]
                      exact hK'
                  iterate 1
                    apply Flow.calm2 _ _ rfl rfl
                    · intro w' hb' K' hK'
                      obtain ⟨hc', hf'⟩ := hb'.rule
                      go_simp
                      try go_ints
                      exact hK'
                    · intro K' hK'
                      simp only [Act.put, List.setIfInBounds_toArray, List.set_cons_zero, List.set_cons_succ]
                      exact hK'
                  iterate 1
                    apply Flow.mv _ rfl
                    · intro K' hK'
                      simp only [Act.put, Act.eval, List.setIfInBounds_toArray, List.set_cons_zero, List.set_cons_succ, arr_getD, List.getD_cons_zero, List.getD_cons_succ]
                      exact hK'
                  first
                    | (apply Flow.pass rfl (by rfl))
                    | (apply Flow.calmG _ rfl (by rfl)
                       · intro w' hb'
                         obtain ⟨hc', hf'⟩ := hb'.rule
                         go_simp
                         all_goals (try rfl))
                  simp only [Act.put, List.setIfInBounds_toArray, List.set_cons_zero, List.set_cons_succ]
                  try go_ints
                  first
                    | (apply Flow.pass rfl (by rfl))
                    | (apply Flow.calmG _ rfl (by rfl)
                       · intro w' hb'
                         obtain ⟨hc', hf'⟩ := hb'.rule
                         go_simp
                         all_goals (try rfl))
                  simp only [Act.put, List.setIfInBounds_toArray, List.set_cons_zero, List.set_cons_succ]
                  try go_ints
                  first
                    | (apply Flow.pass rfl (by rfl))
                    | (apply Flow.calmG _ rfl (by rfl)
                       · intro w' hb'
                         obtain ⟨hc', hf'⟩ := hb'.rule
                         go_simp
                         all_goals (try rfl))
                  simp only [Act.put, List.setIfInBounds_toArray, List.set_cons_zero, List.set_cons_succ]
                  try go_ints
                  first
                    | (apply Flow.pass rfl (by rfl))
                    | (apply Flow.calmG _ rfl (by rfl)
                       · intro w' hb'
                         obtain ⟨hc', hf'⟩ := hb'.rule
                         go_simp
                         all_goals (try rfl))
                  simp only [Act.put, List.setIfInBounds_toArray, List.set_cons_zero, List.set_cons_succ]
                  try go_ints
                  iterate 1
                    apply Flow.calm2 _ _ rfl rfl
                    · intro w' hb' K' hK'
                      obtain ⟨hc', hf'⟩ := hb'.rule
                      go_simp
                      try go_ints
                      exact hK'
                    · intro K' hK'
                      simp only [Act.put, List.setIfInBounds_toArray, List.set_cons_zero, List.set_cons_succ]
                      exact hK'
                  iterate 1
                    apply Flow.mv _ rfl
                    · intro K' hK'
                      simp only [Act.put, Act.eval, List.setIfInBounds_toArray, List.set_cons_zero, List.set_cons_succ, arr_getD, List.getD_cons_zero, List.getD_cons_succ]
                      exact hK'
                  first
                    | (apply Flow.pass rfl (by rfl))
                    | (apply Flow.calmG _ rfl (by rfl)
                       · intro w' hb'
                         obtain ⟨hc', hf'⟩ := hb'.rule
                         go_simp
                         all_goals (try rfl))
                  simp only [Act.put, List.setIfInBounds_toArray, List.set_cons_zero, List.set_cons_succ]
                  try go_ints
                  first
                    | (apply Flow.pass rfl (by rfl))
                    | (apply Flow.calmG _ rfl (by rfl)
                       · intro w' hb'
                         obtain ⟨hc', hf'⟩ := hb'.rule
                         go_simp
                         all_goals (try rfl))
                  simp only [Act.put, List.setIfInBounds_toArray, List.set_cons_zero, List.set_cons_succ]
                  try go_ints
                  first
                    | (apply Flow.pass rfl (by rfl))
                    | (apply Flow.calmG _ rfl (by rfl)
                       · intro w' hb'
                         obtain ⟨hc', hf'⟩ := hb'.rule
                         go_simp
                         all_goals (try rfl))
                  simp only [Act.put, List.setIfInBounds_toArray, List.set_cons_zero, List.set_cons_succ]
                  try go_ints
                  first
                    | (apply Flow.pass rfl (by rfl))
                    | (apply Flow.calmG _ rfl (by rfl)
                       · intro w' hb'
                         obtain ⟨hc', hf'⟩ := hb'.rule
                         go_simp
                         all_goals (try rfl))
                  simp only [Act.put, List.setIfInBounds_toArray, List.set_cons_zero, List.set_cons_succ]
                  try go_ints
                  first
                    | (apply Flow.pass rfl (by rfl))
                    | (apply Flow.calmG _ rfl (by rfl)
                       · intro w' hb'
                         obtain ⟨hc', hf'⟩ := hb'.rule
                         go_simp
                         all_goals (try rfl))
                  simp only [Act.put, List.setIfInBounds_toArray, List.set_cons_zero, List.set_cons_succ]
                  try go_ints
                  first
                    | (apply Flow.pass rfl (by rfl))
                    | (apply Flow.calmG _ rfl (by rfl)
                       · intro w' hb'
                         obtain ⟨hc', hf'⟩ := hb'.rule
                         go_simp
                         all_goals (try rfl))
                  simp only [Act.put, List.setIfInBounds_toArray, List.set_cons_zero, List.set_cons_succ]
                  try go_ints
                  first
                    | (apply Flow.pass rfl (by rfl))
                    | (apply Flow.calmG _ rfl (by rfl)
                       · intro w' hb'
                         obtain ⟨hc', hf'⟩ := hb'.rule
                         go_simp
                         all_goals (try rfl))
                  simp only [Act.put, List.setIfInBounds_toArray, List.set_cons_zero, List.set_cons_succ]
                  try go_ints
                  first
                    | (apply Flow.pass rfl (by rfl))
                    | (apply Flow.calmG _ rfl (by rfl)
                       · intro w' hb'
                         obtain ⟨hc', hf'⟩ := hb'.rule
                         go_simp
                         all_goals (try rfl))
                  simp only [Act.put, List.setIfInBounds_toArray, List.set_cons_zero, List.set_cons_succ]
                  try go_ints
                  first
                    | (apply Flow.pass rfl (by rfl))
                    | (apply Flow.calmG _ rfl (by rfl)
                       · intro w' hb'
                         obtain ⟨hc', hf'⟩ := hb'.rule
                         go_simp
                         all_goals (try rfl))
                  simp only [Act.put, List.setIfInBounds_toArray, List.set_cons_zero, List.set_cons_succ]
                  try go_ints
                  first
                    | (apply Flow.pass rfl (by rfl))
                    | (apply Flow.calmG _ rfl (by rfl)
                       · intro w' hb'
                         obtain ⟨hc', hf'⟩ := hb'.rule
                         go_simp
                         all_goals (try rfl))
                  simp only [Act.put, List.setIfInBounds_toArray, List.set_cons_zero, List.set_cons_succ]
                  try go_ints
                  first
                    | (apply Flow.pass rfl (by rfl))
                    | (apply Flow.calmG _ rfl (by rfl)
                       · intro w' hb'
                         obtain ⟨hc', hf'⟩ := hb'.rule
                         go_simp
                         all_goals (try rfl))
                  simp only [Act.put, List.setIfInBounds_toArray, List.set_cons_zero, List.set_cons_succ]
                  try go_ints
                  -- a guarded mover
                  apply Flow.move rfl
                  go_wp2_with fail
                  first | refine ⟨fun _ => Bl.refl _, ?_⟩ | refine ⟨Bl.refl _, ?_⟩
                  -- a guarded mover
                  apply Flow.move rfl
                  go_wp2_with fail
                  first | refine ⟨fun _ => Bl.refl _, ?_⟩ | refine ⟨Bl.refl _, ?_⟩
                  first
                    | (apply Flow.pass rfl (by rfl))
                    | (apply Flow.calmG _ rfl (by rfl)
                       · intro w' hb'
                         obtain ⟨hc', hf'⟩ := hb'.rule
                         go_simp
                         all_goals (try rfl))
                  simp only [Act.put, List.setIfInBounds_toArray, List.set_cons_zero, List.set_cons_succ]
                  try go_ints
                  -- a guarded mover
                  apply Flow.move rfl
                  go_wp2_with fail
                  first | refine ⟨fun _ => Bl.refl _, ?_⟩ | refine ⟨Bl.refl _, ?_⟩
                  -- a guarded mover
                  apply Flow.move rfl
                  go_wp2_with fail
                  first | refine ⟨fun _ => Bl.refl _, ?_⟩ | refine ⟨Bl.refl _, ?_⟩
                  first
                    | (apply Flow.pass rfl (by rfl))
                    | (apply Flow.calmG _ rfl (by rfl)
                       · intro w' hb'
                         obtain ⟨hc', hf'⟩ := hb'.rule
                         go_simp
                         all_goals (try rfl))
                  simp only [Act.put, List.setIfInBounds_toArray, List.set_cons_zero, List.set_cons_succ]
                  try go_ints
                  first
                    | (apply Flow.pass rfl (by rfl))
                    | (apply Flow.calmG _ rfl (by rfl)
                       · intro w' hb'
                         obtain ⟨hc', hf'⟩ := hb'.rule
                         go_simp
                         all_goals (try rfl))
                  simp only [Act.put, List.setIfInBounds_toArray, List.set_cons_zero, List.set_cons_succ]
                  try go_ints
                  first
                    | (apply Flow.pass rfl (by rfl))
                    | (apply Flow.calmG _ rfl (by rfl)
                       · intro w' hb'
                         obtain ⟨hc', hf'⟩ := hb'.rule
                         go_simp
                         all_goals (try rfl))
                  simp only [Act.put, List.setIfInBounds_toArray, List.set_cons_zero, List.set_cons_succ]
                  try go_ints
                  iterate 1
                    apply Flow.calm2 _ _ rfl rfl
                    · intro w' hb' K' hK'
                      obtain ⟨hc', hf'⟩ := hb'.rule
                      go_simp
                      try go_ints
                      exact hK'
                    · intro K' hK'
                      simp only [Act.put, List.setIfInBounds_toArray, List.set_cons_zero, List.set_cons_succ]
                      exact hK'
                  refine Flow.done ?_
                  go_wp2_with fail
                  exact ⟨⟨x + 1, _, _, _, hlt2, by go_num, by rw [show v * (2 * r + 1) + (x + 1) = m + 1 by rw [Hm.out]; omega]; exact Hs, Lib.hid (by simpa using (((Fy.out.set_ 0 (.int .i64 ((x : Int) - r))).set_ 1 (.int .i64 ((v : Int) - r))).set_ 2 (.int .i64 n)).drew), (((Hby.out.setCell Hg3.out _).setCell Hg3.out _).setCell Hg3.out _).drew⟩, by simp [intOf]; omega⟩
                · have Hs := Lib.hid (hstp (Or.inr (Or.inl c2)))
                  clear hstp hkeep
                  refine wp_region_flow [(true, 0), (true, 1), (true, 2), (true, 3), (true, 4), (true, 5), (true, 6), (true, 7), (true, 8), (true, 9), (true, 10), (true, 11), (true, 12), (true, 13), (true, 14), (true, 15), (true, 17), (true, 20), (true, 21), (true, 23), (true, 24), (false, 16), (false, 18), (true, 19), (false, 22), (false, 25), (true, 26), (true, 27), (true, 28), (true, 29)] (fun _ => false) (by kernel_rfl) (by kernel_rfl) (by kernel_rfl) (by kernel_rfl) ?_
                  iterate 1
                    apply Flow.calm2 _ _ rfl rfl
                    · intro w' hb' K' hK'
                      obtain ⟨hc', hf'⟩ := hb'.rule
                      go_simp
                      try go_ints
                      exact hK'
                    · intro K' hK'
                      simp only [Act.put, List.setIfInBounds_toArray, List.set_cons_zero, List.set_cons_succ]
                      exact hK'
                  iterate 1
                    apply Flow.calm2 _ _ rfl rfl
                    · intro w' hb' K' hK'
                      obtain ⟨hc', hf'⟩ := hb'.rule
                      go_simp
                      try go_ints
                      exact hK'
                    · intro K' hK'
                      simp only [Act.put, List.setIfInBounds_toArray, List.set_cons_zero, List.set_cons_succ]
                      exact hK'
                  iterate 1
                    apply Flow.calm2 _ _ rfl rfl
                    · intro w' hb' K' hK'
                      obtain ⟨hc', hf'⟩ := hb'.rule
                      go_simp
                      try go_ints
                      exact hK'
                    · intro K' hK'
                      simp only [Act.put, List.setIfInBounds_toArray, List.set_cons_zero, List.set_cons_succ]
                      exact hK'
                  iterate 1
                    apply Flow.mv _ rfl
                    · intro K' hK'
                      simp only [Act.put, Act.eval, List.setIfInBounds_toArray, List.set_cons_zero, List.set_cons_succ, arr_getD, List.getD_cons_zero, List.getD_cons_succ]
                      exact hK'
                  first
                    | (apply Flow.pass rfl (by rfl))
                    | (apply Flow.calmG _ rfl (by rfl)
                       · intro w' hb'
                         obtain ⟨hc', hf'⟩ := hb'.rule
                         go_simp
                         all_goals (try rfl))
                  simp only [Act.put, List.setIfInBounds_toArray, List.set_cons_zero, List.set_cons_succ]
                  try go_ints
                  first
                    | (apply Flow.pass rfl (by rfl))
                    | (apply Flow.calmG _ rfl (by rfl)
                       · intro w' hb'
                         obtain ⟨hc', hf'⟩ := hb'.rule
                         go_simp
                         all_goals (try rfl))
                  simp only [Act.put, List.setIfInBounds_toArray, List.set_cons_zero, List.set_cons_succ]
                  try go_ints
                  first
                    | (apply Flow.pass rfl (by rfl))
                    | (apply Flow.calmG _ rfl (by rfl)
                       · intro w' hb'
                         obtain ⟨hc', hf'⟩ := hb'.rule
                         go_simp
                         all_goals (try rfl))
                  simp only [Act.put, List.setIfInBounds_toArray, List.set_cons_zero, List.set_cons_succ]
                  try go_ints
                  first
                    | (apply Flow.pass rfl (by rfl))
                    | (apply Flow.calmG _ rfl (by rfl)
                       · intro w' hb'
                         obtain ⟨hc', hf'⟩ := hb'.rule
                         go_simp
                         all_goals (try rfl))
                  simp only [Act.put, List.setIfInBounds_toArray, List.set_cons_zero, List.set_cons_succ]
                  try go_ints
                  iterate 1
                    apply Flow.calm2 _ _ rfl rfl
                    · intro w' hb' K' hK'
                      obtain ⟨hc', hf'⟩ := hb'.rule
                      go_simp
                      try go_ints
                      exact hK'
                    · intro K' hK'
                      simp only [Act.put, List.setIfInBounds_toArray, List.set_cons_zero, List.set_cons_succ]
                      exact hK'
                  iterate 1
                    apply Flow.mv _ rfl
                    · intro K' hK'
                      simp only [Act.put, Act.eval, List.setIfInBounds_toArray, List.set_cons_zero, List.set_cons_succ, arr_getD, List.getD_cons_zero, List.getD_cons_succ]
                      exact hK'
                  first
                    | (apply Flow.pass rfl (by rfl))
                    | (apply Flow.calmG _ rfl (by rfl)
                       · intro w' hb'
                         obtain ⟨hc', hf'⟩ := hb'.rule
                         go_simp
                         all_goals (try rfl))
                  simp only [Act.put, List.setIfInBounds_toArray, List.set_cons_zero, List.set_cons_succ]
                  try go_ints
                  first
                    | (apply Flow.pass rfl (by rfl))
                    | (apply Flow.calmG _ rfl (by rfl)
                       · intro w' hb'
                         obtain ⟨hc', hf'⟩ := hb'.rule
                         go_simp
                         all_goals (try rfl))
                  simp only [Act.put, List.setIfInBounds_toArray, List.set_cons_zero, List.set_cons_succ]
                  try go_ints
                  first
                    | (apply Flow.pass rfl (by rfl))
                    | (apply Flow.calmG _ rfl (by rfl)
                       · intro w' hb'
                         obtain ⟨hc', hf'⟩ := hb'.rule
                         go_simp
                         all_goals (try rfl))
                  simp only [Act.put, List.setIfInBounds_toArray, List.set_cons_zero, List.set_cons_succ]
                  try go_ints
                  first
                    | (apply Flow.pass rfl (by rfl))
                    | (apply Flow.calmG _ rfl (by rfl)
                       · intro w' hb'
                         obtain ⟨hc', hf'⟩ := hb'.rule
                         go_simp
                         all_goals (try rfl))
                  simp only [Act.put, List.setIfInBounds_toArray, List.set_cons_zero, List.set_cons_succ]
                  try go_ints
                  first
                    | (apply Flow.pass rfl (by rfl))
                    | (apply Flow.calmG _ rfl (by rfl)
                       · intro w' hb'
                         obtain ⟨hc', hf'⟩ := hb'.rule
                         go_simp
                         all_goals (try rfl))
                  simp only [Act.put, List.setIfInBounds_toArray, List.set_cons_zero, List.set_cons_succ]
                  try go_ints
                  first
                    | (apply Flow.pass rfl (by rfl))
                    | (apply Flow.calmG _ rfl (by rfl)
                       · intro w' hb'
                         obtain ⟨hc', hf'⟩ := hb'.rule
                         go_simp
                         all_goals (try rfl))
                  simp only [Act.put, List.setIfInBounds_toArray, List.set_cons_zero, List.set_cons_succ]
                  try go_ints
                  first
                    | (apply Flow.pass rfl (by rfl))
                    | (apply Flow.calmG _ rfl (by rfl)
                       · intro w' hb'
                         obtain ⟨hc', hf'⟩ := hb'.rule
                         go_simp
                         all_goals (try rfl))
                  simp only [Act.put, List.setIfInBounds_toArray, List.set_cons_zero, List.set_cons_succ]
                  try go_ints
                  first
                    | (apply Flow.pass rfl (by rfl))
                    | (apply Flow.calmG _ rfl (by rfl)
                       · intro w' hb'
                         obtain ⟨hc', hf'⟩ := hb'.rule
                         go_simp
                         all_goals (try rfl))
                  simp only [Act.put, List.setIfInBounds_toArray, List.set_cons_zero, List.set_cons_succ]
                  try go_ints
                  first
                    | (apply Flow.pass rfl (by rfl))
                    | (apply Flow.calmG _ rfl (by rfl)
                       · intro w' hb'
                         obtain ⟨hc', hf'⟩ := hb'.rule
                         go_simp
                         all_goals (try rfl))
                  simp only [Act.put, List.setIfInBounds_toArray, List.set_cons_zero, List.set_cons_succ]
                  try go_ints
                  first
                    | (apply Flow.pass rfl (by rfl))
                    | (apply Flow.calmG _ rfl (by rfl)
                       · intro w' hb'
                         obtain ⟨hc', hf'⟩ := hb'.rule
                         go_simp
                         all_goals (try rfl))
                  simp only [Act.put, List.setIfInBounds_toArray, List.set_cons_zero, List.set_cons_succ]
                  try go_ints
                  first
                    | (apply Flow.pass rfl (by rfl))
                    | (apply Flow.calmG _ rfl (by rfl)
                       · intro w' hb'
                         obtain ⟨hc', hf'⟩ := hb'.rule
                         go_simp
                         all_goals (try rfl))
                  simp only [Act.put, List.setIfInBounds_toArray, List.set_cons_zero, List.set_cons_succ]
                  try go_ints
                  -- a guarded mover
                  apply Flow.move rfl
                  go_wp2_with fail
                  first | refine ⟨fun _ => Bl.refl _, ?_⟩ | refine ⟨Bl.refl _, ?_⟩
                  -- a guarded mover
                  apply Flow.move rfl
                  go_wp2_with fail
                  first | refine ⟨fun _ => Bl.refl _, ?_⟩ | refine ⟨Bl.refl _, ?_⟩
                  first
                    | (apply Flow.pass rfl (by rfl))
                    | (apply Flow.calmG _ rfl (by rfl)
                       · intro w' hb'
                         obtain ⟨hc', hf'⟩ := hb'.rule
                         go_simp
                         all_goals (try rfl))
                  simp only [Act.put, List.setIfInBounds_toArray, List.set_cons_zero, List.set_cons_succ]
                  try go_ints
                  -- a guarded mover
                  apply Flow.move rfl
                  go_wp2_with fail
                  first | refine ⟨fun _ => Bl.refl _, ?_⟩ | refine ⟨Bl.refl _, ?_⟩
                  -- a guarded mover
                  apply Flow.move rfl
                  go_wp2_with fail
                  first | refine ⟨fun _ => Bl.refl _, ?_⟩ | refine ⟨Bl.refl _, ?_⟩
                  first
                    | (apply Flow.pass rfl (by rfl))
                    | (apply Flow.calmG _ rfl (by rfl)
                       · intro w' hb'
                         obtain ⟨hc', hf'⟩ := hb'.rule
                         go_simp
                         all_goals (try rfl))
                  simp only [Act.put, List.setIfInBounds_toArray, List.set_cons_zero, List.set_cons_succ]
                  try go_ints
                  first
                    | (apply Flow.pass rfl (by rfl))
                    | (apply Flow.calmG _ rfl (by rfl)
                       · intro w' hb'
                         obtain ⟨hc', hf'⟩ := hb'.rule
                         go_simp
                         all_goals (try rfl))
                  simp only [Act.put, List.setIfInBounds_toArray, List.set_cons_zero, List.set_cons_succ]
                  try go_ints
                  first
                    | (apply Flow.pass rfl (by rfl))
                    | (apply Flow.calmG _ rfl (by rfl)
                       · intro w' hb'
                         obtain ⟨hc', hf'⟩ := hb'.rule
                         go_simp
                         all_goals (try rfl))
                  simp only [Act.put, List.setIfInBounds_toArray, List.set_cons_zero, List.set_cons_succ]
                  try go_ints
                  iterate 1
                    apply Flow.calm2 _ _ rfl rfl
                    · intro w' hb' K' hK'
                      obtain ⟨hc', hf'⟩ := hb'.rule
                      go_simp
                      try go_ints
                      exact hK'
                    · intro K' hK'
                      simp only [Act.put, List.setIfInBounds_toArray, List.set_cons_zero, List.set_cons_succ]
                      exact hK'
                  refine Flow.done ?_
                  go_wp2_with fail
                  exact ⟨⟨x + 1, _, _, _, hlt2, by go_num, by rw [show v * (2 * r + 1) + (x + 1) = m + 1 by rw [Hm.out]; omega]; exact Hs, Lib.hid (by simpa using (((Fy.out.set_ 0 (.int .i64 ((x : Int) - r))).set_ 1 (.int .i64 ((v : Int) - r))).set_ 2 (.int .i64 n)).drew), (((Hby.out.setCell Hg3.out _).setCell Hg3.out _).setCell Hg3.out _).drew⟩, by simp [intOf]; omega⟩
                · have Hs := Lib.hid (hstp (Or.inr (Or.inr ⟨c2, c3⟩)))
                  clear hstp hkeep
                  subst c2
                  refine wp_region_flow [(true, 0), (true, 1), (true, 2), (true, 3), (true, 4), (true, 5), (true, 6), (true, 7), (true, 8), (true, 9), (true, 10), (true, 11), (true, 12), (true, 13), (true, 14), (true, 15), (true, 17), (true, 20), (true, 21), (true, 23), (true, 24), (false, 16), (false, 18), (true, 19), (false, 22), (false, 25), (true, 26), (true, 27), (true, 28), (true, 29)] (fun _ => false) (by kernel_rfl) (by kernel_rfl) (by kernel_rfl) (by kernel_rfl) ?_
                  iterate 1
                    apply Flow.calm2 _ _ rfl rfl
                    · intro w' hb' K' hK'
                      obtain ⟨hc', hf'⟩ := hb'.rule
                      go_simp
                      try go_ints
                      exact hK'
                    · intro K' hK'
                      simp only [Act.put, List.setIfInBounds_toArray, List.set_cons_zero, List.set_cons_succ]
                      exact hK'
                  iterate 1
                    apply Flow.calm2 _ _ rfl rfl
                    · intro w' hb' K' hK'
                      obtain ⟨hc', hf'⟩ := hb'.rule
                      go_simp
                      try go_ints
                      exact hK'
                    · intro K' hK'
                      simp only [Act.put, List.setIfInBounds_toArray, List.set_cons_zero, List.set_cons_succ]
                      exact hK'
                  iterate 1
                    apply Flow.calm2 _ _ rfl rfl
                    · intro w' hb' K' hK'
                      obtain ⟨hc', hf'⟩ := hb'.rule
                      go_simp
                      try go_ints
                      exact hK'
                    · intro K' hK'
                      simp only [Act.put, List.setIfInBounds_toArray, List.set_cons_zero, List.set_cons_succ]
                      exact hK'
                  iterate 1
                    apply Flow.mv _ rfl
                    · intro K' hK'
                      simp only [Act.put, Act.eval, List.setIfInBounds_toArray, List.set_cons_zero, List.set_cons_succ, arr_getD, List.getD_cons_zero, List.getD_cons_succ]
                      exact hK'
                  first
                    | (apply Flow.pass rfl (by rfl))
                    | (apply Flow.calmG _ rfl (by rfl)
                       · intro w' hb'
                         obtain ⟨hc', hf'⟩ := hb'.rule
                         go_simp
                         all_goals (try rfl))
                  simp only [Act.put, List.setIfInBounds_toArray, List.set_cons_zero, List.set_cons_succ]
                  try go_ints
                  first
                    | (apply Flow.pass rfl (by rfl))
                    | (apply Flow.calmG _ rfl (by rfl)
                       · intro w' hb'
                         obtain ⟨hc', hf'⟩ := hb'.rule
                         go_simp
                         all_goals (try rfl))
                  simp only [Act.put, List.setIfInBounds_toArray, List.set_cons_zero, List.set_cons_succ]
                  try go_ints
                  first
                    | (apply Flow.pass rfl (by rfl))
                    | (apply Flow.calmG _ rfl (by rfl)
                       · intro w' hb'
                         obtain ⟨hc', hf'⟩ := hb'.rule
                         go_simp
                         all_goals (try rfl))
                  simp only [Act.put, List.setIfInBounds_toArray, List.set_cons_zero, List.set_cons_succ]
                  try go_ints
                  first
                    | (apply Flow.pass rfl (by rfl))
                    | (apply Flow.calmG _ rfl (by rfl)
                       · intro w' hb'
                         obtain ⟨hc', hf'⟩ := hb'.rule
                         go_simp
                         all_goals (try rfl))
                  simp only [Act.put, List.setIfInBounds_toArray, List.set_cons_zero, List.set_cons_succ]
                  try go_ints
                  iterate 1
                    apply Flow.calm2 _ _ rfl rfl
                    · intro w' hb' K' hK'
                      obtain ⟨hc', hf'⟩ := hb'.rule
                      go_simp
                      try go_ints
                      exact hK'
                    · intro K' hK'
                      simp only [Act.put, List.setIfInBounds_toArray, List.set_cons_zero, List.set_cons_succ]
                      exact hK'
                  iterate 1
                    apply Flow.mv _ rfl
                    · intro K' hK'
                      simp only [Act.put, Act.eval, List.setIfInBounds_toArray, List.set_cons_zero, List.set_cons_succ, arr_getD, List.getD_cons_zero, List.getD_cons_succ]
                      exact hK'
                  first
                    | (apply Flow.pass rfl (by rfl))
                    | (apply Flow.calmG _ rfl (by rfl)
                       · intro w' hb'
                         obtain ⟨hc', hf'⟩ := hb'.rule
                         go_simp
                         all_goals (try rfl))
                  simp only [Act.put, List.setIfInBounds_toArray, List.set_cons_zero, List.set_cons_succ]
                  try go_ints
                  first
                    | (apply Flow.pass rfl (by rfl))
                    | (apply Flow.calmG _ rfl (by rfl)
                       · intro w' hb'
                         obtain ⟨hc', hf'⟩ := hb'.rule
                         go_simp
                         all_goals (try rfl))
                  simp only [Act.put, List.setIfInBounds_toArray, List.set_cons_zero, List.set_cons_succ]
                  try go_ints
                  first
                    | (apply Flow.pass rfl (by rfl))
                    | (apply Flow.calmG _ rfl (by rfl)
                       · intro w' hb'
                         obtain ⟨hc', hf'⟩ := hb'.rule
                         go_simp
                         all_goals (try rfl))
                  simp only [Act.put, List.setIfInBounds_toArray, List.set_cons_zero, List.set_cons_succ]
                  try go_ints
                  first
                    | (apply Flow.pass rfl (by rfl))
                    | (apply Flow.calmG _ rfl (by rfl)
                       · intro w' hb'
                         obtain ⟨hc', hf'⟩ := hb'.rule
                         go_simp
                         all_goals (try rfl))
                  simp only [Act.put, List.setIfInBounds_toArray, List.set_cons_zero, List.set_cons_succ]
                  try go_ints
                  first
                    | (apply Flow.pass rfl (by rfl))
                    | (apply Flow.calmG _ rfl (by rfl)
                       · intro w' hb'
                         obtain ⟨hc', hf'⟩ := hb'.rule
                         go_simp
                         all_goals (try rfl))
                  simp only [Act.put, List.setIfInBounds_toArray, List.set_cons_zero, List.set_cons_succ]
                  try go_ints
                  first
                    | (apply Flow.pass rfl (by rfl))
                    | (apply Flow.calmG _ rfl (by rfl)
                       · intro w' hb'
                         obtain ⟨hc', hf'⟩ := hb'.rule
                         go_simp
                         all_goals (try rfl))
                  simp only [Act.put, List.setIfInBounds_toArray, List.set_cons_zero, List.set_cons_succ]
                  try go_ints
                  first
                    | (apply Flow.pass rfl (by rfl))
                    | (apply Flow.calmG _ rfl (by rfl)
                       · intro w' hb'
                         obtain ⟨hc', hf'⟩ := hb'.rule
                         go_simp
                         all_goals (try rfl))
                  simp only [Act.put, List.setIfInBounds_toArray, List.set_cons_zero, List.set_cons_succ]
                  try go_ints
                  first
                    | (apply Flow.pass rfl (by rfl))
                    | (apply Flow.calmG _ rfl (by rfl)
                       · intro w' hb'
                         obtain ⟨hc', hf'⟩ := hb'.rule
                         go_simp
                         all_goals (try rfl))
                  simp only [Act.put, List.setIfInBounds_toArray, List.set_cons_zero, List.set_cons_succ]
                  try go_ints
                  first
                    | (apply Flow.pass rfl (by rfl))
                    | (apply Flow.calmG _ rfl (by rfl)
                       · intro w' hb'
                         obtain ⟨hc', hf'⟩ := hb'.rule
                         go_simp
                         all_goals (try rfl))
                  simp only [Act.put, List.setIfInBounds_toArray, List.set_cons_zero, List.set_cons_succ]
                  try go_ints
                  first
                    | (apply Flow.pass rfl (by rfl))
                    | (apply Flow.calmG _ rfl (by rfl)
                       · intro w' hb'
                         obtain ⟨hc', hf'⟩ := hb'.rule
                         go_simp
                         all_goals (try rfl))
                  simp only [Act.put, List.setIfInBounds_toArray, List.set_cons_zero, List.set_cons_succ]
                  try go_ints
                  first
                    | (apply Flow.pass rfl (by rfl))
                    | (apply Flow.calmG _ rfl (by rfl)
                       · intro w' hb'
                         obtain ⟨hc', hf'⟩ := hb'.rule
                         go_simp
                         all_goals (try rfl))
                  simp only [Act.put, List.setIfInBounds_toArray, List.set_cons_zero, List.set_cons_succ]
                  try go_ints
                  -- a guarded mover
                  apply Flow.move rfl
                  go_wp2_with fail
                  refine (fsize_any _ _ (by omega)).mono ?_
                  rintro e w' ⟨rfl, rfl⟩
                  go_wp2_with fail
                  refine ⟨fun _ => (by first | exact HB1 | exact Bl.refl _), ?_⟩
                  -- a guarded mover
                  apply Flow.move rfl
                  go_wp2_with fail
                  refine (fsize_any _ _ (by omega)).mono ?_
                  rintro e w' ⟨rfl, rfl⟩
                  go_wp2_with fail
                  refine ⟨fun _ => (by first | exact HB2 | exact Bl.refl _), ?_⟩
                  first
                    | (apply Flow.pass rfl (by rfl))
                    | (apply Flow.calmG _ rfl (by rfl)
                       · intro w' hb'
                         obtain ⟨hc', hf'⟩ := hb'.rule
                         go_simp
                         all_goals (try rfl))
                  simp only [Act.put, List.setIfInBounds_toArray, List.set_cons_zero, List.set_cons_succ]
                  try go_ints
                  -- a guarded mover
                  apply Flow.move rfl
                  go_wp2_with fail
                  refine (fsize_any _ _ (by omega)).mono ?_
                  rintro e w' ⟨rfl, rfl⟩
                  go_wp2_with fail
                  refine ⟨fun _ => (by first | exact HB3 | exact Bl.refl _), ?_⟩
                  -- a guarded mover
                  apply Flow.move rfl
                  go_wp2_with fail
                  refine (fsize_any _ _ (by omega)).mono ?_
                  rintro e w' ⟨rfl, rfl⟩
                  go_wp2_with fail
                  refine ⟨fun _ => (by first | exact HB4 | exact Bl.refl _), ?_⟩
                  first
                    | (apply Flow.pass rfl (by rfl))
                    | (apply Flow.calmG _ rfl (by rfl)
                       · intro w' hb'
                         obtain ⟨hc', hf'⟩ := hb'.rule
                         go_simp
                         all_goals (try rfl))
                  simp only [Act.put, List.setIfInBounds_toArray, List.set_cons_zero, List.set_cons_succ]
                  try go_ints
                  first
                    | (apply Flow.pass rfl (by rfl))
                    | (apply Flow.calmG _ rfl (by rfl)
                       · intro w' hb'
                         obtain ⟨hc', hf'⟩ := hb'.rule
                         go_simp
                         all_goals (try rfl))
                  simp only [Act.put, List.setIfInBounds_toArray, List.set_cons_zero, List.set_cons_succ]
                  try go_ints
                  first
                    | (apply Flow.pass rfl (by rfl))
                    | (apply Flow.calmG _ rfl (by rfl)
                       · intro w' hb'
                         obtain ⟨hc', hf'⟩ := hb'.rule
                         go_simp
                         all_goals (try rfl))
                  simp only [Act.put, List.setIfInBounds_toArray, List.set_cons_zero, List.set_cons_succ]
                  try go_ints
                  iterate 1
                    apply Flow.calm2 _ _ rfl rfl
                    · intro w' hb' K' hK'
                      obtain ⟨hc', hf'⟩ := hb'.rule
                      go_simp
                      try go_ints
                      exact hK'
                    · intro K' hK'
                      simp only [Act.put, List.setIfInBounds_toArray, List.set_cons_zero, List.set_cons_succ]
                      exact hK'
                  refine Flow.done ?_
                  go_wp2_with fail
                  exact ⟨⟨x + 1, _, _, _, hlt2, by go_num, by rw [show v * (2 * r + 1) + (x + 1) = m + 1 by rw [Hm.out]; omega]; exact Hs, Lib.hid (by simpa using (((Fy.out.set_ 0 (.int .i64 ((x : Int) - r))).set_ 1 (.int .i64 ((v : Int) - r))).set_ 2 (.int .i64 n)).drew), (((Hby.out.setCell Hg3.out _).setCell Hg3.out _).setCell Hg3.out _).drew⟩, by simp [intOf]; omega⟩
                · have Hs := Lib.hid (hkeep (by omega))
                  clear hstp hkeep
                  subst c2
                  refine wp_region_flow [(true, 0), (true, 1), (true, 2), (true, 3), (true, 4), (true, 5), (true, 6), (true, 7), (true, 8), (true, 9), (true, 10), (true, 11), (true, 12), (true, 13), (true, 14), (true, 15), (true, 17), (true, 20), (true, 21), (true, 23), (true, 24), (false, 16), (false, 18), (true, 19), (false, 22), (false, 25), (true, 26), (true, 27), (true, 28), (true, 29)] (fun _ => false) (by kernel_rfl) (by kernel_rfl) (by kernel_rfl) (by kernel_rfl) ?_
                  iterate 1
                    apply Flow.calm2 _ _ rfl rfl
                    · intro w' hb' K' hK'
                      obtain ⟨hc', hf'⟩ := hb'.rule
                      go_simp
                      try go_ints
                      exact hK'
                    · intro K' hK'
                      simp only [Act.put, List.setIfInBounds_toArray, List.set_cons_zero, List.set_cons_succ]
                      exact hK'
                  iterate 1
                    apply Flow.calm2 _ _ rfl rfl
                    · intro w' hb' K' hK'
                      obtain ⟨hc', hf'⟩ := hb'.rule
                      go_simp
                      try go_ints
                      exact hK'
                    · intro K' hK'
                      simp only [Act.put, List.setIfInBounds_toArray, List.set_cons_zero, List.set_cons_succ]
                      exact hK'
                  iterate 1
                    apply Flow.calm2 _ _ rfl rfl
                    · intro w' hb' K' hK'
                      obtain ⟨hc', hf'⟩ := hb'.rule
                      go_simp
                      try go_ints
                      exact hK'
                    · intro K' hK'
                      simp only [Act.put, List.setIfInBounds_toArray, List.set_cons_zero, List.set_cons_succ]
                      exact hK'
                  iterate 1
                    apply Flow.mv _ rfl
                    · intro K' hK'
                      simp only [Act.put, Act.eval, List.setIfInBounds_toArray, List.set_cons_zero, List.set_cons_succ, arr_getD, List.getD_cons_zero, List.getD_cons_succ]
                      exact hK'
                  first
                    | (apply Flow.pass rfl (by rfl))
                    | (apply Flow.calmG _ rfl (by rfl)
                       · intro w' hb'
                         obtain ⟨hc', hf'⟩ := hb'.rule
                         go_simp
                         all_goals (try rfl))
                  simp only [Act.put, List.setIfInBounds_toArray, List.set_cons_zero, List.set_cons_succ]
                  try go_ints
                  first
                    | (apply Flow.pass rfl (by rfl))
                    | (apply Flow.calmG _ rfl (by rfl)
                       · intro w' hb'
                         obtain ⟨hc', hf'⟩ := hb'.rule
                         go_simp
                         all_goals (try rfl))
                  simp only [Act.put, List.setIfInBounds_toArray, List.set_cons_zero, List.set_cons_succ]
                  try go_ints
                  first
                    | (apply Flow.pass rfl (by rfl))
                    | (apply Flow.calmG _ rfl (by rfl)
                       · intro w' hb'
                         obtain ⟨hc', hf'⟩ := hb'.rule
                         go_simp
                         all_goals (try rfl))
                  simp only [Act.put, List.setIfInBounds_toArray, List.set_cons_zero, List.set_cons_succ]
                  try go_ints
                  first
                    | (apply Flow.pass rfl (by rfl))
                    | (apply Flow.calmG _ rfl (by rfl)
                       · intro w' hb'
                         obtain ⟨hc', hf'⟩ := hb'.rule
                         go_simp
                         all_goals (try rfl))
                  simp only [Act.put, List.setIfInBounds_toArray, List.set_cons_zero, List.set_cons_succ]
                  try go_ints
                  iterate 1
                    apply Flow.calm2 _ _ rfl rfl
                    · intro w' hb' K' hK'
                      obtain ⟨hc', hf'⟩ := hb'.rule
                      go_simp
                      try go_ints
                      exact hK'
                    · intro K' hK'
                      simp only [Act.put, List.setIfInBounds_toArray, List.set_cons_zero, List.set_cons_succ]
                      exact hK'
                  iterate 1
                    apply Flow.mv _ rfl
                    · intro K' hK'
                      simp only [Act.put, Act.eval, List.setIfInBounds_toArray, List.set_cons_zero, List.set_cons_succ, arr_getD, List.getD_cons_zero, List.getD_cons_succ]
                      exact hK'
                  first
                    | (apply Flow.pass rfl (by rfl))
                    | (apply Flow.calmG _ rfl (by rfl)
                       · intro w' hb'
                         obtain ⟨hc', hf'⟩ := hb'.rule
                         go_simp
                         all_goals (try rfl))
                  simp only [Act.put, List.setIfInBounds_toArray, List.set_cons_zero, List.set_cons_succ]
                  try go_ints
                  first
                    | (apply Flow.pass rfl (by rfl))
                    | (apply Flow.calmG _ rfl (by rfl)
                       · intro w' hb'
                         obtain ⟨hc', hf'⟩ := hb'.rule
                         go_simp
                         all_goals (try rfl))
                  simp only [Act.put, List.setIfInBounds_toArray, List.set_cons_zero, List.set_cons_succ]
                  try go_ints
                  first
                    | (apply Flow.pass rfl (by rfl))
                    | (apply Flow.calmG _ rfl (by rfl)
                       · intro w' hb'
                         obtain ⟨hc', hf'⟩ := hb'.rule
                         go_simp
                         all_goals (try rfl))
                  simp only [Act.put, List.setIfInBounds_toArray, List.set_cons_zero, List.set_cons_succ]
                  try go_ints
                  first
                    | (apply Flow.pass rfl (by rfl))
                    | (apply Flow.calmG _ rfl (by rfl)
                       · intro w' hb'
                         obtain ⟨hc', hf'⟩ := hb'.rule
                         go_simp
                         all_goals (try rfl))
                  simp only [Act.put, List.setIfInBounds_toArray, List.set_cons_zero, List.set_cons_succ]
                  try go_ints
                  first
                    | (apply Flow.pass rfl (by rfl))
                    | (apply Flow.calmG _ rfl (by rfl)
                       · intro w' hb'
                         obtain ⟨hc', hf'⟩ := hb'.rule
                         go_simp
                         all_goals (try rfl))
                  simp only [Act.put, List.setIfInBounds_toArray, List.set_cons_zero, List.set_cons_succ]
                  try go_ints
                  first
                    | (apply Flow.pass rfl (by rfl))
                    | (apply Flow.calmG _ rfl (by rfl)
                       · intro w' hb'
                         obtain ⟨hc', hf'⟩ := hb'.rule
                         go_simp
                         all_goals (try rfl))
                  simp only [Act.put, List.setIfInBounds_toArray, List.set_cons_zero, List.set_cons_succ]
                  try go_ints
                  first
                    | (apply Flow.pass rfl (by rfl))
                    | (apply Flow.calmG _ rfl (by rfl)
                       · intro w' hb'
                         obtain ⟨hc', hf'⟩ := hb'.rule
                         go_simp
                         all_goals (try rfl))
                  simp only [Act.put, List.setIfInBounds_toArray, List.set_cons_zero, List.set_cons_succ]
                  try go_ints
                  first
                    | (apply Flow.pass rfl (by rfl))
                    | (apply Flow.calmG _ rfl (by rfl)
                       · intro w' hb'
                         obtain ⟨hc', hf'⟩ := hb'.rule
                         go_simp
                         all_goals (try rfl))
                  simp only [Act.put, List.setIfInBounds_toArray, List.set_cons_zero, List.set_cons_succ]
                  try go_ints
                  first
                    | (apply Flow.pass rfl (by rfl))
                    | (apply Flow.calmG _ rfl (by rfl)
                       · intro w' hb'
                         obtain ⟨hc', hf'⟩ := hb'.rule
                         go_simp
                         all_goals (try rfl))
                  simp only [Act.put, List.setIfInBounds_toArray, List.set_cons_zero, List.set_cons_succ]
                  try go_ints
                  first
                    | (apply Flow.pass rfl (by rfl))
                    | (apply Flow.calmG _ rfl (by rfl)
                       · intro w' hb'
                         obtain ⟨hc', hf'⟩ := hb'.rule
                         go_simp
                         all_goals (try rfl))
                  simp only [Act.put, List.setIfInBounds_toArray, List.set_cons_zero, List.set_cons_succ]
                  try go_ints
                  first
                    | (apply Flow.pass rfl (by rfl))
                    | (apply Flow.calmG _ rfl (by rfl)
                       · intro w' hb'
                         obtain ⟨hc', hf'⟩ := hb'.rule
                         go_simp
                         all_goals (try rfl))
                  simp only [Act.put, List.setIfInBounds_toArray, List.set_cons_zero, List.set_cons_succ]
                  try go_ints
                  -- a guarded mover
                  apply Flow.move rfl
                  go_wp2_with fail
                  refine (fsize_any _ _ (by omega)).mono ?_
                  rintro e w' ⟨rfl, rfl⟩
                  go_wp2_with fail
                  refine ⟨fun _ => (by first | exact HB1 | exact Bl.refl _), ?_⟩
                  -- a guarded mover
                  apply Flow.move rfl
                  go_wp2_with fail
                  refine (fsize_any _ _ (by omega)).mono ?_
                  rintro e w' ⟨rfl, rfl⟩
                  go_wp2_with fail
                  refine ⟨fun _ => (by first | exact HB2 | exact Bl.refl _), ?_⟩
                  first
                    | (apply Flow.pass rfl (by rfl))
                    | (apply Flow.calmG _ rfl (by rfl)
                       · intro w' hb'
                         obtain ⟨hc', hf'⟩ := hb'.rule
                         go_simp
                         all_goals (try rfl))
                  simp only [Act.put, List.setIfInBounds_toArray, List.set_cons_zero, List.set_cons_succ]
                  try go_ints
                  -- a guarded mover
                  apply Flow.move rfl
                  go_wp2_with fail
                  refine (fsize_any _ _ (by omega)).mono ?_
                  rintro e w' ⟨rfl, rfl⟩
                  go_wp2_with fail
                  refine ⟨fun _ => (by first | exact HB3 | exact Bl.refl _), ?_⟩
                  -- a guarded mover
                  apply Flow.move rfl
                  go_wp2_with fail
                  refine (fsize_any _ _ (by omega)).mono ?_
                  rintro e w' ⟨rfl, rfl⟩
                  go_wp2_with fail
                  refine ⟨fun _ => (by first | exact HB4 | exact Bl.refl _), ?_⟩
                  first
                    | (apply Flow.pass rfl (by rfl))
                    | (apply Flow.calmG _ rfl (by rfl)
                       · intro w' hb'
                         obtain ⟨hc', hf'⟩ := hb'.rule
                         go_simp
                         all_goals (try rfl))
                  simp only [Act.put, List.setIfInBounds_toArray, List.set_cons_zero, List.set_cons_succ]
                  try go_ints
                  first
                    | (apply Flow.pass rfl (by rfl))
                    | (apply Flow.calmG _ rfl (by rfl)
                       · intro w' hb'
                         obtain ⟨hc', hf'⟩ := hb'.rule
                         go_simp
                         all_goals (try rfl))
                  simp only [Act.put, List.setIfInBounds_toArray, List.set_cons_zero, List.set_cons_succ]
                  try go_ints
                  first
                    | (apply Flow.pass rfl (by rfl))
                    | (apply Flow.calmG _ rfl (by rfl)
                       · intro w' hb'
                         obtain ⟨hc', hf'⟩ := hb'.rule
                         go_simp
                         all_goals (try rfl))
                  simp only [Act.put, List.setIfInBounds_toArray, List.set_cons_zero, List.set_cons_succ]
                  try go_ints
                  iterate 1
                    apply Flow.calm2 _ _ rfl rfl
                    · intro w' hb' K' hK'
                      obtain ⟨hc', hf'⟩ := hb'.rule
                      go_simp
                      try go_ints
                      exact hK'
                    · intro K' hK'
                      simp only [Act.put, List.setIfInBounds_toArray, List.set_cons_zero, List.set_cons_succ]
                      exact hK'
                  refine Flow.done ?_
                  go_wp2_with fail
                  exact ⟨⟨x + 1, _, _, _, hlt2, by go_num, by rw [show v * (2 * r + 1) + (x + 1) = m + 1 by rw [Hm.out]; omega]; exact Hs, Lib.hid Fy.out.drew, Hby.out.drew⟩, by simp [intOf]; omega⟩
                · have Hs := Lib.hid (hkeep (by omega))
                  have c3 : ((n : Int) == N0) = false := by simp; omega
                  have c4 : ¬ (n : Int) < N0 := by omega
                  have c5 : decide ((n : Int) < N0) = false := decide_eq_false c4
                  clear hstp hkeep
                  refine wp_region_flow [(true, 0), (true, 1), (true, 2), (true, 3), (true, 4), (true, 5), (true, 6), (true, 7), (true, 8), (true, 9), (true, 10), (true, 11), (true, 12), (true, 13), (true, 14), (true, 15), (true, 17), (true, 20), (true, 21), (true, 23), (true, 24), (false, 16), (false, 18), (true, 19), (false, 22), (false, 25), (true, 26), (true, 27), (true, 28), (true, 29)] (fun _ => false) (by kernel_rfl) (by kernel_rfl) (by kernel_rfl) (by kernel_rfl) ?_
                  iterate 1
                    apply Flow.calm2 _ _ rfl rfl
                    · intro w' hb' K' hK'
                      obtain ⟨hc', hf'⟩ := hb'.rule
                      go_simp
                      try go_ints
                      exact hK'
                    · intro K' hK'
                      simp only [Act.put, List.setIfInBounds_toArray, List.set_cons_zero, List.set_cons_succ]
                      exact hK'
                  iterate 1
                    apply Flow.calm2 _ _ rfl rfl
                    · intro w' hb' K' hK'
                      obtain ⟨hc', hf'⟩ := hb'.rule
                      go_simp
                      try go_ints
                      exact hK'
                    · intro K' hK'
                      simp only [Act.put, List.setIfInBounds_toArray, List.set_cons_zero, List.set_cons_succ]
                      exact hK'
                  iterate 1
                    apply Flow.calm2 _ _ rfl rfl
                    · intro w' hb' K' hK'
                      obtain ⟨hc', hf'⟩ := hb'.rule
                      go_simp
                      try go_ints
                      exact hK'
                    · intro K' hK'
                      simp only [Act.put, List.setIfInBounds_toArray, List.set_cons_zero, List.set_cons_succ]
                      exact hK'
                  iterate 1
                    apply Flow.mv _ rfl
                    · intro K' hK'
                      simp only [Act.put, Act.eval, List.setIfInBounds_toArray, List.set_cons_zero, List.set_cons_succ, arr_getD, List.getD_cons_zero, List.getD_cons_succ]
                      exact hK'
                  first
                    | (apply Flow.pass rfl (by rfl))
                    | (apply Flow.calmG _ rfl (by rfl)
                       · intro w' hb'
                         obtain ⟨hc', hf'⟩ := hb'.rule
                         go_simp
                         all_goals (try rfl))
                  simp only [Act.put, List.setIfInBounds_toArray, List.set_cons_zero, List.set_cons_succ]
                  try go_ints
                  first
                    | (apply Flow.pass rfl (by rfl))
                    | (apply Flow.calmG _ rfl (by rfl)
                       · intro w' hb'
                         obtain ⟨hc', hf'⟩ := hb'.rule
                         go_simp
                         all_goals (try rfl))
                  simp only [Act.put, List.setIfInBounds_toArray, List.set_cons_zero, List.set_cons_succ]
                  try go_ints
                  first
                    | (apply Flow.pass rfl (by rfl))
                    | (apply Flow.calmG _ rfl (by rfl)
                       · intro w' hb'
                         obtain ⟨hc', hf'⟩ := hb'.rule
                         go_simp
                         all_goals (try rfl))
                  simp only [Act.put, List.setIfInBounds_toArray, List.set_cons_zero, List.set_cons_succ]
                  try go_ints
                  first
                    | (apply Flow.pass rfl (by rfl))
                    | (apply Flow.calmG _ rfl (by rfl)
                       · intro w' hb'
                         obtain ⟨hc', hf'⟩ := hb'.rule
                         go_simp
                         all_goals (try rfl))
                  simp only [Act.put, List.setIfInBounds_toArray, List.set_cons_zero, List.set_cons_succ]
                  try go_ints
                  iterate 1
                    apply Flow.calm2 _ _ rfl rfl
                    · intro w' hb' K' hK'
                      obtain ⟨hc', hf'⟩ := hb'.rule
                      go_simp
                      try go_ints
                      exact hK'
                    · intro K' hK'
                      simp only [Act.put, List.setIfInBounds_toArray, List.set_cons_zero, List.set_cons_succ]
                      exact hK'
                  iterate 1
                    apply Flow.mv _ rfl
                    · intro K' hK'
                      simp only [Act.put, Act.eval, List.setIfInBounds_toArray, List.set_cons_zero, List.set_cons_succ, arr_getD, List.getD_cons_zero, List.getD_cons_succ]
                      exact hK'
                  first
                    | (apply Flow.pass rfl (by rfl))
                    | (apply Flow.calmG _ rfl (by rfl)
                       · intro w' hb'
                         obtain ⟨hc', hf'⟩ := hb'.rule
                         go_simp
                         all_goals (try rfl))
                  simp only [Act.put, List.setIfInBounds_toArray, List.set_cons_zero, List.set_cons_succ]
                  try go_ints
                  first
                    | (apply Flow.pass rfl (by rfl))
                    | (apply Flow.calmG _ rfl (by rfl)
                       · intro w' hb'
                         obtain ⟨hc', hf'⟩ := hb'.rule
                         go_simp
                         all_goals (try rfl))
                  simp only [Act.put, List.setIfInBounds_toArray, List.set_cons_zero, List.set_cons_succ]
                  try go_ints
                  first
                    | (apply Flow.pass rfl (by rfl))
                    | (apply Flow.calmG _ rfl (by rfl)
                       · intro w' hb'
                         obtain ⟨hc', hf'⟩ := hb'.rule
                         go_simp
                         all_goals (try rfl))
                  simp only [Act.put, List.setIfInBounds_toArray, List.set_cons_zero, List.set_cons_succ]
                  try go_ints
                  first
                    | (apply Flow.pass rfl (by rfl))
                    | (apply Flow.calmG _ rfl (by rfl)
                       · intro w' hb'
                         obtain ⟨hc', hf'⟩ := hb'.rule
                         go_simp
                         all_goals (try rfl))
                  simp only [Act.put, List.setIfInBounds_toArray, List.set_cons_zero, List.set_cons_succ]
                  try go_ints
                  first
                    | (apply Flow.pass rfl (by rfl))
                    | (apply Flow.calmG _ rfl (by rfl)
                       · intro w' hb'
                         obtain ⟨hc', hf'⟩ := hb'.rule
                         go_simp
                         all_goals (try rfl))
                  simp only [Act.put, List.setIfInBounds_toArray, List.set_cons_zero, List.set_cons_succ]
                  try go_ints
                  first
                    | (apply Flow.pass rfl (by rfl))
                    | (apply Flow.calmG _ rfl (by rfl)
                       · intro w' hb'
                         obtain ⟨hc', hf'⟩ := hb'.rule
                         go_simp
                         all_goals (try rfl))
                  simp only [Act.put, List.setIfInBounds_toArray, List.set_cons_zero, List.set_cons_succ]
                  try go_ints
                  first
                    | (apply Flow.pass rfl (by rfl))
                    | (apply Flow.calmG _ rfl (by rfl)
                       · intro w' hb'
                         obtain ⟨hc', hf'⟩ := hb'.rule
                         go_simp
                         all_goals (try rfl))
                  simp only [Act.put, List.setIfInBounds_toArray, List.set_cons_zero, List.set_cons_succ]
                  try go_ints
                  first
                    | (apply Flow.pass rfl (by rfl))
                    | (apply Flow.calmG _ rfl (by rfl)
                       · intro w' hb'
                         obtain ⟨hc', hf'⟩ := hb'.rule
                         go_simp
                         all_goals (try rfl))
                  simp only [Act.put, List.setIfInBounds_toArray, List.set_cons_zero, List.set_cons_succ]
                  try go_ints
                  first
                    | (apply Flow.pass rfl (by rfl))
                    | (apply Flow.calmG _ rfl (by rfl)
                       · intro w' hb'
                         obtain ⟨hc', hf'⟩ := hb'.rule
                         go_simp
                         all_goals (try rfl))
                  simp only [Act.put, List.setIfInBounds_toArray, List.set_cons_zero, List.set_cons_succ]
                  try go_ints
                  first
                    | (apply Flow.pass rfl (by rfl))
                    | (apply Flow.calmG _ rfl (by rfl)
                       · intro w' hb'
                         obtain ⟨hc', hf'⟩ := hb'.rule
                         go_simp
                         all_goals (try rfl))
                  simp only [Act.put, List.setIfInBounds_toArray, List.set_cons_zero, List.set_cons_succ]
                  try go_ints
                  first
                    | (apply Flow.pass rfl (by rfl))
                    | (apply Flow.calmG _ rfl (by rfl)
                       · intro w' hb'
                         obtain ⟨hc', hf'⟩ := hb'.rule
                         go_simp
                         all_goals (try rfl))
                  simp only [Act.put, List.setIfInBounds_toArray, List.set_cons_zero, List.set_cons_succ]
                  try go_ints
                  -- a guarded mover
                  apply Flow.move rfl
                  go_wp2_with fail
                  first | refine ⟨fun _ => Bl.refl _, ?_⟩ | refine ⟨Bl.refl _, ?_⟩
                  -- a guarded mover
                  apply Flow.move rfl
                  go_wp2_with fail
                  first | refine ⟨fun _ => Bl.refl _, ?_⟩ | refine ⟨Bl.refl _, ?_⟩
                  first
                    | (apply Flow.pass rfl (by rfl))
                    | (apply Flow.calmG _ rfl (by rfl)
                       · intro w' hb'
                         obtain ⟨hc', hf'⟩ := hb'.rule
                         go_simp
                         all_goals (try rfl))
                  simp only [Act.put, List.setIfInBounds_toArray, List.set_cons_zero, List.set_cons_succ]
                  try go_ints
                  -- a guarded mover
                  apply Flow.move rfl
                  go_wp2_with fail
                  first | refine ⟨fun _ => Bl.refl _, ?_⟩ | refine ⟨Bl.refl _, ?_⟩
                  -- a guarded mover
                  apply Flow.move rfl
                  go_wp2_with fail
                  first | refine ⟨fun _ => Bl.refl _, ?_⟩ | refine ⟨Bl.refl _, ?_⟩
                  first
                    | (apply Flow.pass rfl (by rfl))
                    | (apply Flow.calmG _ rfl (by rfl)
                       · intro w' hb'
                         obtain ⟨hc', hf'⟩ := hb'.rule
                         go_simp
                         all_goals (try rfl))
                  simp only [Act.put, List.setIfInBounds_toArray, List.set_cons_zero, List.set_cons_succ]
                  try go_ints
                  first
                    | (apply Flow.pass rfl (by rfl))
                    | (apply Flow.calmG _ rfl (by rfl)
                       · intro w' hb'
                         obtain ⟨hc', hf'⟩ := hb'.rule
                         go_simp
                         all_goals (try rfl))
                  simp only [Act.put, List.setIfInBounds_toArray, List.set_cons_zero, List.set_cons_succ]
                  try go_ints
                  first
                    | (apply Flow.pass rfl (by rfl))
                    | (apply Flow.calmG _ rfl (by rfl)
                       · intro w' hb'
                         obtain ⟨hc', hf'⟩ := hb'.rule
                         go_simp
                         all_goals (try rfl))
                  simp only [Act.put, List.setIfInBounds_toArray, List.set_cons_zero, List.set_cons_succ]
                  try go_ints
                  iterate 1
                    apply Flow.calm2 _ _ rfl rfl
                    · intro w' hb' K' hK'
                      obtain ⟨hc', hf'⟩ := hb'.rule
                      go_simp
                      try go_ints
                      exact hK'
                    · intro K' hK'
                      simp only [Act.put, List.setIfInBounds_toArray, List.set_cons_zero, List.set_cons_succ]
                      exact hK'
                  refine Flow.done ?_
                  go_wp2_with fail
                  exact ⟨⟨x + 1, _, _, _, hlt2, by go_num, by rw [show v * (2 * r + 1) + (x + 1) = m + 1 by rw [Hm.out]; omega]; exact Hs, Lib.hid Fy.out.drew, Hby.out.drew⟩, by simp [intOf]; omega⟩
        · obtain rfl : x = 2 * r + 1 := by omega
          go_wp2_with fail
          exact ⟨⟨v + 1, X0, Y0, N0, hlt, by go_num, by rw [Nat.add_mul, Nat.one_mul]; exact hst, hF, hbr⟩, by simp [intOf]; omega⟩
    · obtain rfl : v = 2 * r + 1 := by omega
      have kF := hF.out.all3
      go_wp2_with fail
      refine bodyPost_ret (v := .agg #[.int .i64 x0, .int .i64 y0, .int .i64 n0]) (by simp [results, Tryz.results93, go_sem, kF]) rfl ⟨by rw [hst.out], W3b.out.trans (((hbr.setCell Hg3.out _).setCell Hg3.out _).setCell Hg3.out _)⟩
end Go.Proofs.YtahfkahfaiidgaaGreatDoor
