/- forms.place and bedref2.PlacedOf: a page in its place. -/
import Derived.Test.YtahfkahfaiidgaaGreatDoorMClaimForms29
import Derived.Test.YtahfkahfaiidgaaGreatDoorMClaimForms33

namespace Go.Proofs.YtahfkahfaiidgaaGreatDoor
open Go.RowKit Go.Shelf

set_option maxRecDepth 100000 in
set_option maxHeartbeats 4000000 in
theorem place_any (f : Frm) (C : Option Addr) (cc : Nat) (cs : List Bool) (W H r : Nat) (w : World) (hfit : Fits f W H r) (hF : FrmAt w f) (hC : Reads w 1 C (W * H) (cs.map .bool)) :
    Calls Tryz.prog 53 #[f.val, .agg #[.int .i64 W, .int .i64 H, .slice C (W * H) cc]] w fun e w' => ∃ v, e = .returned v ∧ BPage w.heap.size w' v W H (placeB f cs) ∧ Bl w w' := by
  have hof := fun wx hF hC => offset_any f C cc cs W H r wx hfit hF hC
  have hbx := offX_bd (cs := cs) hfit
  have hby := offY_bd (cs := cs) hfit
  have e1 := hfit.fW
  have e2 := hfit.fH
  have hW := hfit.hW
  have hH := hfit.hH
  have hWH := hfit.hWH
  have hs0 : sizeErr (W : Int) (H : Int) = 0 := by
    have := Int.natCast_mul W H
    unfold sizeErr
    rw [if_pos (by omega), if_neg (by omega)]
  obtain ⟨PB, hPB⟩ : ∃ b, b = placeB f cs := ⟨_, rfl⟩
  rw [← hPB]
  have hPB2 : PB = grid W H (movedF cs W H (-(medI (offX f cs))) (-(medI (offY f cs)))) := by rw [hPB]; unfold placeB; rw [e1, e2, Int.toNat_natCast, Int.toNat_natCast]
  obtain ⟨px, hpx⟩ : ∃ x, x = medI (offX f cs) := ⟨_, rfl⟩
  obtain ⟨py, hpy⟩ : ∃ x, x = medI (offY f cs) := ⟨_, rfl⟩
  rw [← hpx] at hof hbx hPB2
  rw [← hpy] at hof hby hPB2
  have hpst : grid W H (pasteF (List.replicate (W * H) false) cs W H W H (-px) (-py)) = PB := by
    rw [hPB2]
    exact grid_congr _ _ _ _ fun x y hx hy => pasteF_blank cs W H _ _ x y hx hy
  obtain ⟨nm, fW, fH, reach, dark, AL, ac, la, FL, fc, lf, RL, rc, lr⟩ := f
  simp only at e1 e2
  subst e1 e2
  let w1 := (((w).alloc (.cells #[.string ⟨nm.toArray⟩, .int .i64 W, .int .i64 H, .int .i64 reach, .int .i64 dark, .slice AL la.length ac, .slice FL lf.length fc, .slice RL lr.length rc] 26)).alloc (.cells #[.int .i64 W, .int .i64 H, .slice C (W * H) cc] 42)).alloc (.cells #[.int .i64 0, .int .i64 0, .slice none 0 0] 42)
  have w1b : Bl w w1 := (((Bl.refl w).alloc _).alloc _).alloc _
  have w11 : Blk w1 (w.heap.size) 26 #[.string ⟨nm.toArray⟩, .int .i64 W, .int .i64 H, .int .i64 reach, .int .i64 dark, .slice AL la.length ac, .slice FL lf.length fc, .slice RL lr.length rc] := by
    have h0 := Blk.new (w) 26 #[.string ⟨nm.toArray⟩, .int .i64 W, .int .i64 H, .int .i64 reach, .int .i64 dark, .slice AL la.length ac, .slice FL lf.length fc, .slice RL lr.length rc]
    exact ((h0.alloc _).alloc _)
  have w12 : Blk w1 (w.heap.size + 1) 42 #[.int .i64 W, .int .i64 H, .slice C (W * H) cc] := by
    have h0 := Blk.new ((w).alloc (.cells #[.string ⟨nm.toArray⟩, .int .i64 W, .int .i64 H, .int .i64 reach, .int .i64 dark, .slice AL la.length ac, .slice FL lf.length fc, .slice RL lr.length rc] 26)) 42 #[.int .i64 W, .int .i64 H, .slice C (W * H) cc]
    simp only [World.size_alloc] at h0
    exact (h0.alloc _)
  have w13 : Blk w1 (w.heap.size + 1 + 1) 42 #[.int .i64 0, .int .i64 0, .slice none 0 0] := by
    have h0 := Blk.new (((w).alloc (.cells #[.string ⟨nm.toArray⟩, .int .i64 W, .int .i64 H, .int .i64 reach, .int .i64 dark, .slice AL la.length ac, .slice FL lf.length fc, .slice RL lr.length rc] 26)).alloc (.cells #[.int .i64 W, .int .i64 H, .slice C (W * H) cc] 42)) 42 #[.int .i64 0, .int .i64 0, .slice none 0 0]
    simp only [World.size_alloc] at h0
    exact h0
  have sz1 : w1.heap.size = w.heap.size + 3 := by simp [w1]
  unfold Frm.val at hof
  have Hof := Lib.hid (hof w1 (hF.bl w1b) (hC.bl w1b)); have Hs0 := Lib.hid hs0; have Hpst := Lib.hid hpst; have HC := Lib.hid (hC.bl w1b)
  have k1 := w11.all8
  have k2 := w12.all3
  have HW1b := Lib.hid w1b
  have Hbk := Lib.hid (fun wx => blankB_ok W H wx hs0)
  unfold Frm.val
  clear hF hC hof hfit w1b hs0 hPB hPB2 hpx hpy hpst
  go_enter Tryz.func53, Tryz.ntmps53
  go_upto_region 1 with fail
  rw [show ((w.alloc (.cells #[.string ⟨nm.toArray⟩, .int .i64 W, .int .i64 H, .int .i64 reach, .int .i64 dark, .slice AL la.length ac, .slice FL lf.length fc, .slice RL lr.length rc] 26)).alloc (.cells #[.int .i64 W, .int .i64 H, .slice C (W * H) cc] 42)).alloc (.cells #[.int .i64 0, .int .i64 0, .slice none 0 0] 42) = w1 from rfl]
  clear_value w1
  go_upto_region 2 with (go_at_call 52; refine Hof.out.mono ?_; rintro e w2 ⟨rfl, hb2⟩)
  obtain ⟨w3, hw3⟩ : ∃ x, x = w2.alloc (.cells #[.int .i64 px, .int .i64 py] 47) := ⟨_, rfl⟩
  have b3 : Blk w3 w2.heap.size 47 #[.int .i64 px, .int .i64 py] := by rw [hw3]; exact Blk.new _ _ _
  have hb3 : Bl w2 w3 := by rw [hw3]; exact (Bl.refl _).alloc _
  rw [← hw3]
  have B3 := Lib.hid b3; have Hb3 := Lib.hid (hb2.trans hb3)
  have k1 := (w11.bl Hb3.out).all8
  clear hw3 b3 hb3 hb2 k2
  go_upto_region 3 with (go_at_call 94; refine (Hbk.out _).mono ?_; rintro e w4 ⟨v4, rfl, ⟨g4, rfl, hg4, hgl4, hgn4⟩, hb4⟩)
  obtain ⟨w5, hw5⟩ : ∃ x, x = w4.alloc (.cells #[.int .i64 W, .int .i64 H, .slice (some ⟨g4, 0, none⟩) (W * H) (W * H)] 42) := ⟨_, rfl⟩
  have b5 : Blk w5 w4.heap.size 42 #[.int .i64 W, .int .i64 H, .slice (some ⟨g4, 0, none⟩) (W * H) (W * H)] := by rw [hw5]; exact Blk.new _ _ _
  have hb5 : Bl w4 w5 := by rw [hw5]; exact (Bl.refl _).alloc _
  rw [← hw5]
  have Hb5 := Lib.hid (Hb3.out.trans (hb4.trans hb5))
  have k2 := (w12.bl Hb5.out).all3
  have k3 := (B3.out.bl (hb4.trans hb5)).all2
  have k4 := b5.all3
  have hcall := pasteB_any W H W H _ _ (List.replicate (W * H) false) cs (-px) (-py) w5 (BPage.is ⟨g4, rfl, hg4.bl hb5, hgl4, Nat.zero_le _⟩) ⟨C, cc, rfl, HC.out.bl Hb5.out⟩ Hs0.out Hs0.out (by omega) (by omega)
  rw [Hpst.out] at hcall
  have Hcall := Lib.hid hcall
  have hle5 := Hb5.out.le
  clear k1 hw5 b5 hb5 hb4 hg4 hgl4 hgn4 hcall
  go_upto_region 4 with (go_at_call 95; refine Hcall.out.mono ?_; rintro e w6 ⟨v6, rfl, ⟨g6, rfl, hg6, hgl6, hgn6⟩, hb6⟩)
  obtain ⟨w7, hw7⟩ : ∃ x, x = w6.alloc (.cells #[.int .i64 W, .int .i64 H, .slice (some ⟨g6, 0, none⟩) (W * H) (W * H)] 42) := ⟨_, rfl⟩
  have b7 : Blk w7 w6.heap.size 42 #[.int .i64 W, .int .i64 H, .slice (some ⟨g6, 0, none⟩) (W * H) (W * H)] := by rw [hw7]; exact Blk.new _ _ _
  have hb7 : Bl w6 w7 := by rw [hw7]; exact (Bl.refl _).alloc _
  rw [← hw7]
  have Hb7 := Lib.hid (Hb5.out.trans (hb6.trans hb7)); have HG := Lib.hid (hg6.bl hb7); have Hgl := Lib.hid hgl6
  have B2 := Lib.hid (w13.bl Hb7.out)
  have k5 := b7.all3
  have k6 := B2.out.all3
  have hgne : g6 ≠ w.heap.size + 1 + 1 := by omega
  have hgw : w.heap.size ≤ g6 := by omega
  clear k2 k3 k4 hw7 b7 hb7 hb6 hg6 hgl6
  go_wp2_with fail
  obtain ⟨wS, hwS⟩ : ∃ x, x = ((w7.setCell ⟨w.heap.size + 1 + 1, 0, none⟩ (.int .i64 W)).setCell ⟨w.heap.size + 1 + 1, 1, none⟩ (.int .i64 H)).setCell ⟨w.heap.size + 1 + 1, 2, none⟩ (.slice (some ⟨g6, 0, none⟩) (W * H) (W * H)) := ⟨_, rfl⟩
  have bS : Blk wS (w.heap.size + 1 + 1) 42 #[.int .i64 W, .int .i64 H, .slice (some ⟨g6, 0, none⟩) (W * H) (W * H)] := by rw [hwS]; exact ((B2.out.set_ 0 _).set_ 1 _).set_ 2 _
  have bG : Blk wS g6 4 (PB.map Value.bool).toArray := by rw [hwS]; exact ((HG.out.far hgne _).far hgne _).far hgne _
  have hS : Bl w wS := by rw [hwS]; exact (((HW1b.out.trans Hb7.out).setCell (by show _ ≤ _ + 1 + 1; omega) _).setCell (by show _ ≤ _ + 1 + 1; omega) _).setCell (by show _ ≤ _ + 1 + 1; omega) _
  rw [← hwS]
  have kF := bS.all3
  refine bodyPost_ret (v := .agg #[.int .i64 W, .int .i64 H, .slice (some ⟨g6, 0, none⟩) (W * H) (W * H)]) (by simp [results, Tryz.results53, go_sem, kF]) rfl ⟨_, rfl, ⟨g6, rfl, bG, Hgl.out, hgw⟩, hS⟩
set_option maxRecDepth 100000 in
set_option maxHeartbeats 4000000 in
theorem placedOf_any (f : Frm) (C : Option Addr) (cc : Nat) (cs : List Bool) (W H r : Nat) (w : World) (hfit : Fits f W H r) (hr8 : r ≤ 8) (hF : FrmAt w f) (hC : Reads w 1 C (W * H) (cs.map .bool)) :
    Calls Tryz.prog 26 #[f.val, .agg #[.int .i64 W, .int .i64 H, .slice C (W * H) cc]] w fun e w' => ∃ v, e = .returned v ∧ IsPage w' v W H ((placeB f cs).map .bool) ∧ Bl w w' := by
  have hof := fun wx hF hC => offsetOf_any f C cc cs W H r wx hfit hr8 hF hC
  have hbx := offX_bd (cs := cs) hfit
  have hby := offY_bd (cs := cs) hfit
  have e1 := hfit.fW
  have e2 := hfit.fH
  have hW := hfit.hW
  have hH := hfit.hH
  obtain ⟨PB, hPB⟩ : ∃ b, b = placeB f cs := ⟨_, rfl⟩
  rw [← hPB]
  have hPB2 : grid W H (movedF cs W H (-(medI (offX f cs))) (-(medI (offY f cs)))) = PB := by rw [hPB]; unfold placeB; rw [e1, e2, Int.toNat_natCast, Int.toNat_natCast]
  obtain ⟨px, hpx⟩ : ∃ x, x = medI (offX f cs) := ⟨_, rfl⟩
  obtain ⟨py, hpy⟩ : ∃ x, x = medI (offY f cs) := ⟨_, rfl⟩
  rw [← hpx] at hof hbx hPB2
  rw [← hpy] at hof hby hPB2
  obtain ⟨nm, fW, fH, reach, dark, AL, ac, la, FL, fc, lf, RL, rc, lr⟩ := f
  simp only at e1 e2
  subst e1 e2
  let w1 := (((w).alloc (.cells #[.string ⟨nm.toArray⟩, .int .i64 W, .int .i64 H, .int .i64 reach, .int .i64 dark, .slice AL la.length ac, .slice FL lf.length fc, .slice RL lr.length rc] 26)).alloc (.cells #[.int .i64 W, .int .i64 H, .slice C (W * H) cc] 42)).alloc (.cells #[.int .i64 0, .int .i64 0, .slice none 0 0] 42)
  have w1b : Bl w w1 := (((Bl.refl w).alloc _).alloc _).alloc _
  have w11 : Blk w1 (w.heap.size) 26 #[.string ⟨nm.toArray⟩, .int .i64 W, .int .i64 H, .int .i64 reach, .int .i64 dark, .slice AL la.length ac, .slice FL lf.length fc, .slice RL lr.length rc] := by
    have h0 := Blk.new (w) 26 #[.string ⟨nm.toArray⟩, .int .i64 W, .int .i64 H, .int .i64 reach, .int .i64 dark, .slice AL la.length ac, .slice FL lf.length fc, .slice RL lr.length rc]
    exact ((h0.alloc _).alloc _)
  have w12 : Blk w1 (w.heap.size + 1) 42 #[.int .i64 W, .int .i64 H, .slice C (W * H) cc] := by
    have h0 := Blk.new ((w).alloc (.cells #[.string ⟨nm.toArray⟩, .int .i64 W, .int .i64 H, .int .i64 reach, .int .i64 dark, .slice AL la.length ac, .slice FL lf.length fc, .slice RL lr.length rc] 26)) 42 #[.int .i64 W, .int .i64 H, .slice C (W * H) cc]
    simp only [World.size_alloc] at h0
    exact (h0.alloc _)
  have w13 : Blk w1 (w.heap.size + 1 + 1) 42 #[.int .i64 0, .int .i64 0, .slice none 0 0] := by
    have h0 := Blk.new (((w).alloc (.cells #[.string ⟨nm.toArray⟩, .int .i64 W, .int .i64 H, .int .i64 reach, .int .i64 dark, .slice AL la.length ac, .slice FL lf.length fc, .slice RL lr.length rc] 26)).alloc (.cells #[.int .i64 W, .int .i64 H, .slice C (W * H) cc] 42)) 42 #[.int .i64 0, .int .i64 0, .slice none 0 0]
    simp only [World.size_alloc] at h0
    exact h0
  have sz1 : w1.heap.size = w.heap.size + 3 := by simp [w1]
  unfold Frm.val at hof
  have Hof := Lib.hid (hof w1 (hF.bl w1b) (hC.bl w1b)); have Hpst := Lib.hid hPB2; have HC := Lib.hid (hC.bl w1b)
  have k1 := w11.all8
  have k2 := w12.all3
  have HW1b := Lib.hid w1b
  unfold Frm.val
  clear hF hC hof hfit w1b hPB hPB2 hpx hpy
  go_enter Tryz.func26, Tryz.ntmps26
  go_upto_region 1 with fail
  rw [show ((w.alloc (.cells #[.string ⟨nm.toArray⟩, .int .i64 W, .int .i64 H, .int .i64 reach, .int .i64 dark, .slice AL la.length ac, .slice FL lf.length fc, .slice RL lr.length rc] 26)).alloc (.cells #[.int .i64 W, .int .i64 H, .slice C (W * H) cc] 42)).alloc (.cells #[.int .i64 0, .int .i64 0, .slice none 0 0] 42) = w1 from rfl]
  clear_value w1
  go_upto_region 2 with (go_at_call 24; refine Hof.out.mono ?_; rintro e w2 ⟨rfl, hb2⟩)
  obtain ⟨w3, hw3⟩ : ∃ x, x = w2.alloc (.cells #[.int .i64 px, .int .i64 py] 47) := ⟨_, rfl⟩
  have b3 : Blk w3 w2.heap.size 47 #[.int .i64 px, .int .i64 py] := by rw [hw3]; exact Blk.new _ _ _
  have hb3 : Bl w2 w3 := by rw [hw3]; exact (Bl.refl _).alloc _
  rw [← hw3]
  have Hb3 := Lib.hid (hb2.trans hb3)
  have k1 := (w11.bl Hb3.out).all8
  have k2 := (w12.bl Hb3.out).all3
  have k3 := b3.all2
  have hcall := movedOf_any W H W H C cc cs (-px) (-py) w3 (HC.out.bl Hb3.out) (by omega) (by omega) (by omega) (by omega) (by omega) (by omega)
  rw [Hpst.out] at hcall
  have Hcall := Lib.hid hcall
  have hle3 := Hb3.out.le
  clear hw3 b3 hb3 hb2 hcall
  go_wp2_with fail
  refine Hcall.out.mono ?_
  rintro e w6 ⟨A6, c6, rfl, hg6, hgn6, hb6⟩
  have Hb6 := Lib.hid (Hb3.out.trans hb6); have HG := Lib.hid hg6
  have B2 := Lib.hid (w13.bl Hb6.out)
  have k6 := B2.out.all3
  have Hgn := Lib.hid (fun ad (h : A6 = some ad) => show w.heap.size + 3 ≤ ad.block by have := hgn6 ad h; omega)
  clear k1 k2 k3 hb6 hg6 hgn6
  go_wp2_with fail
  obtain ⟨wS, hwS⟩ : ∃ x, x = ((w6.setCell ⟨w.heap.size + 1 + 1, 0, none⟩ (.int .i64 W)).setCell ⟨w.heap.size + 1 + 1, 1, none⟩ (.int .i64 H)).setCell ⟨w.heap.size + 1 + 1, 2, none⟩ (.slice A6 (W * H) c6) := ⟨_, rfl⟩
  have bS : Blk wS (w.heap.size + 1 + 1) 42 #[.int .i64 W, .int .i64 H, .slice A6 (W * H) c6] := by rw [hwS]; exact ((B2.out.set_ 0 _).set_ 1 _).set_ 2 _
  have bG : Reads wS 1 A6 (W * H) (PB.map .bool) := by rw [hwS]; exact ((HG.out.store Hgn.out (by show _ + 1 + 1 < _; omega) _).store Hgn.out (by show _ + 1 + 1 < _; omega) _).store Hgn.out (by show _ + 1 + 1 < _; omega) _
  have hS : Bl w wS := by rw [hwS]; exact (((HW1b.out.trans Hb6.out).setCell (by show _ ≤ _ + 1 + 1; omega) _).setCell (by show _ ≤ _ + 1 + 1; omega) _).setCell (by show _ ≤ _ + 1 + 1; omega) _
  rw [← hwS]
  have kF := bS.all3
  refine bodyPost_ret (v := .agg #[.int .i64 W, .int .i64 H, .slice A6 (W * H) c6]) (by simp [results, Tryz.results26, go_sem, kF]) rfl ⟨_, rfl, ⟨A6, c6, rfl, bG⟩, hS⟩
end Go.Proofs.YtahfkahfaiidgaaGreatDoor
