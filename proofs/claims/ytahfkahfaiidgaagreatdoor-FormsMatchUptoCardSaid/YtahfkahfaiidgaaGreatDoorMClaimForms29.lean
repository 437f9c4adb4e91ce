/- bedref2.PaperOf. -/
import Derived.Test.YtahfkahfaiidgaaGreatDoorMClaimForms20
import Derived.Test.YtahfkahfaiidgaaGreatDoorMClaimForms7
import Derived.Test.YtahfkahfaiidgaaGreatDoorMClaimForms27

namespace Go.Proofs.YtahfkahfaiidgaaGreatDoor
open Go.RowKit Go.Shelf

set_option maxRecDepth 100000 in
set_option maxHeartbeats 4000000 in
theorem paper_any (f : Frm) (W H r : Nat) (w : World) (hfit : Fits f W H r) (hF : FrmAt w f) :
    Calls Tryz.prog 54 #[f.val] w fun e w' => ∃ v, e = .returned v ∧ BPage w.heap.size w' v W H (paperTo W H f.la f.la.length) ∧ Bl w w' := by
  have hat := fun (a : Anc) (ha : a ∈ f.la) => hfit.at_ ha
  have hl10 : f.la.length ≤ 10 := hfit.hla
  have e1 := hfit.fW
  have e2 := hfit.fH
  have hW := hfit.hW
  have hH := hfit.hH
  have hWH := hfit.hWH
  have hs0 : sizeErr (W : Int) (H : Int) = 0 := by
    have := Int.natCast_mul W H
    unfold sizeErr
    rw [if_pos (by omega), if_neg (by omega)]
  obtain ⟨nm, fW, fH, reach, dark, AL, ac, la, FL, fc, lf, RL, rc, lr⟩ := f
  simp only at e1 e2 hl10
  subst e1 e2
  have hat2 : ∀ a ∈ la, ∃ BW BH : Nat, a.W = (BW : Int) ∧ a.H = (BH : Int) ∧ a.m = BW * BH ∧ sizeErr (BW : Int) (BH : Int) = 0 ∧ (0 ≤ a.X ∧ a.X ≤ 4000) ∧ (0 ≤ a.Y ∧ a.Y ≤ 4000) := fun a ha => by
    obtain ⟨BW, BH, q1, q2, q3, q4, q5, q6, q7, q8⟩ := hat a ha
    have hin := of_decide_eq_true (show decide (0 ≤ a.X ∧ a.X < (W : Int) ∧ 0 ≤ a.Y ∧ a.Y < (H : Int) ∧ 1 ≤ a.W ∧ a.W ≤ (W : Int) - a.X ∧ 1 ≤ a.H ∧ a.H ≤ (H : Int) - a.Y) = true from q4)
    have := Int.natCast_mul BW BH
    exact ⟨BW, BH, q1, q2, q3, by unfold sizeErr; rw [if_pos (by omega), if_neg (by omega)], by omega, by omega⟩
  let w1 := ((w).alloc (.cells #[.string ⟨nm.toArray⟩, .int .i64 W, .int .i64 H, .int .i64 reach, .int .i64 dark, .slice AL la.length ac, .slice FL lf.length fc, .slice RL lr.length rc] 26)).alloc (.cells #[.int .i64 0, .int .i64 0, .slice none 0 0] 42)
  have w1b : Bl w w1 := ((Bl.refl w).alloc _).alloc _
  have w11 : Blk w1 (w.heap.size) 26 #[.string ⟨nm.toArray⟩, .int .i64 W, .int .i64 H, .int .i64 reach, .int .i64 dark, .slice AL la.length ac, .slice FL lf.length fc, .slice RL lr.length rc] := by
    have h0 := Blk.new (w) 26 #[.string ⟨nm.toArray⟩, .int .i64 W, .int .i64 H, .int .i64 reach, .int .i64 dark, .slice AL la.length ac, .slice FL lf.length fc, .slice RL lr.length rc]
    exact (h0.alloc _)
  have w12 : Blk w1 (w.heap.size + 1) 42 #[.int .i64 0, .int .i64 0, .slice none 0 0] := by
    have h0 := Blk.new ((w).alloc (.cells #[.string ⟨nm.toArray⟩, .int .i64 W, .int .i64 H, .int .i64 reach, .int .i64 dark, .slice AL la.length ac, .slice FL lf.length fc, .slice RL lr.length rc] 26)) 42 #[.int .i64 0, .int .i64 0, .slice none 0 0]
    simp only [World.size_alloc] at h0
    exact h0
  have sz1 : w1.heap.size = w.heap.size + 2 := by simp [w1]
  have HFA := Lib.hid (hF.ancs.bl w1b); have Hat := Lib.hid hat2; have Hs0 := Lib.hid hs0
  have k1 := w11.all8
  have HW1b := Lib.hid w1b
  have Hbk := Lib.hid (fun wx => blankB_ok W H wx hs0)
  unfold Frm.val
  clear hF hat hat2 hfit w1b hs0
  go_enter Tryz.func54, Tryz.ntmps54
  go_upto_region 1 with fail
  rw [show (w.alloc (.cells #[.string ⟨nm.toArray⟩, .int .i64 W, .int .i64 H, .int .i64 reach, .int .i64 dark, .slice AL la.length ac, .slice FL lf.length fc, .slice RL lr.length rc] 26)).alloc (.cells #[.int .i64 0, .int .i64 0, .slice none 0 0] 42) = w1 from rfl]
  clear_value w1
  go_upto_region 2 with (go_at_call 94; refine (Hbk.out _).mono ?_; rintro e w2 ⟨v0, rfl, ⟨g0, rfl, hg0, hgl0, hgn0⟩, hb2⟩)
  obtain ⟨p, hp⟩ : ∃ p, p = w2.heap.size := ⟨_, rfl⟩
  obtain ⟨w3, hw3⟩ : ∃ x, x = w2.alloc (.cells #[.int .i64 W, .int .i64 H, .slice (some ⟨g0, 0, none⟩) (W * H) (W * H)] 42) := ⟨_, rfl⟩
  have b3 : Blk w3 p 42 #[.int .i64 W, .int .i64 H, .slice (some ⟨g0, 0, none⟩) (W * H) (W * H)] := by rw [hw3, hp]; exact Blk.new _ _ _
  have hb3 : Bl w2 w3 := by rw [hw3]; exact (Bl.refl _).alloc _
  rw [← hw3, ← hp]
  have k1 := (w11.bl (hb2.trans hb3)).all8
  have hpw : w1.heap.size ≤ p := by rw [hp]; exact hb2.le
  have H0 := Lib.hid (show Bl w1 w3 ∧ Blk w3 g0 4 ((paperTo W H la 0).map Value.bool).toArray ∧ (paperTo W H la 0).length = W * H ∧ w1.heap.size ≤ g0 ∧ g0 ≠ p from
    ⟨hb2.trans hb3, hg0.bl hb3, hgl0, hgn0, by have := hg0.lt; omega⟩)
  have B3 := Lib.hid b3
  clear hw3 b3 hb3 hb2 hg0 hgl0 hgn0 hp
  go_wp2_with fail
  go_loopw [18] (fun u wr => ∃ i g : Nat, i ≤ la.length ∧ u = .int .i64 i ∧ Bl w1 wr ∧ Blk wr p 42 #[.int .i64 W, .int .i64 H, .slice (some ⟨g, 0, none⟩) (W * H) (W * H)] ∧ Blk wr g 4 ((paperTo W H la i).map Value.bool).toArray ∧ (paperTo W H la i).length = W * H ∧ w1.heap.size ≤ g ∧ g ≠ p) (fun u _ => la.length - (RowKit.intOf u).toNat)
  case atStart => exact ⟨0, g0, Nat.zero_le _, rfl, H0.out.1, B3.out, H0.out.2⟩
  case round =>
    clear k1
    obtain ⟨i, g, hi, rfl, hbr, hbp, hbg, hgl, hgn, hgp⟩ := hrel
    by_cases hlt : i < la.length
    · have hg : la[i]? = some la[i] := List.getElem?_eq_getElem hlt
      obtain ⟨a, ha2⟩ : ∃ l, l = la[i] := ⟨_, rfl⟩
      rw [← ha2] at hg
      obtain ⟨ad, e1, j1, j2, j3, j4, j5⟩ := (HFA.out.bl hbr).at_ hg
      subst e1
      obtain ⟨BW, BH, q1, q2, q3, q4, q5, q6⟩ := Hat.out a (List.mem_of_getElem? hg)
      have HAr := Lib.hid (HFA.out.2 a (List.mem_of_getElem? hg))
      have Hst := Lib.hid (paperTo_succ (W := W) (H := H) hg q1 q2)
      have Hbr := Lib.hid hbr; have Hq4 := Lib.hid q4
      obtain ⟨BS, hBS⟩ : ∃ b, b = paperTo W H la i := ⟨_, rfl⟩
      rw [← hBS] at hbg hgl Hst
      have HG := Lib.hid hbg; have Hgl := Lib.hid hgl
      rw [q1] at j1
      rw [q2] at j2
      rw [q3] at j3
      clear hg ha2 hbr q1 q2 q4 hBS hbg hgl
      go_upto_region 5 with fail
      obtain ⟨w5, hw5⟩ : ∃ x, x = wr.alloc (.cells #[.int .i64 BW, .int .i64 BH, .slice a.A (BW * BH) a.c, .int .i64 a.X, .int .i64 a.Y] 60) := ⟨_, rfl⟩
      have b5 : Blk w5 wr.heap.size 60 #[.int .i64 BW, .int .i64 BH, .slice a.A (BW * BH) a.c, .int .i64 a.X, .int .i64 a.Y] := by rw [hw5]; exact Blk.new _ _ _
      have hb5 : Bl wr w5 := by rw [hw5]; exact (Bl.refl _).alloc _
      rw [← hw5]
      have k1 := (w11.bl (Hbr.out.trans hb5)).all8
      have k2 := (hbp.bl hb5).all3
      have k3 := b5.all5
      have Hb5 := Lib.hid (Hbr.out.trans hb5)
      have HP := Lib.hid (hbp.bl hb5)
      have hcall := pasteB_any W H BW BH _ _ BS a.bs a.X a.Y w5 (BPage.is ⟨g, rfl, HG.out.bl hb5, Hgl.out, Nat.zero_le _⟩) ⟨a.A, a.c, rfl, by rw [← q3]; exact HAr.out.bl Hb5.out⟩ Hs0.out Hq4.out (by omega) (by omega)
      have Hcall := Lib.hid hcall
      have hple : p < w5.heap.size := HP.out.lt
      clear hw5 b5 hb5 j1 j2 j3 j4 j5 hcall hbp
      go_wp2_with fail
      refine Hcall.out.mono ?_
      rintro e w6 ⟨v6, rfl, ⟨g6, rfl, hg6, hgl6, hgn6⟩, hb6⟩
      have HP6 := Lib.hid (HP.out.bl hb6)
      have k2 := HP6.out.all3
      have Hb6 := Lib.hid (Hb5.out.trans hb6)
      have HG6 := Lib.hid hg6; have Hgl6 := Lib.hid hgl6; have Hgn6 := Lib.hid (show g6 ≠ p ∧ w1.heap.size ≤ g6 from ⟨by omega, by have := Hb5.out.le; omega⟩)
      clear hg6 hgl6 hb6
      go_wp2_with fail
      refine ⟨⟨i + 1, g6, hlt, by go_num, ((Hb6.out.setCell hpw _).setCell hpw _).setCell hpw _, ((HP6.out.set_ 0 _).set_ 1 _).set_ 2 _, ?_, ?_, Hgn6.out.2, Hgn6.out.1⟩, by simp [RowKit.intOf]; omega⟩
      · rw [Hst.out]; exact ((HG6.out.far Hgn6.out.1 _).far Hgn6.out.1 _).far Hgn6.out.1 _
      · rw [Hst.out]; exact Hgl6.out
    · obtain rfl : i = la.length := by omega
      have k2 := hbp.all3
      have B2 := Lib.hid (w12.bl hbr)
      have k3 := B2.out.all3
      have Hbr := Lib.hid (HW1b.out.trans hbr); have HG := Lib.hid hbg; have Hgl := Lib.hid hgl
      have hlt2 := w12.lt
      have hgne : g ≠ w.heap.size + 1 := by omega
      clear hbr hbp hbg hgl
      go_wp2_with fail
      obtain ⟨wS, hwS⟩ : ∃ x, x = ((wr.setCell ⟨w.heap.size + 1, 0, none⟩ (.int .i64 W)).setCell ⟨w.heap.size + 1, 1, none⟩ (.int .i64 H)).setCell ⟨w.heap.size + 1, 2, none⟩ (.slice (some ⟨g, 0, none⟩) (W * H) (W * H)) := ⟨_, rfl⟩
      have bS : Blk wS (w.heap.size + 1) 42 #[.int .i64 W, .int .i64 H, .slice (some ⟨g, 0, none⟩) (W * H) (W * H)] := by rw [hwS]; exact ((B2.out.set_ 0 _).set_ 1 _).set_ 2 _
      have bG : Blk wS g 4 ((paperTo W H la la.length).map Value.bool).toArray := by rw [hwS]; exact ((HG.out.far hgne _).far hgne _).far hgne _
      have hS : Bl w wS := by rw [hwS]; exact ((Hbr.out.setCell (Nat.le_succ _) _).setCell (Nat.le_succ _) _).setCell (Nat.le_succ _) _
      rw [← hwS]
      have kF := bS.all3
      refine bodyPost_ret (v := .agg #[.int .i64 W, .int .i64 H, .slice (some ⟨g, 0, none⟩) (W * H) (W * H)]) (by simp [results, Tryz.results54, go_sem, kF]) rfl ⟨_, rfl, ⟨g, rfl, bG, Hgl.out, by omega⟩, hS⟩
end Go.Proofs.YtahfkahfaiidgaaGreatDoor


/-! bedref2.PaperOf. -/
namespace Go.Proofs.YtahfkahfaiidgaaGreatDoor
open Go.RowKit Go.Shelf

theorem paperOf1_any (x y : Nat) (w : World) : Calls Tryz.prog 66 #[.int .i64 x, .int .i64 y] w fun e w' => e = .returned (.bool false) ∧ Bl w w' := by
  go_enter Tryz.func66, Tryz.ntmps66
  go_wp2_with fail
  go_ret
  exact ⟨rfl, Bl.refl _⟩
theorem madeR_blank (W H : Nat) (w : World) (hW : W ≤ 1048576) (hH : H ≤ 1048576) (hWH : W * H ≤ 1048576) :
    Calls Tryz.prog 65 #[.int .i64 W, .int .i64 H, .func (.func 66) #[] #[]] w fun e w' => ∃ v, e = .returned v ∧ NPage w.heap.size w' v W H ((grid W H (fun _ _ => false)).map Value.bool) ∧ Bl w w' :=
  Made_any W H (fun _ _ => false) _ _ w hW hH (by omega) ⟨enters Tryz.func66 (by kernel_rfl) rfl, fun wx x y _ _ _ => paperOf1_any x y wx⟩
set_option maxRecDepth 100000 in
set_option maxHeartbeats 4000000 in
theorem paperOf_any (f : Frm) (W H r : Nat) (w : World) (hfit : Fits f W H r) (hF : FrmAt w f) :
    Calls Tryz.prog 19 #[f.val] w fun e w' => ∃ v, e = .returned v ∧ NPage w.heap.size w' v W H ((paperTo W H f.la f.la.length).map .bool) ∧ Bl w w' := by
  have hat := fun (a : Anc) (ha : a ∈ f.la) => hfit.at_ ha
  have hl10 : f.la.length ≤ 10 := hfit.hla
  have e1 := hfit.fW
  have e2 := hfit.fH
  have hW := hfit.hW
  have hH := hfit.hH
  have hWH := hfit.hWH
  have hs0 : sizeErr (W : Int) (H : Int) = 0 := by
    have := Int.natCast_mul W H
    unfold sizeErr
    rw [if_pos (by omega), if_neg (by omega)]
  obtain ⟨nm, fW, fH, reach, dark, AL, ac, la, FL, fc, lf, RL, rc, lr⟩ := f
  simp only at e1 e2 hl10
  subst e1 e2
  have hat2 : ∀ a ∈ la, ∃ BW BH : Nat, a.W = (BW : Int) ∧ a.H = (BH : Int) ∧ a.m = BW * BH ∧ sizeErr (BW : Int) (BH : Int) = 0 ∧ (0 ≤ a.X ∧ a.X ≤ 4000) ∧ (0 ≤ a.Y ∧ a.Y ≤ 4000) := fun a ha => by
    obtain ⟨BW, BH, q1, q2, q3, q4, q5, q6, q7, q8⟩ := hat a ha
    have hin := of_decide_eq_true (show decide (0 ≤ a.X ∧ a.X < (W : Int) ∧ 0 ≤ a.Y ∧ a.Y < (H : Int) ∧ 1 ≤ a.W ∧ a.W ≤ (W : Int) - a.X ∧ 1 ≤ a.H ∧ a.H ≤ (H : Int) - a.Y) = true from q4)
    have := Int.natCast_mul BW BH
    exact ⟨BW, BH, q1, q2, q3, by unfold sizeErr; rw [if_pos (by omega), if_neg (by omega)], by omega, by omega⟩
  let w1 := ((w).alloc (.cells #[.string ⟨nm.toArray⟩, .int .i64 W, .int .i64 H, .int .i64 reach, .int .i64 dark, .slice AL la.length ac, .slice FL lf.length fc, .slice RL lr.length rc] 26)).alloc (.cells #[.int .i64 0, .int .i64 0, .slice none 0 0] 42)
  have w1b : Bl w w1 := ((Bl.refl w).alloc _).alloc _
  have w11 : Blk w1 (w.heap.size) 26 #[.string ⟨nm.toArray⟩, .int .i64 W, .int .i64 H, .int .i64 reach, .int .i64 dark, .slice AL la.length ac, .slice FL lf.length fc, .slice RL lr.length rc] := by
    have h0 := Blk.new (w) 26 #[.string ⟨nm.toArray⟩, .int .i64 W, .int .i64 H, .int .i64 reach, .int .i64 dark, .slice AL la.length ac, .slice FL lf.length fc, .slice RL lr.length rc]
    exact (h0.alloc _)
  have w12 : Blk w1 (w.heap.size + 1) 42 #[.int .i64 0, .int .i64 0, .slice none 0 0] := by
    have h0 := Blk.new ((w).alloc (.cells #[.string ⟨nm.toArray⟩, .int .i64 W, .int .i64 H, .int .i64 reach, .int .i64 dark, .slice AL la.length ac, .slice FL lf.length fc, .slice RL lr.length rc] 26)) 42 #[.int .i64 0, .int .i64 0, .slice none 0 0]
    simp only [World.size_alloc] at h0
    exact h0
  have sz1 : w1.heap.size = w.heap.size + 2 := by simp [w1]
  have HFA := Lib.hid (hF.ancs.bl w1b); have Hat := Lib.hid hat2; have Hs0 := Lib.hid hs0
  have k1 := w11.all8
  have HW1b := Lib.hid w1b
  have Hbk := Lib.hid (fun wx => madeR_blank W H wx (by omega) (by omega) (by omega))
  unfold Frm.val
  clear hF hat hat2 hfit w1b hs0
  go_enter Tryz.func19, Tryz.ntmps19
  go_upto_region 1 with fail
  rw [show (w.alloc (.cells #[.string ⟨nm.toArray⟩, .int .i64 W, .int .i64 H, .int .i64 reach, .int .i64 dark, .slice AL la.length ac, .slice FL lf.length fc, .slice RL lr.length rc] 26)).alloc (.cells #[.int .i64 0, .int .i64 0, .slice none 0 0] 42) = w1 from rfl]
  clear_value w1
  go_upto_region 2 with (go_at_call 65; refine (Hbk.out _).mono ?_; rintro e w2 ⟨v0, rfl, ⟨A0, c0, rfl, hr0, hn0⟩, hb2⟩)
  obtain ⟨p, hp⟩ : ∃ p, p = w2.heap.size := ⟨_, rfl⟩
  obtain ⟨w3, hw3⟩ : ∃ x, x = w2.alloc (.cells #[.int .i64 W, .int .i64 H, .slice A0 (W * H) c0] 42) := ⟨_, rfl⟩
  have b3 : Blk w3 p 42 #[.int .i64 W, .int .i64 H, .slice A0 (W * H) c0] := by rw [hw3, hp]; exact Blk.new _ _ _
  have hb3 : Bl w2 w3 := by rw [hw3]; exact (Bl.refl _).alloc _
  rw [← hw3, ← hp]
  have k1 := (w11.bl (hb2.trans hb3)).all8
  have hpw : w1.heap.size ≤ p := by rw [hp]; exact hb2.le
  have H0 := Lib.hid (show Bl w1 w3 ∧ Reads w3 1 A0 (W * H) ((paperTo W H la 0).map .bool) ∧ (∀ ad, A0 = some ad → w1.heap.size ≤ ad.block) from
    ⟨hb2.trans hb3, by rw [show paperTo W H la 0 = grid W H (fun _ _ => false) from (grid_false W H).symm]; exact hr0.bl hb3, hn0⟩)
  have B3 := Lib.hid b3
  clear hw3 b3 hb3 hb2 hr0 hn0 hp
  go_wp2_with fail
  go_loopw [14] (fun u wr => ∃ (i : Nat) (A : Option Addr) (c : Nat), i ≤ la.length ∧ u = .int .i64 i ∧ Bl w1 wr ∧ Blk wr p 42 #[.int .i64 W, .int .i64 H, .slice A (W * H) c] ∧ Reads wr 1 A (W * H) ((paperTo W H la i).map .bool) ∧ (∀ ad, A = some ad → w1.heap.size ≤ ad.block)) (fun u _ => la.length - (RowKit.intOf u).toNat)
  case atStart => exact ⟨0, A0, c0, Nat.zero_le _, rfl, H0.out.1, B3.out, H0.out.2⟩
  case round =>
    clear k1
    obtain ⟨i, A, c, hi, rfl, hbr, hbp, hbg, hgn⟩ := hrel
    by_cases hlt : i < la.length
    · have hg : la[i]? = some la[i] := List.getElem?_eq_getElem hlt
      obtain ⟨a, ha2⟩ : ∃ l, l = la[i] := ⟨_, rfl⟩
      rw [← ha2] at hg
      obtain ⟨ad, e1, j1, j2, j3, j4, j5⟩ := (HFA.out.bl hbr).at_ hg
      subst e1
      obtain ⟨BW, BH, q1, q2, q3, q4, q5, q6⟩ := Hat.out a (List.mem_of_getElem? hg)
      have HAr := Lib.hid (HFA.out.2 a (List.mem_of_getElem? hg))
      have Hst := Lib.hid (paperTo_succ (W := W) (H := H) hg q1 q2)
      have Hbr := Lib.hid hbr; have Hq4 := Lib.hid q4
      obtain ⟨BS, hBS⟩ : ∃ b, b = paperTo W H la i := ⟨_, rfl⟩
      rw [← hBS] at hbg Hst
      have HG := Lib.hid hbg
      rw [q1] at j1
      rw [q2] at j2
      rw [q3] at j3
      clear hg ha2 hbr q1 q2 q4 hBS hbg hgn
      go_upto_region 5 with fail
      obtain ⟨w5, hw5⟩ : ∃ x, x = wr.alloc (.cells #[.int .i64 BW, .int .i64 BH, .slice a.A (BW * BH) a.c, .int .i64 a.X, .int .i64 a.Y] 60) := ⟨_, rfl⟩
      have b5 : Blk w5 wr.heap.size 60 #[.int .i64 BW, .int .i64 BH, .slice a.A (BW * BH) a.c, .int .i64 a.X, .int .i64 a.Y] := by rw [hw5]; exact Blk.new _ _ _
      have hb5 : Bl wr w5 := by rw [hw5]; exact (Bl.refl _).alloc _
      rw [← hw5]
      have k1 := (w11.bl (Hbr.out.trans hb5)).all8
      have k2 := (hbp.bl hb5).all3
      have k3 := b5.all5
      have Hb5 := Lib.hid (Hbr.out.trans hb5)
      have HP := Lib.hid (hbp.bl hb5)
      have hcall := pasteOf_any W H BW BH _ _ BS a.bs a.X a.Y w5 ⟨A, c, rfl, HG.out.bl hb5⟩ ⟨a.A, a.c, rfl, by rw [← q3]; exact HAr.out.bl Hb5.out⟩ (by omega) (by omega) (by have := sizeErr_zero Hq4.out; omega) (by have := sizeErr_zero Hq4.out; omega)
      have Hcall := Lib.hid hcall
      have hple : p < w5.heap.size := HP.out.lt
      clear hw5 b5 hb5 j1 j2 j3 j4 j5 hcall hbp
      go_wp2_with fail
      refine Hcall.out.mono ?_
      rintro e w6 ⟨v6, rfl, ⟨A6, c6, rfl, hg6, hgn6⟩, hb6⟩
      have HP6 := Lib.hid (HP.out.bl hb6)
      have k2 := HP6.out.all3
      have Hb6 := Lib.hid (Hb5.out.trans hb6)
      have HG6 := Lib.hid hg6; have Hgn6 := Lib.hid hgn6; have Hle5 := Lib.hid Hb5.out.le
      clear hg6 hgn6 hb6
      go_wp2_with fail
      refine ⟨⟨i + 1, A6, c6, hlt, by go_num, ((Hb6.out.setCell hpw _).setCell hpw _).setCell hpw _, ((HP6.out.set_ 0 _).set_ 1 _).set_ 2 _, ?_, fun ad h => Nat.le_trans Hle5.out (Hgn6.out ad h)⟩, by simp [RowKit.intOf]; omega⟩
      rw [Hst.out]
      exact ((HG6.out.store Hgn6.out hple _).store Hgn6.out hple _).store Hgn6.out hple _
    · obtain rfl : i = la.length := by omega
      have k2 := hbp.all3
      have B2 := Lib.hid (w12.bl hbr)
      have k3 := B2.out.all3
      have Hbr := Lib.hid (HW1b.out.trans hbr); have HG := Lib.hid hbg; have Hgn := Lib.hid hgn
      have hlt2 := w12.lt
      clear hbr hbp hbg hgn
      go_wp2_with fail
      obtain ⟨wS, hwS⟩ : ∃ x, x = ((wr.setCell ⟨w.heap.size + 1, 0, none⟩ (.int .i64 W)).setCell ⟨w.heap.size + 1, 1, none⟩ (.int .i64 H)).setCell ⟨w.heap.size + 1, 2, none⟩ (.slice A (W * H) c) := ⟨_, rfl⟩
      have bS : Blk wS (w.heap.size + 1) 42 #[.int .i64 W, .int .i64 H, .slice A (W * H) c] := by rw [hwS]; exact ((B2.out.set_ 0 _).set_ 1 _).set_ 2 _
      have bG : Reads wS 1 A (W * H) ((paperTo W H la la.length).map .bool) := by rw [hwS]; exact ((HG.out.store Hgn.out hlt2 _).store Hgn.out hlt2 _).store Hgn.out hlt2 _
      have hS : Bl w wS := by rw [hwS]; exact ((Hbr.out.setCell (Nat.le_succ _) _).setCell (Nat.le_succ _) _).setCell (Nat.le_succ _) _
      rw [← hwS]
      have kF := bS.all3
      refine bodyPost_ret (v := .agg #[.int .i64 W, .int .i64 H, .slice A (W * H) c]) (by simp [results, Tryz.results19, go_sem, kF]) rfl ⟨_, rfl, ⟨A, c, rfl, bG, fun ad h => by have := Hgn.out ad h; omega⟩, hS⟩
end Go.Proofs.YtahfkahfaiidgaaGreatDoor
