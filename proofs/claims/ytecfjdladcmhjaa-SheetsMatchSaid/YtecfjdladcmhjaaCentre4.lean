/- skew.Centre: the page in the middle. -/
import Derived.Test.YtecfjdladcmhjaaCentre3
namespace Go.Proofs.Ytecfjdladcmhjaa
open Go.RowKit

theorem centre_paste (bs : List Bool) (W X Y BW BH w h : Nat) : grid w h (pasteF (List.replicate (w * h) false) (grid BW BH (cutF bs W X Y)) w h BW BH (((w : Int) - BW) / 2) (((h : Int) - BH) / 2)) = grid w h (centreF bs W X Y BW BH w h) := by
  apply grid_congr
  intro x y hx hy
  rw [pasteF_near hx hy (blank_pix w h x y)]
  rfl

set_option maxRecDepth 100000 in
set_option maxHeartbeats 4000000 in
theorem centre_ok (W H w' h' : Nat) (A : Option Addr) (ac : Nat) (bs : List Bool) (w : World) (hA : Reads w 1 A (W * H) (bs.map .bool)) (hp : pageErr W H (W * H) = 0) (hs : sizeErr w' h' = 0) (hi : inkB bs (W * H) = true) :
    Calls Try.prog 14 #[.agg #[.int .i64 W, .int .i64 H, .slice A (W * H) ac], .int .i64 w', .int .i64 h'] w fun e w2 => ∃ v, e = .returned (.tuple #[v, .int .i64 0]) ∧
      (∃ X Y BW BH : Nat, BoundsIs bs W H true X Y BW BH ∧ NPage w.heap.size w2 v w' h' ((grid w' h' (centreF bs W X Y BW BH w' h')).map .bool)) ∧ Bl w w2 := by
  let w2 := ((w).alloc (.cells #[.int .i64 W, .int .i64 H, .slice A (W * H) ac] 27)).alloc (.cells #[.int .i64 0, .int .i64 0, .slice none 0 0] 27)
  have w2b : Bl w w2 := ((Bl.refl w).alloc _).alloc _
  have w21 : Blk w2 (w.heap.size) 27 #[.int .i64 W, .int .i64 H, .slice A (W * H) ac] := by
    have h0 := Blk.new (w) 27 #[.int .i64 W, .int .i64 H, .slice A (W * H) ac]
    exact (h0.alloc _)
  have w22 : Blk w2 (w.heap.size + 1) 27 #[.int .i64 0, .int .i64 0, .slice none 0 0] := by
    have h0 := Blk.new ((w).alloc (.cells #[.int .i64 W, .int .i64 H, .slice A (W * H) ac] 27)) 27 #[.int .i64 0, .int .i64 0, .slice none 0 0]
    simp only [World.size_alloc] at h0
    exact h0
  have k1 := w21.all3
  have HA := Lib.hid (hA.bl w2b)
  have hz := sizeErr_zero hs
  have hz2 := sizeErr_zero (pageErr_zero hp).1
  have u : W ≤ 4000 ∧ H ≤ 4000 ∧ w' ≤ 4000 ∧ h' ≤ 4000 := by omega
  have Hs := Lib.hid hs; have Hp := Lib.hid hp; have Hi := Lib.hid hi
  have lw2 : w2.heap.size = w.heap.size + 2 := by simp [w2]
  clear hA hz hz2 hs hi
  go_enter Try.func14, Try.ntmps14
  go_wp2_with fail
  refine (checkBits_any _ _ _ _ _ _).mono ?_
  rintro e w3 ⟨rfl, hb3⟩
  go_wp2_with fail
  refine (blank_ok w' h' _ Hs.out).mono ?_
  rintro e w4 ⟨g, rfl, hg, hb4⟩
  have hb5 : Bl w2 (w4.alloc (.cells #[.int .i64 w', .int .i64 h', .slice (some ⟨g, 0, none⟩) (w' * h') (w' * h')] 27)) := (hb3.trans hb4).alloc _
  have b5 := Blk.new w4 27 #[.int .i64 w', .int .i64 h', .slice (some ⟨g, 0, none⟩) (w' * h') (w' * h')]
  have hg5 := (hg.alloc (.cells #[.int .i64 w', .int .i64 h', .slice (some ⟨g, 0, none⟩) (w' * h') (w' * h')] 27)).reads (w' * h') 1 (by simp)
  go_upto_region 5 with fail
  generalize hw5 : w4.alloc (.cells #[.int .i64 w', .int .i64 h', .slice (some ⟨g, 0, none⟩) (w' * h') (w' * h')] 27) = w5 at hb5 b5 hg5 ⊢
  have k5 := (w21.bl hb5).all3
  have hgr : Reads w5 1 (some ⟨g, 0, none⟩) (w' * h') ((List.replicate (w' * h') false).map .bool) := by simpa using hg5
  have Hg := Lib.hid hgr
  clear hw5 hb3 hb4 hg hg5 hgr k1
  go_wp2_with fail
  refine (bounds_any W H A (W * H) ac bs _ (HA.out.bl hb5)).mono ?_
  rintro e w6 ⟨oX, oY, oW, oH, err, rfl, _, h2, hb6⟩
  obtain ⟨is, hbi, hie⟩ := h2 Hp.out
  simp only [Int.toNat_natCast] at hbi
  have his : is = true := (inkB_is hbi).trans Hi.out
  subst his
  have herr : err = 0 := hie
  subst herr
  have hbd := hbi.bd
  obtain ⟨X, rfl⟩ := Int.eq_ofNat_of_zero_le hbd.1.1
  obtain ⟨Y, rfl⟩ := Int.eq_ofNat_of_zero_le hbd.2.1.1
  obtain ⟨BW, rfl⟩ := Int.eq_ofNat_of_zero_le hbd.2.2.1.1
  obtain ⟨BH, rfl⟩ := Int.eq_ofNat_of_zero_le hbd.2.2.2.1.1
  have hbx := hbd.2.2.2.2 rfl
  have hcut : cutErr W H (W * H) X Y BW BH = 0 := by
    unfold cutErr
    have : inPageB X Y BW BH W H = true := by unfold inPageB; exact decide_eq_true (by omega)
    rw [Hp.out, this]; rfl
  have bB : BW ≤ 4000 ∧ BH ≤ 4000 ∧ 1 ≤ BW ∧ 1 ≤ BH ∧ X + BW ≤ W ∧ Y + BH ≤ H := by omega
  have hse : sizeErr BW BH = 0 := by
    have h1 := sizeErr_zero (pageErr_zero Hp.out).1
    have h2 := Nat.mul_le_mul (show BW ≤ W by omega) (show BH ≤ H by omega)
    have h3 := Int.natCast_mul BW BH
    have h4 := Int.natCast_mul W H
    unfold sizeErr
    rw [if_pos (by omega), if_neg (by omega)]
  have Hbi := Lib.hid hbi; have Hcut := Lib.hid hcut; have Hse := Lib.hid hse
  have hb7 : Bl w2 (w6.alloc (.cells #[.int .i64 X, .int .i64 Y, .int .i64 BW, .int .i64 BH] 29)) := (hb5.trans hb6).alloc _
  have hb57 : Bl w5 (w6.alloc (.cells #[.int .i64 X, .int .i64 Y, .int .i64 BW, .int .i64 BH] 29)) := hb6.alloc _
  have b7 := Blk.new w6 29 #[.int .i64 X, .int .i64 Y, .int .i64 BW, .int .i64 BH]
  clear h2 hbi hie hbd hbx hcut hse
  go_upto_region 8 with fail
  generalize hw7 : w6.alloc (.cells #[.int .i64 X, .int .i64 Y, .int .i64 BW, .int .i64 BH] 29) = w7 at hb7 hb57 b7 ⊢
  have k7 := (w21.bl hb7).all3
  have k8 := b7.all4
  have cc := cut_any W H A (W * H) ac bs X Y BW BH w7 (HA.out.bl hb7)
  rw [Hcut.out] at cc
  have Cc := Lib.hid cc
  clear hw7 hb6 k5 cc
  go_wp2_with fail
  refine Cc.out.mono ?_
  rintro e w8 ⟨a, b, R, m, d, rfl, hres, hb8⟩
  have hb9 : Bl w7 (w8.alloc (.cells #[.int .i64 a, .int .i64 b, .slice R m d] 27)) := hb8.alloc _
  have b9 := Blk.new w8 27 #[.int .i64 a, .int .i64 b, .slice R m d]
  have hC := (hres.1 rfl).is.bl ((Bl.refl w8).alloc (.cells #[.int .i64 a, .int .i64 b, .slice R m d] 27))
  simp only [Int.toNat_natCast] at hC
  have HC := Lib.hid hC
  clear hres hC k7 k8
  go_upto_region 11 with fail
  generalize hw9 : w8.alloc (.cells #[.int .i64 a, .int .i64 b, .slice R m d] 27) = w9 at hb9 b9 HC ⊢
  have k9 := b9.all3
  have k10 := (b7.bl hb9).all4
  have k11 := (b5.bl (hb57.trans hb9)).all3
  have hb59 := hb57.trans hb9
  clear hw9 hb8
  refine wp_region_flow [(true, 0), (true, 1), (true, 2), (true, 3), (true, 4), (true, 5), (true, 7), (true, 8), (true, 9), (true, 10), (false, 6), (false, 11), (false, 12), (true, 13), (true, 14), (false, 15), (true, 16)] (fun i => i == 15) (by kernel_rfl) (by kernel_rfl) (by kernel_rfl) (by kernel_rfl) ?_
  iterate 2
    apply Flow.calm2 _ _ rfl rfl
    · intro w' hb' K' hK'
      obtain ⟨hc', hf'⟩ := hb'.rule
      go_simp
      try go_ints
      exact hK'
    · intro K' hK'
      simp only [Act.put, List.setIfInBounds_toArray, List.set_cons_zero, List.set_cons_succ]
      exact hK'
  iterate 1
    apply Flow.mv _ rfl
    · intro K' hK'
      simp only [Act.put, Act.eval, List.setIfInBounds_toArray, List.set_cons_zero, List.set_cons_succ, arr_getD, List.getD_cons_zero, List.getD_cons_succ]
      exact hK'
  iterate 1
    apply Flow.calm2 _ _ rfl rfl
    · intro w' hb' K' hK'
      obtain ⟨hc', hf'⟩ := hb'.rule
      go_simp
      try go_ints
      exact hK'
    · intro K' hK'
      simp only [Act.put, List.setIfInBounds_toArray, List.set_cons_zero, List.set_cons_succ]
      exact hK'
  iterate 1
    apply Flow.calm2 _ _ rfl rfl
    · intro w' hb' K' hK'
      obtain ⟨hc', hf'⟩ := hb'.rule
      go_simp
      try go_ints
      exact hK'
    · intro K' hK'
      simp only [Act.put, List.setIfInBounds_toArray, List.set_cons_zero, List.set_cons_succ]
      exact hK'
  iterate 1
    apply Flow.calm2 _ _ rfl rfl
    · intro w' hb' K' hK'
      obtain ⟨hc', hf'⟩ := hb'.rule
      go_simp
      try go_ints
      exact hK'
    · intro K' hK'
      simp only [Act.put, List.setIfInBounds_toArray, List.set_cons_zero, List.set_cons_succ]
      exact hK'
  iterate 1
    apply Flow.mv _ rfl
    · intro K' hK'
      simp only [Act.put, Act.eval, List.setIfInBounds_toArray, List.set_cons_zero, List.set_cons_succ, arr_getD, List.getD_cons_zero, List.getD_cons_succ]
      exact hK'
  iterate 1
    apply Flow.calm2 _ _ rfl rfl
    · intro w' hb' K' hK'
      obtain ⟨hc', hf'⟩ := hb'.rule
      go_simp
      try go_ints
      exact hK'
    · intro K' hK'
      simp only [Act.put, List.setIfInBounds_toArray, List.set_cons_zero, List.set_cons_succ]
      exact hK'
  iterate 1
    apply Flow.calm2 _ _ rfl rfl
    · intro w' hb' K' hK'
      obtain ⟨hc', hf'⟩ := hb'.rule
      go_simp
      try go_ints
      exact hK'
    · intro K' hK'
      simp only [Act.put, List.setIfInBounds_toArray, List.set_cons_zero, List.set_cons_succ]
      exact hK'
  iterate 1
    apply Flow.calm2 _ _ rfl rfl
    · intro w' hb' K' hK'
      obtain ⟨hc', hf'⟩ := hb'.rule
      go_simp
      try go_ints
      exact hK'
    · intro K' hK'
      simp only [Act.put, List.setIfInBounds_toArray, List.set_cons_zero, List.set_cons_succ]
      exact hK'
  apply Flow.move rfl
  go_wp2_with fail
  refine (floor_any _ _ _ (by omega) (by omega) (by omega) (by omega)).mono ?_
  rintro e w' ⟨rfl, rfl⟩
  go_wp2_with fail
  refine ⟨fun _ => (by first | exact HB1 | exact Bl.refl _), ?_⟩
  apply Flow.move rfl
  go_wp2_with fail
  refine (floor_any _ _ _ (by omega) (by omega) (by omega) (by omega)).mono ?_
  rintro e w' ⟨rfl, rfl⟩
  go_wp2_with fail
  refine ⟨fun _ => (by first | exact HB2 | exact Bl.refl _), ?_⟩
  apply Flow.move rfl
  go_wp2_with fail
  refine (paste_ok w' h' BW BH _ _ (List.replicate (w' * h') false) (grid BW BH (cutF bs W X Y)) (((w' : Int) - BW) / 2) (((h' : Int) - BH) / 2) w9.drew ⟨_, _, rfl, (Hg.out.bl hb59).bl (Bl.refl _).drew⟩ (HC.out.bl (Bl.refl _).drew) Hs.out Hse.out (by omega) (by omega)).mono ?_
  rintro e w10 ⟨v, rfl, hpg, HB3⟩
  have hpg' := hpg
  rw [centre_paste] at hpg'
  obtain ⟨R2, d2, rfl, hR2, hRn2⟩ := hpg'
  have hb10 : Bl w9 w10 := Bl.ofDrew HB3
  have k12 := (w22.bl ((hb7.trans hb9).trans hb10)).all3
  have hsz : w.heap.size + 2 ≤ w9.heap.size := by have h1 := (hb7.trans hb9).le; omega
  have hRn : ∀ ad, R2 = some ad → w.heap.size + 2 ≤ ad.block := fun ad h => by have h1 := hRn2 ad h; have h2 : w9.drew.heap.size = w9.heap.size := rfl; omega
  have HR := Lib.hid hR2; have HRn := Lib.hid hRn
  have hle := ((w2b.trans hb7).trans hb9).trans hb10
  clear hpg hR2 hRn2 hRn
  go_wp2_with fail
  refine ⟨fun _ => (by first | exact HB3 | exact Bl.refl _), ?_⟩
  iterate 2
    apply Flow.calm2 _ _ rfl rfl
    · intro w' hb' K' hK'
      obtain ⟨hc', hf'⟩ := hb'.rule
      go_simp
      try go_ints
      exact hK'
    · intro K' hK'
      simp only [Act.put, List.setIfInBounds_toArray, List.set_cons_zero, List.set_cons_succ]
      exact hK'
  apply Flow.move rfl
  go_wp2_with fail
  skip
  go_wp2_with fail
  refine ⟨fun hcl => absurd hcl (by decide), ?_⟩
  iterate 1
    apply Flow.asg _ rfl
    · intro K' hK'
      simp only [Act.put, Act.eval, List.setIfInBounds_toArray, List.set_cons_zero, List.set_cons_succ, arr_getD, List.getD_cons_zero, List.getD_cons_succ]
      exact hK'
  refine Flow.done ?_
  go_wp2_with fail
  refine bodyPost_ret (v := .tuple #[.agg #[.int .i64 w', .int .i64 h', .slice R2 (w' * h') d2], .int .i64 0]) (by simp [results, Try.results14, go_sem, k12]) rfl ⟨_, rfl, ⟨X, Y, BW, BH, Hbi.out, R2, d2, rfl, ?_, fun ad h => by have := HRn.out ad h; omega⟩, ?_⟩
  · exact ((HR.out.store HRn.out (by simp) _).store HRn.out (by simp) _).store HRn.out (by simp) _
  · exact (((hle.setCell (by simp) _).setCell (by simp) _).setCell (by simp) _)

end Go.Proofs.Ytecfjdladcmhjaa
