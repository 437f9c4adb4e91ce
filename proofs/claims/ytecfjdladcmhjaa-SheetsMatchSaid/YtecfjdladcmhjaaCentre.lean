/- skew.Centre, bedref2.CentreOf and the law's function value. -/
import Derived.Test.YtecfjdladcmhjaaSheet1
import Derived.Test.YtecfjdladcmhjaaPaste3
import Derived.Test.YtecfjdladcmhjaaLib1
import Derived.Test.YtecfjdladcmhjaaFindLaw
namespace Go.Proofs.Ytecfjdladcmhjaa
open Go.RowKit

def centreErr (W H : Int) (k : Nat) (w h : Int) (ink : Bool) : Int := firstNZ [pageErr W H k, sizeErr w h, whenI (!ink) 10]
theorem centreErr_zero {W H : Int} {k : Nat} {w h : Int} {ink : Bool} (e : centreErr W H k w h ink = 0) : pageErr W H k = 0 ∧ sizeErr w h = 0 ∧ ink = true := by
  unfold centreErr at e
  by_cases h1 : pageErr W H k = 0
  · by_cases h2 : sizeErr w h = 0
    · cases ink
      · simp only [firstNZ, if_pos h1, if_pos h2, whenI, Bool.not_false, if_true] at e
        simp at e
      · exact ⟨h1, h2, rfl⟩
    · simp only [firstNZ, if_pos h1, if_neg h2] at e; exact absurd e h2
  · simp only [firstNZ, if_neg h1] at e; exact absurd e h1
/-- The page in the middle. -/
def centreF (bs : List Bool) (W X Y BW BH w h : Nat) (x y : Nat) : Bool := movedF (grid BW BH (cutF bs W X Y)) BW BH (((w : Int) - BW) / 2) (((h : Int) - BH) / 2) x y

set_option maxRecDepth 100000 in
set_option maxHeartbeats 4000000 in
theorem centreOf_any (W H w' h' : Nat) (A : Option Addr) (ac : Nat) (bs : List Bool) (X Y BW BH : Nat) (w : World) (hA : Reads w 1 A (W * H) (bs.map .bool)) (hW : W ≤ 4000) (hH : H ≤ 4000) (hw : w' ≤ 4000) (hh : h' ≤ 4000) (hb : BoundsIs bs W H true X Y BW BH) :
    Calls Try.prog 19 #[.agg #[.int .i64 W, .int .i64 H, .slice A (W * H) ac], .int .i64 w', .int .i64 h'] w fun e w2 => ∃ R rc, e = .returned (.agg #[.int .i64 w', .int .i64 h', .slice R (w' * h') rc]) ∧ Reads w2 1 R (w' * h') ((grid w' h' (centreF bs W X Y BW BH w' h')).map .bool) ∧ (∀ ad, R = some ad → w.heap.size + 2 ≤ ad.block) ∧ Bl w w2 := by
  let w2 := ((w).alloc (.cells #[.int .i64 W, .int .i64 H, .slice A (W * H) ac] 27)).alloc (.cells #[.int .i64 0, .int .i64 0, .slice none 0 0] 27)
  have w2b : Bl w w2 := ((Bl.refl w).alloc _).alloc _
  have w21 : Blk w2 (w.heap.size) 27 #[.int .i64 W, .int .i64 H, .slice A (W * H) ac] := by
    have h0 := Blk.new (w) 27 #[.int .i64 W, .int .i64 H, .slice A (W * H) ac]
    exact (h0.alloc _)
  have w22 : Blk w2 (w.heap.size + 1) 27 #[.int .i64 0, .int .i64 0, .slice none 0 0] := by
    have h0 := Blk.new ((w).alloc (.cells #[.int .i64 W, .int .i64 H, .slice A (W * H) ac] 27)) 27 #[.int .i64 0, .int .i64 0, .slice none 0 0]
    simp only [World.size_alloc] at h0
    exact h0
  have k1 := w21.all3
  have lw2 : w2.heap.size = w.heap.size + 2 := by simp [w2]
  have HA := Lib.hid (hA.bl w2b)
  have hbd := hb.bd
  have hbx := hbd.2.2.2.2 rfl
  have Hb := Lib.hid hb
  have hBW : BW ≤ 4000 := by omega
  have hBH : BH ≤ 4000 := by omega
  have hX : X + BW ≤ W := by omega
  have hY : Y + BH ≤ H := by omega
  clear hA hb hbd hbx
  go_enter Try.func19, Try.ntmps19
  go_wp2_with fail
  refine (boundsOf_any W H A ac bs _ HA.out hW hH).mono ?_
  rintro e w3 ⟨oX, oY, oW, oH, is, rfl, hbi, hb3⟩
  obtain ⟨rfl, rfl, rfl, rfl, rfl⟩ := Hb.out.same hbi
  have hb4 : Bl w2 (w3.alloc (.cells #[.int .i64 X, .int .i64 Y, .int .i64 BW, .int .i64 BH] 29)) := hb3.alloc _
  have b4 := Blk.new w3 29 #[.int .i64 X, .int .i64 Y, .int .i64 BW, .int .i64 BH]
  clear hbi k1
  go_upto_region 2 with fail
  generalize hw4 : w3.alloc (.cells #[.int .i64 X, .int .i64 Y, .int .i64 BW, .int .i64 BH] 29) = w4 at hb4 b4 ⊢
  have k4 := b4.all4
  have k5 := (w21.bl hb4).all3
  clear hw4 hb3
  refine wp_region_flow [(true, 0), (true, 1), (true, 3), (true, 4), (true, 5), (true, 6), (true, 7), (true, 8), (true, 10), (true, 11), (true, 12), (true, 13), (false, 2), (false, 9), (false, 14), (false, 15), (false, 16)] (fun i => i == 16) (by kernel_rfl) (by kernel_rfl) (by kernel_rfl) (by kernel_rfl) ?_
  iterate 2
    apply Flow.calm2 _ _ rfl rfl
    · intro w' hb' K' hK'
      obtain ⟨hc', hf'⟩ := hb'.rule
      go_simp
      try go_ints
      exact hK'
    · intro K' hK'
      simp only [Act.put, List.setIfInBounds_toArray, List.set_cons_zero, List.set_cons_succ]
      exact hK'
  iterate 3
    apply Flow.mv _ rfl
    · intro K' hK'
      simp only [Act.put, Act.eval, List.setIfInBounds_toArray, List.set_cons_zero, List.set_cons_succ, arr_getD, List.getD_cons_zero, List.getD_cons_succ]
      exact hK'
  iterate 1
    apply Flow.calm2 _ _ rfl rfl
    · intro w' hb' K' hK'
      obtain ⟨hc', hf'⟩ := hb'.rule
      go_simp
      try go_ints
      exact hK'
    · intro K' hK'
      simp only [Act.put, List.setIfInBounds_toArray, List.set_cons_zero, List.set_cons_succ]
      exact hK'
  iterate 1
    apply Flow.calm2 _ _ rfl rfl
    · intro w' hb' K' hK'
      obtain ⟨hc', hf'⟩ := hb'.rule
      go_simp
      try go_ints
      exact hK'
    · intro K' hK'
      simp only [Act.put, List.setIfInBounds_toArray, List.set_cons_zero, List.set_cons_succ]
      exact hK'
  iterate 1
    apply Flow.calm2 _ _ rfl rfl
    · intro w' hb' K' hK'
      obtain ⟨hc', hf'⟩ := hb'.rule
      go_simp
      try go_ints
      exact hK'
    · intro K' hK'
      simp only [Act.put, List.setIfInBounds_toArray, List.set_cons_zero, List.set_cons_succ]
      exact hK'
  iterate 1
    apply Flow.mv _ rfl
    · intro K' hK'
      simp only [Act.put, Act.eval, List.setIfInBounds_toArray, List.set_cons_zero, List.set_cons_succ, arr_getD, List.getD_cons_zero, List.getD_cons_succ]
      exact hK'
  iterate 1
    apply Flow.calm2 _ _ rfl rfl
    · intro w' hb' K' hK'
      obtain ⟨hc', hf'⟩ := hb'.rule
      go_simp
      try go_ints
      exact hK'
    · intro K' hK'
      simp only [Act.put, List.setIfInBounds_toArray, List.set_cons_zero, List.set_cons_succ]
      exact hK'
  iterate 1
    apply Flow.calm2 _ _ rfl rfl
    · intro w' hb' K' hK'
      obtain ⟨hc', hf'⟩ := hb'.rule
      go_simp
      try go_ints
      exact hK'
    · intro K' hK'
      simp only [Act.put, List.setIfInBounds_toArray, List.set_cons_zero, List.set_cons_succ]
      exact hK'
  iterate 1
    apply Flow.calm2 _ _ rfl rfl
    · intro w' hb' K' hK'
      obtain ⟨hc', hf'⟩ := hb'.rule
      go_simp
      try go_ints
      exact hK'
    · intro K' hK'
      simp only [Act.put, List.setIfInBounds_toArray, List.set_cons_zero, List.set_cons_succ]
      exact hK'
  apply Flow.move rfl
  go_wp2_with fail
  refine (cutOf_any W H X Y BW BH A ac bs _ (HA.out.bl hb4.drew) hW hH hX hY).mono ?_
  rintro e w5 ⟨R, rc, rfl, hR, hRn, HB1⟩
  have hb5 : Bl w4 w5 := Bl.ofDrew HB1
  go_wp2_with fail
  refine ⟨fun _ => (by first | exact HB1 | exact Bl.refl _), ?_⟩
  apply Flow.move rfl
  go_wp2_with fail
  refine (down_any _ _ _ (by omega) (by omega) (by omega) (by omega)).mono ?_
  rintro e w' ⟨rfl, rfl⟩
  go_wp2_with fail
  refine ⟨fun _ => (by first | exact HB2 | exact Bl.refl _), ?_⟩
  apply Flow.move rfl
  go_wp2_with fail
  refine (down_any _ _ _ (by omega) (by omega) (by omega) (by omega)).mono ?_
  rintro e w' ⟨rfl, rfl⟩
  go_wp2_with fail
  refine ⟨fun _ => (by first | exact HB3 | exact Bl.refl _), ?_⟩
  apply Flow.move rfl
  go_wp2_with fail
  refine (movedOf_any BW BH w' h' R rc (grid BW BH (cutF bs W X Y)) (((w' : Int) - BW) / 2) (((h' : Int) - BH) / 2) w5 hR hBW hBH hw hh (by omega) (by omega)).mono ?_
  rintro e w6 ⟨R2, rc2, rfl, hR2, hRn2, HB4⟩
  have hb6 : Bl w2 w6 := (hb4.trans hb5).trans HB4
  have k6 := (w22.bl hb6).all3
  have hle6 := w2b.trans hb6
  have hRn' : ∀ ad, R2 = some ad → w.heap.size + 2 ≤ ad.block := fun ad h => by have h1 := hRn2 ad h; have h2 := (hb4.trans hb5).le; omega
  have HR := Lib.hid hR2; have HRn := Lib.hid hRn'
  clear hR2 hRn' hRn2 hRn hR
  go_wp2_with fail
  refine ⟨fun _ => (by first | exact HB4 | exact Bl.refl _), ?_⟩
  refine Flow.tail _ rfl ?_
  go_wp2_with fail
  refine bodyPost_ret (v := .agg #[.int .i64 w', .int .i64 h', .slice R2 (w' * h') rc2]) (by simp [results, Try.results19, go_sem, k6]) rfl ⟨R2, rc2, rfl, ?_, HRn.out, ?_⟩
  · exact ((HR.out.store HRn.out (by simp) _).store HRn.out (by simp) _).store HRn.out (by simp) _
  · exact (((hle6.setCell (by simp) _).setCell (by simp) _).setCell (by simp) _)

end Go.Proofs.Ytecfjdladcmhjaa
