/- The law on ink, and how much of it. -/
import Derived.Test.YtccgncjncklheaaCount3
import Derived.Test.YtccgncjncklheaaCut
import Derived.Test.YtccgncjncklheaaInkOf
import Derived.Test.YtccgncjncklheaaDiffer
import Derived.Test.YtccgncjncklheaaLawLeans
import Derived.Deep.CutRange
import Derived.Deep.Light
namespace Go.Proofs.Ytccgncjncklheaa
open Go.RowKit

theorem cntV_set {zs : List Int} {i a g : Nat} {t : TypeId} {w : World} (hb : Blk w g t (tabI 256 fun k => ((cntV zs i k : Nat) : Int))) (hv : valOf zs i = (a : Int)) :
    Blk (w.setCell ⟨g, a, none⟩ (.int .i64 (((cntV zs i a : Nat) : Int) + 1))) g t (tabI 256 fun k => ((cntV zs (i + 1) k : Nat) : Int)) :=
  hb.tabSet a _ (fun k hk => by
    rw [cntV_succ zs i k, hv]
    by_cases e : k = a
    · subst e; simp [b1]
    · have : ¬ ((a : Int) = (k : Int)) := by omega
      simp [e, this, b1])
theorem val_nat {zs : List Int} (hz : Bytes zs) (i : Nat) : ∃ a : Nat, valOf zs i = (a : Int) ∧ a < 256 := by
  have h := hz.at i
  obtain ⟨a, ha⟩ := Int.eq_ofNat_of_zero_le h.1
  exact ⟨a, ha, by omega⟩
theorem Reads.valAt {w : World} {A : Option Addr} {n i : Nat} {zs : List Int} (h : Reads w 1 A n (zs.map (.int .u8))) (hi : i < n) : ∃ ad, A = some ad ∧ w.cell? (ad.add i) = some (.int .u8 (valOf zs i)) := by
  obtain ⟨ad, ua, eA, hu, hca⟩ := h.at_ hi
  have hl : zs.length = n := by have := h.1; simpa using this
  have hua : ua = .int .u8 (valOf zs i) := by simpa [valOf, List.getD, hl, hi] using hu.symm
  exact ⟨ad, eA, by rw [hca, hua]⟩
theorem page_small {W H : Int} {n : Nat} (h : pageErr W H n = 0) : n ≤ 1048576 := by
  obtain ⟨W, H, rfl, rfl, rfl, u1, u2, u3⟩ := page_nat h
  exact u3

set_option maxRecDepth 100000 in
set_option maxHeartbeats 40000000 in
theorem lawCounts_any (gW gH bW bH cW cH : Int) (G A C : Option Addr) (gn gc an ac cn cc : Nat) (zs : List Int) (bs cs : List Bool) (level X Y BW BH : Int) (w : World)
    (hG : Reads w 1 G gn (zs.map (.int .u8))) (hz : Bytes zs) (hA : Reads w 1 A an (bs.map .bool)) (hC : Reads w 1 C cn (cs.map .bool)) :
    Calls Try.prog 8 #[.agg #[.int .i64 gW, .int .i64 gH, .slice G gn gc], .agg #[.int .i64 bW, .int .i64 bH, .slice A an ac], .agg #[.int .i64 cW, .int .i64 cH, .slice C cn cc], .int .i64 level, .agg #[.int .i64 X, .int .i64 Y, .int .i64 BW, .int .i64 BH]] w
      fun e w' => e = .returned (.bool true) ∧ Bl w w' := by
  let w5 := (((((w).alloc (.cells #[.int .i64 gW, .int .i64 gH, .slice G gn gc] 24)).alloc (.cells #[.int .i64 bW, .int .i64 bH, .slice A an ac] 39)).alloc (.cells #[.int .i64 cW, .int .i64 cH, .slice C cn cc] 39)).alloc (.cells #[.int .i64 level] 3)).alloc (.cells #[.int .i64 X, .int .i64 Y, .int .i64 BW, .int .i64 BH] 78)
  have w5b : Bl w w5 := (((((Bl.refl w).alloc _).alloc _).alloc _).alloc _).alloc _
  have w51 : Blk w5 (w.heap.size) 24 #[.int .i64 gW, .int .i64 gH, .slice G gn gc] := by
    have h0 := Blk.new (w) 24 #[.int .i64 gW, .int .i64 gH, .slice G gn gc]
    exact ((((h0.alloc _).alloc _).alloc _).alloc _)
  have w52 : Blk w5 (w.heap.size + 1) 39 #[.int .i64 bW, .int .i64 bH, .slice A an ac] := by
    have h0 := Blk.new ((w).alloc (.cells #[.int .i64 gW, .int .i64 gH, .slice G gn gc] 24)) 39 #[.int .i64 bW, .int .i64 bH, .slice A an ac]
    simp only [World.size_alloc] at h0
    exact (((h0.alloc _).alloc _).alloc _)
  have w53 : Blk w5 (w.heap.size + 1 + 1) 39 #[.int .i64 cW, .int .i64 cH, .slice C cn cc] := by
    have h0 := Blk.new (((w).alloc (.cells #[.int .i64 gW, .int .i64 gH, .slice G gn gc] 24)).alloc (.cells #[.int .i64 bW, .int .i64 bH, .slice A an ac] 39)) 39 #[.int .i64 cW, .int .i64 cH, .slice C cn cc]
    simp only [World.size_alloc] at h0
    exact ((h0.alloc _).alloc _)
  have w54 : Blk w5 (w.heap.size + 1 + 1 + 1) 3 #[.int .i64 level] := by
    have h0 := Blk.new ((((w).alloc (.cells #[.int .i64 gW, .int .i64 gH, .slice G gn gc] 24)).alloc (.cells #[.int .i64 bW, .int .i64 bH, .slice A an ac] 39)).alloc (.cells #[.int .i64 cW, .int .i64 cH, .slice C cn cc] 39)) 3 #[.int .i64 level]
    simp only [World.size_alloc] at h0
    exact (h0.alloc _)
  have w55 : Blk w5 (w.heap.size + 1 + 1 + 1 + 1) 78 #[.int .i64 X, .int .i64 Y, .int .i64 BW, .int .i64 BH] := by
    have h0 := Blk.new (((((w).alloc (.cells #[.int .i64 gW, .int .i64 gH, .slice G gn gc] 24)).alloc (.cells #[.int .i64 bW, .int .i64 bH, .slice A an ac] 39)).alloc (.cells #[.int .i64 cW, .int .i64 cH, .slice C cn cc] 39)).alloc (.cells #[.int .i64 level] 3)) 78 #[.int .i64 X, .int .i64 Y, .int .i64 BW, .int .i64 BH]
    simp only [World.size_alloc] at h0
    exact h0
  have HG := Lib.hid (hG.bl w5b); have HA := Lib.hid (hA.bl w5b); have HC := Lib.hid (hC.bl w5b); have Hz := Lib.hid hz
  clear hG hA hC hz
  have k1 := w51.all3
  have hmk0 := run_make_row' (P := Try.prog) 25 3 (.int .i64 0) 8 Try.underlying25 info_int rfl .i64 .i64 256 (by omega) (by omega)
  rw [tabI_made] at hmk0
  simp only [show ((256 : Nat) : Int) = 256 from rfl] at hmk0
  have Hmk := Lib.hid hmk0
  clear hmk0
  go_enter Try.func8, Try.ntmps8
  go_upto_region 1 with fail
  go_cut [54] from 31 to 54 (fun s54 wc => (∃ b, s54 = .bool b) ∧ Bl w5 wc)
  case first =>
    go_wp2_with fail
    refine (grayError_any _ _ _ _ _ _).mono ?_
    rintro e w6 ⟨rfl, hb6⟩
    have k1 := (w51.bl hb6).all3
    have k2 := (w52.bl hb6).all3
    by_cases hg : pageErr gW gH gn = 0
    · have hg1 : (pageErr gW gH gn == 0) = true := by simp [hg]
      have Hg := Lib.hid hg; clear hg
      cases hs1 : smallB gW gH
      · have Hs1 := Lib.hid hs1; clear hs1
        go_wp2_with (go_at_call 21; refine (small_any _ _ _).mono ?_; rintro e w' ⟨rfl, rfl⟩; rw [Hs1.out])
        go_meet
        case rel => exact ⟨⟨_, rfl⟩, hb6⟩
      · have Hs1 := Lib.hid hs1; clear hs1
        go_wp2_with (first | (go_at_call 21; refine (small_any _ _ _).mono ?_; rintro e w' ⟨rfl, rfl⟩; rw [Hs1.out]))
        refine (bitsError_any _ _ _ _ _ _).mono ?_
        rintro e w7 ⟨rfl, hb7⟩
        have k3 := (w52.bl (hb6.trans hb7)).all3
        by_cases hp : pageErr bW bH an = 0
        · have hp1 : (pageErr bW bH an == 0) = true := by simp [hp]
          have Hp := Lib.hid hp; clear hp
          go_wp2_with (go_at_call 21; refine (small_any _ _ _).mono ?_; rintro e w' ⟨rfl, rfl⟩)
          go_meet
          case rel => exact ⟨⟨_, rfl⟩, hb6.trans hb7⟩
        · have hp1 : (pageErr bW bH an == 0) = false := by simp [hp]
          have Hp := Lib.hid hp; clear hp
          go_wp2_with fail
          go_meet
          case rel => exact ⟨⟨_, rfl⟩, hb6.trans hb7⟩
    · have hg1 : (pageErr gW gH gn == 0) = false := by simp [hg]
      have Hg := Lib.hid hg; clear hg
      go_wp2_with fail
      refine (bitsError_any _ _ _ _ _ _).mono ?_
      rintro e w7 ⟨rfl, hb7⟩
      have k3 := (w52.bl (hb6.trans hb7)).all3
      by_cases hp : pageErr bW bH an = 0
      · have hp1 : (pageErr bW bH an == 0) = true := by simp [hp]
        have Hp := Lib.hid hp; clear hp
        go_wp2_with (go_at_call 21; refine (small_any _ _ _).mono ?_; rintro e w' ⟨rfl, rfl⟩)
        go_meet
        case rel => exact ⟨⟨_, rfl⟩, hb6.trans hb7⟩
      · have hp1 : (pageErr bW bH an == 0) = false := by simp [hp]
        have Hp := Lib.hid hp; clear hp
        go_wp2_with fail
        go_meet
        case rel => exact ⟨⟨_, rfl⟩, hb6.trans hb7⟩
  case rest =>
    obtain ⟨⟨big, rfl⟩, hbc⟩ := hcut
    clear k1
    cases big
    case true =>
      go_wp2_with fail
      refine (pages_any _).mono ?_
      rintro e w6 ⟨rfl, hb6⟩
      go_wp2_with fail
      go_ret
      exact ⟨rfl, (w5b.trans hbc).trans hb6⟩
    case false =>
      have k1 := (w51.bl hbc).all3
      have k2 := (w52.bl hbc).all3
      obtain ⟨E1, hE1⟩ : ∃ E, E = lvlErr gW gH gn level := ⟨_, rfl⟩
      have hf1 : firstNZ [pageErr gW gH gn, whenI (!inB level 0 256) 3] = E1 := hE1.symm
      have c1 := fun w h => toBits_any gW gH G gn gc zs level w h Hz.out
      rw [← hE1] at c1
      have C1 := Lib.hid c1; have HE1 := Lib.hid hE1
      clear c1 hE1
      go_upto_region 3 with fail
      refine wp_region_flow [(true, 0), (true, 2), (false, 1), (false, 3), (true, 4), (true, 5)] (fun _ => false) (by kernel_rfl) (by kernel_rfl) (by kernel_rfl) (by kernel_rfl) ?_
      iterate 2
        apply Flow.calm2 _ _ rfl rfl
        · intro w' hb' K' hK'
          obtain ⟨hc', hf'⟩ := hb'.rule
          go_simp
          try go_ints
          exact hK'
        · intro K' hK'
          simp only [Act.put, List.setIfInBounds_toArray, List.set_cons_zero, List.set_cons_succ]
          exact hK'
      apply Flow.move rfl
      go_wp2_with fail
      refine (grayError_any _ _ _ _ _ _).mono ?_
      rintro e w6 ⟨rfl, HB1⟩
      go_wp2_with fail
      refine ⟨fun _ => (by first | exact HB1 | exact Bl.refl _), ?_⟩
      apply Flow.move rfl
      go_wp2_with fail
      refine (bitsError_any _ _ _ _ _ _).mono ?_
      rintro e w7 ⟨rfl, HB2⟩
      go_wp2_with fail
      refine ⟨fun _ => (by first | exact HB2 | exact Bl.refl _), ?_⟩
      iterate 2
        apply Flow.asg _ rfl
        · intro K' hK'
          simp only [Act.put, Act.eval, List.setIfInBounds_toArray, List.set_cons_zero, List.set_cons_succ, arr_getD, List.getD_cons_zero, List.getD_cons_succ]
          exact hK'
      refine Flow.done ?_
      have hb7 : Bl w5 w7 := hbc.trans ((Bl.ofDrew HB1).trans HB2)
      have k3 := (w51.bl hb7).all3
      have k4 := (w54.bl hb7).all1
      clear k1 k2 HB1 HB2 hbc
      go_wp2_with fail
      refine (C1.out _ (HG.out.bl hb7)).mono ?_
      rintro e w8 ⟨x1, x2, xR, xn, xc, rfl, xres, hb8⟩
      have bx := Blk.new w8 39 #[.int .i64 x1, .int .i64 x2, .slice xR xn xc]
      have hc8 : Bl w5 (w8.alloc (.cells #[.int .i64 x1, .int .i64 x2, .slice xR xn xc] 39)) := (hb7.trans hb8).alloc _
      have XR := Lib.hid (xres.bl ((Bl.refl w8).alloc (.cells #[.int .i64 x1, .int .i64 x2, .slice xR xn xc] 39)))
      have l8 := (w54.bl (hb7.trans hb8)).lt
      have k5 := (w54.bl hc8).all1
      clear k3 k4 xres
      go_upto_region 5 with fail
      generalize hw9 : w8.alloc (.cells #[.int .i64 x1, .int .i64 x2, .slice xR xn xc] 39) = w9 at bx hc8 XR k5 ⊢
      clear hw9 l8 hb8 hb7
      have kx := bx.all3
      refine wp_region_flow [(false, 0), (true, 1), (true, 2), (true, 3), (true, 4), (true, 5), (true, 6), (true, 12), (false, 7), (true, 8), (false, 9), (false, 10), (false, 11), (false, 13), (true, 14), (true, 15)] (fun _ => false) (by kernel_rfl) (by kernel_rfl) (by kernel_rfl) (by kernel_rfl) ?_
      apply Flow.move rfl
      go_wp2_with fail
      refine (pages_any _).mono ?_
      rintro e w10 ⟨rfl, HB1⟩
      have hb10 : Bl w9 w10 := Bl.ofDrew HB1
      have kx10 := (bx.bl hb10).all3
      have k10 := (w54.bl (hc8.trans hb10)).all1
      go_wp2_with fail
      refine ⟨fun _ => (by first | exact HB1 | exact Bl.refl _), ?_⟩
      iterate 1
        apply Flow.calm2 _ _ rfl rfl
        · intro w' hb' K' hK'
          obtain ⟨hc', hf'⟩ := hb'.rule
          go_simp
          try go_ints
          exact hK'
        · intro K' hK'
          simp only [Act.put, List.setIfInBounds_toArray, List.set_cons_zero, List.set_cons_succ]
          exact hK'
      iterate 1
        apply Flow.mv _ rfl
        · intro K' hK'
          simp only [Act.put, Act.eval, List.setIfInBounds_toArray, List.set_cons_zero, List.set_cons_succ, arr_getD, List.getD_cons_zero, List.getD_cons_succ]
          exact hK'
      first
        | (apply Flow.pass rfl (by rfl))
        | (apply Flow.calmG _ rfl (by rfl)
           · intro w' hb'
             obtain ⟨hc', hf'⟩ := hb'.rule
             go_simp
             all_goals (try rfl))
      simp only [Act.put, List.setIfInBounds_toArray, List.set_cons_zero, List.set_cons_succ]
      try go_ints
      first
        | (apply Flow.pass rfl (by rfl))
        | (apply Flow.calmG _ rfl (by rfl)
           · intro w' hb'
             obtain ⟨hc', hf'⟩ := hb'.rule
             go_simp
             all_goals (try rfl))
      simp only [Act.put, List.setIfInBounds_toArray, List.set_cons_zero, List.set_cons_succ]
      try go_ints
      first
        | (apply Flow.pass rfl (by rfl))
        | (apply Flow.calmG _ rfl (by rfl)
           · intro w' hb'
             obtain ⟨hc', hf'⟩ := hb'.rule
             go_simp
             all_goals (try rfl))
      simp only [Act.put, List.setIfInBounds_toArray, List.set_cons_zero, List.set_cons_succ]
      try go_ints
      first
        | (apply Flow.pass rfl (by rfl))
        | (apply Flow.calmG _ rfl (by rfl)
           · intro w' hb'
             obtain ⟨hc', hf'⟩ := hb'.rule
             go_simp
             all_goals (try rfl))
      simp only [Act.put, List.setIfInBounds_toArray, List.set_cons_zero, List.set_cons_succ]
      try go_ints
      first
        | (apply Flow.pass rfl (by rfl))
        | (apply Flow.calmG _ rfl (by rfl)
           · intro w' hb'
             obtain ⟨hc', hf'⟩ := hb'.rule
             go_simp
             all_goals (try rfl))
      simp only [Act.put, List.setIfInBounds_toArray, List.set_cons_zero, List.set_cons_succ]
      try go_ints
      -- a guarded mover
      apply Flow.move rfl
      go_wp2_with fail
      refine (in_any _ _ _ _).mono ?_
      rintro e w' ⟨rfl, rfl⟩
      go_wp2_with fail
      refine ⟨fun _ => (by first | exact HB2 | exact Bl.refl _), ?_⟩
      first
        | (apply Flow.pass rfl (by rfl))
        | (apply Flow.calmG _ rfl (by rfl)
           · intro w' hb'
             obtain ⟨hc', hf'⟩ := hb'.rule
             go_simp
             all_goals (try rfl))
      simp only [Act.put, List.setIfInBounds_toArray, List.set_cons_zero, List.set_cons_succ]
      try go_ints
      -- a guarded mover
      apply Flow.move rfl
      go_wp2_with fail
      refine (when_any _ _ _).mono ?_
      rintro e w' ⟨rfl, rfl⟩
      go_wp2_with fail
      refine ⟨fun _ => (by first | exact HB3 | exact Bl.refl _), ?_⟩
      -- a guarded mover
      apply Flow.move rfl
      go_wp2_with fail
      refine ⟨fun _ => ?_, ?_⟩
      · repeat' (first | exact Bl.refl _ | refine Bl.drewL ?_ | refine Bl.drew ?_ | refine Bl.alloc ?_ _)
      -- a guarded mover
      apply Flow.move rfl
      go_wp2_with fail
      refine (first2_any _ _ _ _ (Blk.new _ _ _)).mono ?_
      rintro e w' ⟨rfl, rfl⟩
      go_wp2_with fail
      refine ⟨fun _ => (by first | exact HB5 | exact Bl.refl _), ?_⟩
      -- a guarded mover
      apply Flow.move rfl
      go_wp2_with fail
      have hb11 : Bl w9 (w10.alloc (.cells #[.int .i64 (pageErr gW gH gn), .int .i64 (whenI (!inB level 0 256) 3)] 26)) := hb10.alloc _
      refine (bitsIs_any _ _ _ _ _ _ _ _ _ _ _ _ _ (XR.out.bl hb11) (fun h => by
        obtain ⟨hp, _⟩ := lvlErr_zero (HE1.out.symm.trans h)
        obtain ⟨W, H, rfl, rfl, rfl, u1, u2, u3⟩ := page_nat hp
        simp only [Int.toNat_natCast]
        exact counts1_makes _ _ W H G gc zs level _ (w51.bl (hc8.trans hb11)) (w54.bl (hc8.trans hb11)) (HG.out.bl (hc8.trans hb11)) Hz.out u1 u2) (fun h => by
        obtain ⟨hp, _⟩ := lvlErr_zero (HE1.out.symm.trans h)
        obtain ⟨W, H, rfl, rfl, rfl, u1, u2, u3⟩ := page_nat hp
        simp only [Int.toNat_natCast]
        omega)).mono ?_
      rintro e w12 ⟨rfl, HB6⟩
      go_wp2_with fail
      refine ⟨fun _ => (by first | exact HB6 | exact Bl.refl _), ?_⟩
      first
        | (apply Flow.pass rfl (by rfl))
        | (apply Flow.calmG _ rfl (by rfl)
           · intro w' hb'
             obtain ⟨hc', hf'⟩ := hb'.rule
             go_simp
             all_goals (try rfl))
      simp only [Act.put, List.setIfInBounds_toArray, List.set_cons_zero, List.set_cons_succ]
      try go_ints
      iterate 1
        apply Flow.calm2 _ _ rfl rfl
        · intro w' hb' K' hK'
          obtain ⟨hc', hf'⟩ := hb'.rule
          go_simp
          try go_ints
          exact hK'
        · intro K' hK'
          simp only [Act.put, List.setIfInBounds_toArray, List.set_cons_zero, List.set_cons_succ]
          exact hK'
      refine Flow.done ?_
      have hc12 : Bl w5 w12 := (hc8.trans hb11).trans HB6
      clear hb10 hb11 HB1 HB6 kx kx10 k10 k5 XR bx hc8 C1 HE1 hf1
      have k1 := (w51.bl hc12).all3
      go_wp2_with fail
      refine (histogram_any gW gH G gn gc zs _ (HG.out.bl hc12) Hz.out).mono ?_
      rintro e w13 ⟨P, m, pc, rfl, pres, hb13⟩
      have hc13 := hc12.trans hb13
      have PR := Lib.hid pres
      clear pres k1 hb13 hc12
      go_upto_region 8 with fail
      go_cut [98] from 55 to 98 (fun s98 wc => s98 = .bool false ∧ wc = w13)
      case first =>
        by_cases hg : pageErr gW gH gn = 0
        · have hq : (pageErr gW gH gn != 0) = false := by simp [hg]
          clear hg
          go_wp2_with fail
          go_meet
          case rel => exact ⟨rfl, rfl⟩
        · obtain ⟨rfl, rfl⟩ := PR.out.2 hg
          have hq : (pageErr gW gH gn != 0) = true := by simp [hg]
          clear hg
          go_wp2_with fail
          go_meet
          case rel => exact ⟨rfl, rfl⟩
      case rest =>
        obtain ⟨rfl, hw13⟩ := hcut
        subst hw13
        rename World => w13
        go_upto_if 100 with fail
        go_cut [] from 99 to 123 (fun wd => Bl w13 wd)
        case first =>
          by_cases hg : pageErr gW gH gn = 0
          · have hq : (pageErr gW gH gn == 0) = true := by simp [hg]
            have hq2 : (pageErr gW gH gn != 0) = false := by simp [hg]
            obtain ⟨rfl, hP⟩ := PR.out.1 hg
            have hgn := page_small hg
            have HP := Lib.hid hP
            have hmk := Hmk.out
            have k3 := (w51.bl hc13).all3
            have l3 := (w51.bl hc13).lt
            have start := Blk.new w13 3 (tabI 256 fun k => ((cntV zs 0 k : Nat) : Int))
            have Start := Lib.hid start
            clear hP start hg
            rw [hq]
            go_wp2_with fail
            go_loopw [105] (fun u wr => ∃ i : Nat, i ≤ gn ∧ u = .int .i64 i ∧ Bl w13 wr ∧ Blk wr w13.heap.size 3 (tabI 256 fun k => ((cntV zs i k : Nat) : Int))) (fun u _ => gn - (intOf u).toNat)
            case atStart => exact ⟨0, Nat.zero_le _, rfl, (Bl.refl _).alloc _, Start.out⟩
            case round =>
              clear k3 l3 hmk
              obtain ⟨i, hi, rfl, hbr, hbo⟩ := hrel
              by_cases hlt : i < gn
              · obtain ⟨ad, rfl, hca⟩ := ((HG.out.bl hc13).bl hbr).valAt hlt
                obtain ⟨a, hv, ha⟩ := val_nat Hz.out i
                rw [hv] at hca
                have kc := hbo.tabAt ha
                have kf := hbo.frozen a
                have hset := cntV_set hbo hv
                have hcb := cntV_le zs i a
                obtain ⟨c, hc⟩ : ∃ c, c = cntV zs i a := ⟨_, rfl⟩
                rw [← hc] at kc hset hcb
                have Hset := Lib.hid hset
                clear hset hc hv
                go_wp2_with fail
                exact ⟨⟨i + 1, hlt, by go_light; go_num, hbr.setCell (by simp) _, Hset.out⟩, by go_light; simp [intOf]; omega⟩
              · obtain rfl : i = gn := by go_light; omega
                have hB := Lib.hid hbo.tabReads
                go_wp2_with fail
                refine (equalTabs_any P (some ⟨w13.heap.size, 0, none⟩) pc 256 256 (valI zs i) _ (HP.out.bl hbr) hB.out (by decide)).mono ?_
                rintro e w14 ⟨rfl, hb14⟩
                go_wp2_with fail
                go_meet
                case rel => exact hbr.trans hb14
          · have hq : (pageErr gW gH gn == 0) = false := by simp [hg]
            rw [hq]
            clear hg
            go_wp2_with fail
            go_meet
            case rel => exact Bl.refl _
        case rest =>
          rename World => wd
          have hcd := hc13.trans hcut
          have k1 := (w52.bl hcd).all3
          clear hcut PR hc13
          go_wp2_with fail
          refine (toGray_any bW bH A an ac bs _ (HA.out.bl hcd)).mono ?_
          rintro e w14 ⟨y1, y2, yR, yn, yc, rfl, yres, hb14⟩
          have hc14 := hcd.trans hb14
          have by14 := Blk.new w14 24 #[.int .i64 y1, .int .i64 y2, .slice yR yn yc]
          have hc15 := hc14.alloc (.cells #[.int .i64 y1, .int .i64 y2, .slice yR yn yc] 24)
          have YR := Lib.hid (yres.bl ((Bl.refl w14).alloc (.cells #[.int .i64 y1, .int .i64 y2, .slice yR yn yc] 24)))
          have k2 := (w52.bl hc14).all3
          have l2 := (w52.bl hc14).lt
          clear k1 yres hb14
          go_wp2_with fail
          refine (rows_any bW bH A an ac bs _ (HA.out.bl hc15)).mono ?_
          rintro e w16 ⟨P1, m1, c1, rfl, rres, hb16⟩
          have hc16 := hc15.trans hb16
          have k3 := (w52.bl hc16).all3
          have RR := Lib.hid rres
          have by16 := by14.bl hb16
          have YR16 := Lib.hid (YR.out.bl hb16)
          clear k2 l2 rres by14 YR hc15 hb16
          go_wp2_with fail
          refine (columns_any bW bH A an ac bs _ (HA.out.bl hc16)).mono ?_
          rintro e w17 ⟨P2, m2, c2, rfl, cres, hb17⟩
          have hc17 := hc16.trans hb17
          have k4 := (w52.bl hc17).all3
          have CR := Lib.hid cres
          have by17 := by16.bl hb17
          have YR17 := Lib.hid (YR16.out.bl hb17)
          have RR17 := Lib.hid (RR.out.bl hb17)
          clear k3 cres by16 YR16 RR hc16 hb17
          go_wp2_with fail
          refine (bounds_any bW bH A an ac bs _ (HA.out.bl hc17)).mono ?_
          rintro e w18 ⟨oX, oY, oW, oH, oe, rfl, ob1, ob2, hb18⟩
          have hc19 : Bl w5 (w18.alloc (.cells #[.int .i64 oX, .int .i64 oY, .int .i64 oW, .int .i64 oH] 78)) := (hc17.trans hb18).alloc _
          have hb19 : Bl w17 (w18.alloc (.cells #[.int .i64 oX, .int .i64 oY, .int .i64 oW, .int .i64 oH] 78)) := hb18.alloc _
          have bo := Blk.new w18 78 #[.int .i64 oX, .int .i64 oY, .int .i64 oW, .int .i64 oH]
          have by19 := by17.bl hb19
          have YR19 := Lib.hid (YR17.out.bl hb19)
          have RR19 := Lib.hid (RR17.out.bl hb19)
          have CR19 := Lib.hid (CR.out.bl hb19)
          have Ob1 := Lib.hid ob1; have Ob2 := Lib.hid ob2
          clear k4 ob1 ob2 by17 YR17 RR17 CR hc17 hb19
          go_upto_if 145 with fail
          generalize hw19 : w18.alloc (.cells #[.int .i64 oX, .int .i64 oY, .int .i64 oW, .int .i64 oH] 78) = w19 at hc19 bo by19 YR19 RR19 CR19 ⊢
          clear hw19 hb18
          go_cut [12, 14, 20, 21, 22, 23, 25] from 124 to 233 (fun s12 s14 s20 s21 s22 s23 s25 wc => s12 = .int .i64 (pageErr bW bH an) ∧ Bl w19 wc)
          case first =>
            by_cases hp : pageErr bW bH an = 0
            · have hq : (pageErr bW bH an != 0) = false := by simp [hp]
              rw [hq]
              obtain ⟨is, hbi, rfl⟩ := Ob2.out hp
              obtain ⟨rfl, hR1⟩ := RR19.out.1 hp
              obtain ⟨rfl, hR2⟩ := CR19.out.1 hp
              have hY := (YR19.out.1 hp).is
              have hpp := hp
              obtain ⟨W, H, rfl, rfl, rfl, u1, u2, u3⟩ := page_nat hp
              simp only [Int.toNat_natCast] at hbi hR1 hR2 hY
              have Hbi := Lib.hid hbi; have HR1 := Lib.hid hR1; have HR2 := Lib.hid hR2; have HY := Lib.hid hY
              have hP : Paints Try.prog 72 #[.pointer (some ⟨w.heap.size + 1, 0, none⟩)] (Value.int .u8) w19 W H (grayF bs W) :=
                ⟨enters Try.func72 (by kernel_rfl) rfl, fun wx x y hb hx hy => counts2_any _ W H A ac bs x y wx ((w52.bl hc19).bl hb) ((HA.out.bl hc19).bl hb) u1 u2 hx hy⟩
              have HP := Lib.hid hP
              have k1 := (w52.bl hc19).all3
              have ky := by19.all3
              have w1 : W ≤ 1048576 := Nat.le_trans u1 (by decide)
              have w2' : H ≤ 1048576 := Nat.le_trans u2 (by decide)
              have w3' : W * H ≤ 17179869184 := Nat.le_trans u3 (by decide)
              have w4' : W * H ≤ 1099511627776 := Nat.le_trans u3 (by decide)
              have w5' : H ≤ 1099511627776 := Nat.le_trans u2 (by decide)
              have w6' : W ≤ 1099511627776 := Nat.le_trans u1 (by decide)
              clear hp hbi hR1 hR2 hY hP YR19 RR19 CR19 Ob1 Ob2
              go_upto_region 26 with fail
              refine wp_region_flow [(true, 0), (true, 1), (true, 2), (true, 3), (true, 4), (true, 5), (true, 6), (true, 7), (true, 8), (false, 9), (false, 10), (true, 11), (true, 12), (true, 13), (true, 14), (true, 15), (true, 16), (true, 17), (true, 18), (true, 19), (false, 20), (false, 21), (true, 22), (true, 23), (true, 24), (true, 25), (true, 26), (true, 27), (true, 28), (true, 29), (true, 30), (false, 31), (false, 32), (true, 33), (true, 34)] (fun _ => false) (by kernel_rfl) (by kernel_rfl) (by kernel_rfl) (by kernel_rfl) ?_
              iterate 1
                apply Flow.mv _ rfl
                · intro K' hK'
                  simp only [Act.put, Act.eval, List.setIfInBounds_toArray, List.set_cons_zero, List.set_cons_succ, arr_getD, List.getD_cons_zero, List.getD_cons_succ]
                  exact hK'
              iterate 1
                apply Flow.calm2 _ _ rfl rfl
                · intro w' hb' K' hK'
                  obtain ⟨hc', hf'⟩ := hb'.rule
                  go_simp
                  try go_ints
                  exact hK'
                · intro K' hK'
                  simp only [Act.put, List.setIfInBounds_toArray, List.set_cons_zero, List.set_cons_succ]
                  exact hK'
              iterate 1
                apply Flow.mv _ rfl
                · intro K' hK'
                  simp only [Act.put, Act.eval, List.setIfInBounds_toArray, List.set_cons_zero, List.set_cons_succ, arr_getD, List.getD_cons_zero, List.getD_cons_succ]
                  exact hK'
              first
                | (apply Flow.pass rfl (by rfl))
                | (apply Flow.calmG _ rfl (by rfl)
                   · intro w' hb'
                     obtain ⟨hc', hf'⟩ := hb'.rule
                     go_simp
                     all_goals (try rfl))
              simp only [Act.put, List.setIfInBounds_toArray, List.set_cons_zero, List.set_cons_succ]
              try go_ints
              first
                | (apply Flow.pass rfl (by rfl))
                | (apply Flow.calmG _ rfl (by rfl)
                   · intro w' hb'
                     obtain ⟨hc', hf'⟩ := hb'.rule
                     go_simp
                     all_goals (try rfl))
              simp only [Act.put, List.setIfInBounds_toArray, List.set_cons_zero, List.set_cons_succ]
              try go_ints
              first
                | (apply Flow.pass rfl (by rfl))
                | (apply Flow.calmG _ rfl (by rfl)
                   · intro w' hb'
                     obtain ⟨hc', hf'⟩ := hb'.rule
                     go_simp
                     all_goals (try rfl))
              simp only [Act.put, List.setIfInBounds_toArray, List.set_cons_zero, List.set_cons_succ]
              try go_ints
              first
                | (apply Flow.pass rfl (by rfl))
                | (apply Flow.calmG _ rfl (by rfl)
                   · intro w' hb'
                     obtain ⟨hc', hf'⟩ := hb'.rule
                     go_simp
                     all_goals (try rfl))
              simp only [Act.put, List.setIfInBounds_toArray, List.set_cons_zero, List.set_cons_succ]
              try go_ints
              first
                | (apply Flow.pass rfl (by rfl))
                | (apply Flow.calmG _ rfl (by rfl)
                   · intro w' hb'
                     obtain ⟨hc', hf'⟩ := hb'.rule
                     go_simp
                     all_goals (try rfl))
              simp only [Act.put, List.setIfInBounds_toArray, List.set_cons_zero, List.set_cons_succ]
              try go_ints
              first
                | (apply Flow.pass rfl (by rfl))
                | (apply Flow.calmG _ rfl (by rfl)
                   · intro w' hb'
                     obtain ⟨hc', hf'⟩ := hb'.rule
                     go_simp
                     all_goals (try rfl))
              simp only [Act.put, List.setIfInBounds_toArray, List.set_cons_zero, List.set_cons_succ]
              try go_ints
              -- a guarded mover
              apply Flow.move rfl
              go_wp2_with fail
              refine (MadeGray_any W H _ _ _ _ w1 w2' w3' (HP.out.bl ((Bl.refl _).drew))).mono ?_
              rintro e w20 ⟨r, rfl, hpg, HB1⟩
              have hb20 : Bl w19 w20 := Bl.ofDrew HB1
              go_wp2_with fail
              refine ⟨fun _ => (by first | exact HB1 | exact Bl.refl _), ?_⟩
              -- a guarded mover
              apply Flow.move rfl
              go_wp2_with fail
              refine (sameGray_any W H _ r (grid W H (grayF bs W)) _ (HY.out.bl hb20) hpg.is w4').mono ?_
              rintro e w21 ⟨rfl, HB2⟩
              have hb21 : Bl w19 w21 := hb20.trans HB2
              have k21 := (w52.bl (hc19.trans hb21)).all3
              go_wp2_with fail
              refine ⟨fun _ => (by first | exact HB2 | exact Bl.refl _), ?_⟩
              first
                | (apply Flow.pass rfl (by rfl))
                | (apply Flow.calmG _ rfl (by rfl)
                   · intro w' hb'
                     obtain ⟨hc', hf'⟩ := hb'.rule
                     go_simp
                     all_goals (try rfl))
              simp only [Act.put, List.setIfInBounds_toArray, List.set_cons_zero, List.set_cons_succ]
              try go_ints
              iterate 1
                apply Flow.calm2 _ _ rfl rfl
                · intro w' hb' K' hK'
                  obtain ⟨hc', hf'⟩ := hb'.rule
                  go_simp
                  try go_ints
                  exact hK'
                · intro K' hK'
                  simp only [Act.put, List.setIfInBounds_toArray, List.set_cons_zero, List.set_cons_succ]
                  exact hK'
              iterate 1
                apply Flow.mv _ rfl
                · intro K' hK'
                  simp only [Act.put, Act.eval, List.setIfInBounds_toArray, List.set_cons_zero, List.set_cons_succ, arr_getD, List.getD_cons_zero, List.getD_cons_succ]
                  exact hK'
              first
                | (apply Flow.pass rfl (by rfl))
                | (apply Flow.calmG _ rfl (by rfl)
                   · intro w' hb'
                     obtain ⟨hc', hf'⟩ := hb'.rule
                     go_simp
                     all_goals (try rfl))
              simp only [Act.put, List.setIfInBounds_toArray, List.set_cons_zero, List.set_cons_succ]
              try go_ints
              first
                | (apply Flow.pass rfl (by rfl))
                | (apply Flow.calmG _ rfl (by rfl)
                   · intro w' hb'
                     obtain ⟨hc', hf'⟩ := hb'.rule
                     go_simp
                     all_goals (try rfl))
              simp only [Act.put, List.setIfInBounds_toArray, List.set_cons_zero, List.set_cons_succ]
              try go_ints
              iterate 1
                apply Flow.calm2 _ _ rfl rfl
                · intro w' hb' K' hK'
                  obtain ⟨hc', hf'⟩ := hb'.rule
                  go_simp
                  try go_ints
                  exact hK'
                · intro K' hK'
                  simp only [Act.put, List.setIfInBounds_toArray, List.set_cons_zero, List.set_cons_succ]
                  exact hK'
              iterate 1
                apply Flow.mv _ rfl
                · intro K' hK'
                  simp only [Act.put, Act.eval, List.setIfInBounds_toArray, List.set_cons_zero, List.set_cons_succ, arr_getD, List.getD_cons_zero, List.getD_cons_succ]
                  exact hK'
              first
                | (apply Flow.pass rfl (by rfl))
                | (apply Flow.calmG _ rfl (by rfl)
                   · intro w' hb'
                     obtain ⟨hc', hf'⟩ := hb'.rule
                     go_simp
                     all_goals (try rfl))
              simp only [Act.put, List.setIfInBounds_toArray, List.set_cons_zero, List.set_cons_succ]
              try go_ints
              first
                | (apply Flow.pass rfl (by rfl))
                | (apply Flow.calmG _ rfl (by rfl)
                   · intro w' hb'
                     obtain ⟨hc', hf'⟩ := hb'.rule
                     go_simp
                     all_goals (try rfl))
              simp only [Act.put, List.setIfInBounds_toArray, List.set_cons_zero, List.set_cons_succ]
              try go_ints
              -- a guarded mover
              apply Flow.move rfl
              go_wp2_with fail
              refine (rowsOf_any W H A ac bs _ (HA.out.bl (hc19.trans hb21)) u1 u2).mono ?_
              rintro e w22 ⟨Q1, d1, rfl, hQ1, HB3⟩
              go_wp2_with fail
              refine ⟨fun _ => (by first | exact HB3 | exact Bl.refl _), ?_⟩
              -- a guarded mover
              apply Flow.move rfl
              go_wp2_with fail
              refine (equalTabs_any P1 Q1 c1 d1 H (rowI bs W) _ (HR1.out.bl (hb21.trans HB3)) hQ1 w5').mono ?_
              rintro e w23 ⟨rfl, HB4⟩
              have hb23 : Bl w19 w23 := (hb21.trans HB3).trans HB4
              have k23 := (w52.bl (hc19.trans hb23)).all3
              go_wp2_with fail
              refine ⟨fun _ => (by first | exact HB4 | exact Bl.refl _), ?_⟩
              first
                | (apply Flow.pass rfl (by rfl))
                | (apply Flow.calmG _ rfl (by rfl)
                   · intro w' hb'
                     obtain ⟨hc', hf'⟩ := hb'.rule
                     go_simp
                     all_goals (try rfl))
              simp only [Act.put, List.setIfInBounds_toArray, List.set_cons_zero, List.set_cons_succ]
              try go_ints
              iterate 1
                apply Flow.calm2 _ _ rfl rfl
                · intro w' hb' K' hK'
                  obtain ⟨hc', hf'⟩ := hb'.rule
                  go_simp
                  try go_ints
                  exact hK'
                · intro K' hK'
                  simp only [Act.put, List.setIfInBounds_toArray, List.set_cons_zero, List.set_cons_succ]
                  exact hK'
              iterate 1
                apply Flow.mv _ rfl
                · intro K' hK'
                  simp only [Act.put, Act.eval, List.setIfInBounds_toArray, List.set_cons_zero, List.set_cons_succ, arr_getD, List.getD_cons_zero, List.getD_cons_succ]
                  exact hK'
              first
                | (apply Flow.pass rfl (by rfl))
                | (apply Flow.calmG _ rfl (by rfl)
                   · intro w' hb'
                     obtain ⟨hc', hf'⟩ := hb'.rule
                     go_simp
                     all_goals (try rfl))
              simp only [Act.put, List.setIfInBounds_toArray, List.set_cons_zero, List.set_cons_succ]
              try go_ints
              first
                | (apply Flow.pass rfl (by rfl))
                | (apply Flow.calmG _ rfl (by rfl)
                   · intro w' hb'
                     obtain ⟨hc', hf'⟩ := hb'.rule
                     go_simp
                     all_goals (try rfl))
              simp only [Act.put, List.setIfInBounds_toArray, List.set_cons_zero, List.set_cons_succ]
              try go_ints
              iterate 1
                apply Flow.calm2 _ _ rfl rfl
                · intro w' hb' K' hK'
                  obtain ⟨hc', hf'⟩ := hb'.rule
                  go_simp
                  try go_ints
                  exact hK'
                · intro K' hK'
                  simp only [Act.put, List.setIfInBounds_toArray, List.set_cons_zero, List.set_cons_succ]
                  exact hK'
              iterate 1
                apply Flow.mv _ rfl
                · intro K' hK'
                  simp only [Act.put, Act.eval, List.setIfInBounds_toArray, List.set_cons_zero, List.set_cons_succ, arr_getD, List.getD_cons_zero, List.getD_cons_succ]
                  exact hK'
              first
                | (apply Flow.pass rfl (by rfl))
                | (apply Flow.calmG _ rfl (by rfl)
                   · intro w' hb'
                     obtain ⟨hc', hf'⟩ := hb'.rule
                     go_simp
                     all_goals (try rfl))
              simp only [Act.put, List.setIfInBounds_toArray, List.set_cons_zero, List.set_cons_succ]
              try go_ints
              first
                | (apply Flow.pass rfl (by rfl))
                | (apply Flow.calmG _ rfl (by rfl)
                   · intro w' hb'
                     obtain ⟨hc', hf'⟩ := hb'.rule
                     go_simp
                     all_goals (try rfl))
              simp only [Act.put, List.setIfInBounds_toArray, List.set_cons_zero, List.set_cons_succ]
              try go_ints
              -- a guarded mover
              apply Flow.move rfl
              go_wp2_with fail
              refine (columnsOf_any W H A ac bs _ (HA.out.bl (hc19.trans hb23)) u1 u2).mono ?_
              rintro e w24 ⟨Q2, d2, rfl, hQ2, HB5⟩
              go_wp2_with fail
              refine ⟨fun _ => (by first | exact HB5 | exact Bl.refl _), ?_⟩
              -- a guarded mover
              apply Flow.move rfl
              go_wp2_with fail
              refine (equalTabs_any P2 Q2 c2 d2 W (colI bs W H) _ (HR2.out.bl (hb23.trans HB5)) hQ2 w6').mono ?_
              rintro e w25 ⟨rfl, HB6⟩
              have hb25 : Bl w19 w25 := (hb23.trans HB5).trans HB6
              go_wp2_with fail
              refine ⟨fun _ => (by first | exact HB6 | exact Bl.refl _), ?_⟩
              first
                | (apply Flow.pass rfl (by rfl))
                | (apply Flow.calmG _ rfl (by rfl)
                   · intro w' hb'
                     obtain ⟨hc', hf'⟩ := hb'.rule
                     go_simp
                     all_goals (try rfl))
              simp only [Act.put, List.setIfInBounds_toArray, List.set_cons_zero, List.set_cons_succ]
              try go_ints
              iterate 1
                apply Flow.calm2 _ _ rfl rfl
                · intro w' hb' K' hK'
                  obtain ⟨hc', hf'⟩ := hb'.rule
                  go_simp
                  try go_ints
                  exact hK'
                · intro K' hK'
                  simp only [Act.put, List.setIfInBounds_toArray, List.set_cons_zero, List.set_cons_succ]
                  exact hK'
              refine Flow.done ?_
              have k25 := (w52.bl (hc19.trans hb25)).all3
              go_wp2_with fail
              refine (boundsOf_any W H A ac bs _ (HA.out.bl (hc19.trans hb25)) u1 u2).mono ?_
              rintro e w26 ⟨pX, pY, pW, pH, is', rfl, hbi', hb26⟩
              obtain ⟨rfl, rfl, rfl, rfl, rfl⟩ := Hbi.out.same hbi'
              have hb27 := hb25.trans hb26
              have ko := (bo.bl hb27).all4
              have lo := (bo.bl hb27).lt
              clear hbi' k1 k21 k23 k25 ky
              go_wp2_with (go_at_call 14; refine (when_any _ _ _).mono ?_; rintro e w' ⟨rfl, rfl⟩)
              go_meet
              case rel => exact ⟨by rw [hpp], by first | exact hb27.alloc _ | exact hb27⟩
            · have hq : (pageErr bW bH an != 0) = true := by simp [hp]
              rw [hq]
              obtain ⟨rfl, rfl, rfl, rfl, rfl⟩ := YR19.out.2 hp
              obtain ⟨rfl, rfl⟩ := RR19.out.2 hp
              obtain ⟨rfl, rfl⟩ := CR19.out.2 hp
              obtain ⟨rfl, rfl, rfl, rfl, rfl⟩ := Ob1.out hp
              have ky := by19.all3
              have ko := bo.all4
              clear hp YR19 RR19 CR19 Ob1 Ob2
              go_wp2_with fail
              refine (noGray_zero _).mono ?_
              rintro e w20 ⟨rfl, hb20⟩
              have ko2 := (bo.bl hb20).all4
              clear ko ky
              go_wp2_with fail
              go_meet
              case rel => exact ⟨rfl, hb20⟩
          case rest =>
            rename World => we
            obtain ⟨rfl, hcut⟩ := hcut
            have hce := hc19.trans hcut
            clear hcut by19 bo YR19 RR19 CR19 Ob1 Ob2 hc14 hcd hc19
            obtain ⟨E2, hE2⟩ : ∃ E, E = cutErr bW bH an X Y BW BH := ⟨_, rfl⟩
            have hf2 : firstNZ [pageErr bW bH an, whenI (!inPageW X Y BW BH bW bH) 13] = E2 := by
              rw [hE2]; unfold cutErr
              by_cases hp : pageErr bW bH an = 0
              · have hz := sizeErr_zero (pageErr_zero hp).1
                rw [inPageW_eq (by go_light; omega) (by go_light; omega)]
              · simp only [firstNZ, if_neg hp]
            have ci := fun w h => ink_any bW bH A an ac bs X Y BW BH w h
            rw [← hE2] at ci
            have Ci := Lib.hid ci; have HE2 := Lib.hid hE2
            have k1 := (w52.bl hce).all3
            have k2 := (w55.bl hce).all4
            clear ci hE2
            go_wp2_with fail
            refine (Ci.out _ (HA.out.bl hce)).mono ?_
            rintro e w30 ⟨n1, rfl, hn1, hn2, hb30⟩
            have hc30 := hce.trans hb30
            have Hn1 := Lib.hid hn1; have Hn2 := Lib.hid hn2
            have k3 := (w52.bl hc30).all3
            have k4 := (w55.bl hc30).all4
            clear k1 k2 hn1 hn2 hce hb30
            go_wp2_with fail
            refine (inPageOf_any _ _ _ _ _ _ _).mono ?_
            rintro e w31 ⟨rfl, hb31⟩
            have hc32 : Bl w5 (w31.alloc (.cells #[.int .i64 (pageErr bW bH an), .int .i64 (whenI (!inPageW X Y BW BH bW bH) 13)] 26)) := (hc30.trans hb31).alloc _
            clear k3 k4 hc30 hb31
            go_upto_region 33 with (first | (go_at_call 14; refine (when_any _ _ _).mono ?_; rintro e w' ⟨rfl, rfl⟩) | (go_at_call 12; refine (first2_any _ _ _ _ (Blk.new _ _ _)).mono ?_; rintro e w' ⟨rfl, rfl⟩))
            generalize hw32 : w31.alloc (.cells #[.int .i64 (pageErr bW bH an), .int .i64 (whenI (!inPageW X Y BW BH bW bH) 13)] 26) = w32 at hc32 ⊢
            clear hw32 hf2
            go_cut [272] from 234 to 272 (fun s272 wc => s272 = .bool false ∧ Bl w32 wc)
            case first =>
              have k5 := (w52.bl hc32).all3
              have k6 := (w55.bl hc32).all4
              by_cases he : E2 = 0
              · have hq : (E2 != 0) = false := by simp [he]
                have hq2 : (E2 == 0) = true := by simp [he]
                obtain ⟨hp, c1, c2, c3, c4, c5, c6, c7, c8⟩ := cutErr_zero (HE2.out.symm.trans he)
                have hn := Hn2.out he
                have He := Lib.hid he
                obtain ⟨W, H, rfl, rfl, rfl, u1, u2, u3⟩ := page_nat hp
                obtain ⟨X, rfl⟩ := Int.eq_ofNat_of_zero_le c1
                obtain ⟨Y, rfl⟩ := Int.eq_ofNat_of_zero_le c3
                obtain ⟨BW, rfl⟩ := Int.eq_ofNat_of_zero_le (show 0 ≤ BW by go_light; omega)
                obtain ⟨BH, rfl⟩ := Int.eq_ofNat_of_zero_le (show 0 ≤ BH by go_light; omega)
                have hX : X + BW ≤ W := by go_light; omega
                have hY : Y + BH ≤ H := by go_light; omega
                simp only [Int.toNat_natCast] at hn
                have ck := inkOf_any W H X Y BW BH A ac bs w32 (HA.out.bl hc32) u1 u2 hX hY
                rw [← hn] at ck
                have Ck := Lib.hid ck; have Hp := Lib.hid hp
                clear ck hn hp he c1 c2 c3 c4 c5 c6 c7 c8 Hn1 Hn2 Ci HE2
                go_wp2_with fail
                refine Ck.out.mono ?_
                rintro e w33 ⟨rfl, hb33⟩
                go_wp2_with fail
                go_meet
                case rel => exact ⟨rfl, hb33⟩
              · have hq : (E2 != 0) = true := by simp [he]
                have hq2 : (E2 == 0) = false := by simp [he]
                obtain rfl := Hn1.out he
                have He := Lib.hid he
                clear he
                go_wp2_with fail
                go_meet
                case rel => exact ⟨rfl, Bl.refl _⟩
            case rest =>
              rename World => wf
              obtain ⟨rfl, hcut⟩ := hcut
              have hcf := hc32.trans hcut
              clear hcut Hn1 Hn2 Ci HE2 hc32
              obtain ⟨E3, hE3⟩ : ∃ E, E = diffErr bW bH cW cH an cn := ⟨_, rfl⟩
              have cd := fun w h1 h2 => differ_any bW bH cW cH A C an ac cn cc bs cs w h1 h2
              rw [← hE3] at cd
              have Cd := Lib.hid cd; have HE3 := Lib.hid hE3
              have hcase : ∃ b, (bW != cW) = b ∧ firstNZ [pageErr bW bH an, pageErr cW cH cn, whenI (if b then true else (bH != cH)) 11] = E3 := by
                refine ⟨_, rfl, ?_⟩
                rw [hE3]; unfold diffErr
                cases (bW != cW) <;> rfl
              obtain ⟨b, hb, hf3⟩ := hcase
              clear cd hE3
              have k1 := (w52.bl hcf).all3
              have k2 := (w53.bl hcf).all3
              go_wp2_with fail
              refine (Cd.out _ (HA.out.bl hcf) (HC.out.bl hcf)).mono ?_
              rintro e w34 ⟨n2, rfl, hd1, hd2, hb34⟩
              have hc34 := hcf.trans hb34
              have Hd1 := Lib.hid hd1; have Hd2 := Lib.hid hd2
              have k3 := (w52.bl hc34).all3
              have k4 := (w53.bl hc34).all3
              clear k1 k2 hd1 hd2 hcf hb34 Cd
              go_upto_region 36 with fail
              cases b
              all_goals
                simp only [if_true, Bool.false_eq_true, if_false] at hf3
                refine wp_region_flow [(true, 0), (true, 1), (true, 3), (true, 4), (true, 5), (true, 6), (true, 7), (false, 2), (true, 8), (true, 9), (true, 10), (true, 11), (true, 12), (true, 13), (true, 14), (false, 15), (false, 16), (false, 17), (true, 18)] (fun _ => false) (by kernel_rfl) (by kernel_rfl) (by kernel_rfl) (by kernel_rfl) ?_
                iterate 1
                  apply Flow.mv _ rfl
                  · intro K' hK'
                    simp only [Act.put, Act.eval, List.setIfInBounds_toArray, List.set_cons_zero, List.set_cons_succ, arr_getD, List.getD_cons_zero, List.getD_cons_succ]
                    exact hK'
                iterate 1
                  apply Flow.calm2 _ _ rfl rfl
                  · intro w' hb' K' hK'
                    obtain ⟨hc', hf'⟩ := hb'.rule
                    go_simp
                    try go_ints
                    exact hK'
                  · intro K' hK'
                    simp only [Act.put, List.setIfInBounds_toArray, List.set_cons_zero, List.set_cons_succ]
                    exact hK'
                iterate 1
                  apply Flow.calm2 _ _ rfl rfl
                  · intro w' hb' K' hK'
                    obtain ⟨hc', hf'⟩ := hb'.rule
                    go_simp
                    try go_ints
                    exact hK'
                  · intro K' hK'
                    simp only [Act.put, List.setIfInBounds_toArray, List.set_cons_zero, List.set_cons_succ]
                    exact hK'
                iterate 1
                  apply Flow.calm2 _ _ rfl rfl
                  · intro w' hb' K' hK'
                    obtain ⟨hc', hf'⟩ := hb'.rule
                    go_simp
                    try go_ints
                    exact hK'
                  · intro K' hK'
                    simp only [Act.put, List.setIfInBounds_toArray, List.set_cons_zero, List.set_cons_succ]
                    exact hK'
                iterate 1
                  apply Flow.calm2 _ _ rfl rfl
                  · intro w' hb' K' hK'
                    obtain ⟨hc', hf'⟩ := hb'.rule
                    go_simp
                    try go_ints
                    exact hK'
                  · intro K' hK'
                    simp only [Act.put, List.setIfInBounds_toArray, List.set_cons_zero, List.set_cons_succ]
                    exact hK'
                iterate 1
                  apply Flow.calm2 _ _ rfl rfl
                  · intro w' hb' K' hK'
                    obtain ⟨hc', hf'⟩ := hb'.rule
                    go_simp
                    try go_ints
                    exact hK'
                  · intro K' hK'
                    simp only [Act.put, List.setIfInBounds_toArray, List.set_cons_zero, List.set_cons_succ]
                    exact hK'
                iterate 1
                  apply Flow.calm2 _ _ rfl rfl
                  · intro w' hb' K' hK'
                    obtain ⟨hc', hf'⟩ := hb'.rule
                    go_simp
                    try go_ints
                    exact hK'
                  · intro K' hK'
                    simp only [Act.put, List.setIfInBounds_toArray, List.set_cons_zero, List.set_cons_succ]
                    exact hK'
                apply Flow.move rfl
                go_wp2_with fail
                refine (bitsError_any _ _ _ _ _ _).mono ?_
                rintro e w35 ⟨rfl, HB1⟩
                have hc35 : Bl w5 w35 := hc34.trans (Bl.ofDrew HB1)
                have k5 := (w52.bl hc35).all3
                have k6 := (w53.bl hc35).all3
                go_wp2_with fail
                refine ⟨fun _ => (by first | exact HB1 | exact Bl.refl _), ?_⟩
                iterate 1
                  apply Flow.mv _ rfl
                  · intro K' hK'
                    simp only [Act.put, Act.eval, List.setIfInBounds_toArray, List.set_cons_zero, List.set_cons_succ, arr_getD, List.getD_cons_zero, List.getD_cons_succ]
                    exact hK'
                first
                  | (apply Flow.pass rfl (by rfl))
                  | (apply Flow.calmG _ rfl (by rfl)
                     · intro w' hb'
                       obtain ⟨hc', hf'⟩ := hb'.rule
                       go_simp
                       all_goals (try rfl))
                simp only [Act.put, List.setIfInBounds_toArray, List.set_cons_zero, List.set_cons_succ]
                try go_ints
                first
                  | (apply Flow.pass rfl (by rfl))
                  | (apply Flow.calmG _ rfl (by rfl)
                     · intro w' hb'
                       obtain ⟨hc', hf'⟩ := hb'.rule
                       go_simp
                       all_goals (try rfl))
                simp only [Act.put, List.setIfInBounds_toArray, List.set_cons_zero, List.set_cons_succ]
                try go_ints
                first
                  | (apply Flow.pass rfl (by rfl))
                  | (apply Flow.calmG _ rfl (by rfl)
                     · intro w' hb'
                       obtain ⟨hc', hf'⟩ := hb'.rule
                       go_simp
                       all_goals (try rfl))
                simp only [Act.put, List.setIfInBounds_toArray, List.set_cons_zero, List.set_cons_succ]
                try go_ints
                first
                  | (apply Flow.pass rfl (by rfl))
                  | (apply Flow.calmG _ rfl (by rfl)
                     · intro w' hb'
                       obtain ⟨hc', hf'⟩ := hb'.rule
                       go_simp
                       all_goals (try rfl))
                simp only [Act.put, List.setIfInBounds_toArray, List.set_cons_zero, List.set_cons_succ]
                try go_ints
                first
                  | (apply Flow.pass rfl (by rfl))
                  | (apply Flow.calmG _ rfl (by rfl)
                     · intro w' hb'
                       obtain ⟨hc', hf'⟩ := hb'.rule
                       go_simp
                       all_goals (try rfl))
                simp only [Act.put, List.setIfInBounds_toArray, List.set_cons_zero, List.set_cons_succ]
                try go_ints
                iterate 1
                  apply Flow.calm2 _ _ rfl rfl
                  · intro w' hb' K' hK'
                    obtain ⟨hc', hf'⟩ := hb'.rule
                    go_simp
                    try go_ints
                    exact hK'
                  · intro K' hK'
                    simp only [Act.put, List.setIfInBounds_toArray, List.set_cons_zero, List.set_cons_succ]
                    exact hK'
                apply Flow.move rfl
                go_wp2_with fail
                refine (when_any _ _ _).mono ?_
                rintro e w' ⟨rfl, rfl⟩
                go_wp2_with fail
                refine ⟨fun _ => (by first | exact HB2 | exact Bl.refl _), ?_⟩
                apply Flow.move rfl
                go_wp2_with fail
                refine ⟨fun _ => ?_, ?_⟩
                · repeat' (first | exact Bl.refl _ | refine Bl.drewL ?_ | refine Bl.drew ?_ | refine Bl.alloc ?_ _)
                apply Flow.move rfl
                go_wp2_with fail
                refine (first3_any _ _ _ _ _ (Blk.new _ _ _)).mono ?_
                rintro e w' ⟨rfl, rfl⟩
                go_wp2_with fail
                refine ⟨fun _ => (by first | exact HB4 | exact Bl.refl _), ?_⟩
                iterate 1
                  apply Flow.asg _ rfl
                  · intro K' hK'
                    simp only [Act.put, Act.eval, List.setIfInBounds_toArray, List.set_cons_zero, List.set_cons_succ, arr_getD, List.getD_cons_zero, List.getD_cons_succ]
                    exact hK'
                refine Flow.done ?_
                have l5 := (w52.bl hc35).lt
                have l6 := (w53.bl hc35).lt
                clear k3 k4
                by_cases he : E3 = 0
                · have hq : (E3 != 0) = false := by simp [he]
                  have hq2 : (E3 == 0) = true := by simp [he]
                  obtain ⟨p1, p2, eW, eH⟩ := diffErr_zero (HE3.out.symm.trans he)
                  have hn := Hd2.out he
                  have hcd : ∀ o, Bl w5 (w35.alloc o) := fun o => hc35.alloc o
                  have Hcd := Lib.hid hcd
                  clear hcd hb hf3
                  subst eW eH
                  obtain ⟨W, H, rfl, rfl, rfl, u1, u2, u3⟩ := page_nat p1
                  obtain rfl : cn = W * H := by
                    have h1 := (pageErr_zero p2).2
                    have h2 := Int.natCast_mul W H
                    go_light
                    omega
                  simp only [Int.toNat_natCast] at hn
                  have ck := fun w h1 h2 => differOf_any W H A C ac cc bs cs 0 0 w h1 h2 u1 u2 (by decide) (by decide)
                  rw [← hn] at ck
                  have Ck := Lib.hid ck
                  clear ck hn p1 p2 he Hd1 Hd2 HE3
                  go_wp2_with fail
                  refine (Ck.out _ (HA.out.bl (Hcd.out _)) (HC.out.bl (Hcd.out _))).mono ?_
                  rintro e w36 ⟨rfl, hb36⟩
                  go_wp2_with fail
                  go_ret
                  exact ⟨rfl, (w5b.trans (Hcd.out _)).trans hb36⟩
                · have hq : (E3 != 0) = true := by simp [he]
                  have hq2 : (E3 == 0) = false := by simp [he]
                  obtain rfl := Hd1.out he
                  clear he
                  go_wp2_with fail
                  go_ret
                  exact ⟨rfl, w5b.trans (hc35.alloc _)⟩

end Go.Proofs.Ytccgncjncklheaa
