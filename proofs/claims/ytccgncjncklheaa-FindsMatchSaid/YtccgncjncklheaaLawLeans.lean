/- The law on leaning, slanting and profiles. -/
import Derived.Test.YtccgncjncklheaaProfOf
import Derived.Test.YtccgncjncklheaaLib1
namespace Go.Proofs.Ytccgncjncklheaa
open Go.RowKit

set_option maxHeartbeats 400000 in
theorem leanError_any (n lo : Int) (w : World) : Calls Try.prog 53 #[.int .i64 n, .int .i64 lo] w fun e w' => e = .returned (.int .i64 (whenI (!inB n lo 256) 3)) ∧ w = w' := by
  go_enter Try.func53, Try.ntmps53
  go_wp2_with (first | (go_at_call 15; refine (in_any _ _ _ _).mono ?_; rintro e w' ⟨rfl, rfl⟩) | (go_at_call 14; refine (when_any _ _ _).mono ?_; rintro e w' ⟨rfl, rfl⟩))
  go_ret
  exact ⟨rfl, rfl⟩

theorem equalTabs_any (A B : Option Addr) (c d N : Nat) (f : Nat → Int) (w : World) (hx : Reads w 1 A N ((tabL N f).map (.int .i64))) (hy : Reads w 1 B N ((tabL N f).map (.int .i64))) (hN : N ≤ 1099511627776) :
    Calls Try.prog 18 #[.slice A N c, .slice B N d] w fun e w' => e = .returned (.bool true) ∧ Bl w w' := by
  have h := equalInts_any A B c d (tabL N f) (tabL N f) w (by rw [tabL_len]; exact hx) (by rw [tabL_len]; exact hy) (by rw [tabL_len]; exact hN)
  rw [tabL_len] at h
  simpa using h

set_option maxRecDepth 100000 in
set_option maxHeartbeats 8000000 in
theorem lawLeans_any (bW bH : Int) (A : Option Addr) (an ac : Nat) (bs : List Bool) (n : Int) (w : World) (hA : Reads w 1 A an (bs.map .bool)) :
    Calls Try.prog 7 #[.agg #[.int .i64 bW, .int .i64 bH, .slice A an ac], .int .i64 n] w
      fun e w' => e = .returned (.bool true) ∧ Bl w w' := by
  let w2 := (w).alloc (.cells #[.int .i64 bW, .int .i64 bH, .slice A an ac] 39)
  have w2b : Bl w w2 := (Bl.refl w).alloc _
  have w21 : Blk w2 (w.heap.size) 39 #[.int .i64 bW, .int .i64 bH, .slice A an ac] := by
    have h0 := Blk.new (w) 39 #[.int .i64 bW, .int .i64 bH, .slice A an ac]
    exact h0
  have k1 := w21.all3
  have hA2 := hA.bl w2b
  have HA := Lib.hid hA2
  clear hA hA2
  obtain ⟨E, hE⟩ : ∃ E, E = leanErr bW bH an n := ⟨_, rfl⟩
  have hf : firstNZ [pageErr bW bH an, whenI (!inB n (-256) 256) 3] = E := hE.symm
  have c1 := fun w h => lean_any bW bH A an ac bs n w h
  have c2 := fun w h => slant_any bW bH A an ac bs n w h
  have c3 := fun w h => profiles_any bW bH A an ac bs n w h
  have c4 := fun w h => score_any bW bH A an ac bs n w h
  rw [← hE] at c1 c2 c3 c4
  have C1 := Lib.hid c1; have C2 := Lib.hid c2; have C3 := Lib.hid c3; have C4 := Lib.hid c4
  have HE := Lib.hid hE
  clear c1 c2 c3 c4 hE
  go_enter Try.func7, Try.ntmps7
  go_wp2_with fail
  refine (bitsError_any _ _ _ _ _ _).mono ?_
  rintro e w3 ⟨rfl, hb3⟩
  have k3 := (w21.bl hb3).all3
  have l3 := (w21.bl hb3).lt
  have hb3' : Bl w2 (w3.alloc (.cells #[.int .i64 (pageErr bW bH an), .int .i64 (whenI (!inB n (-256) 256) 3)] 26)) := hb3.alloc _
  go_wp2_with (first | (go_at_call 53; refine (leanError_any _ _ _).mono ?_; rintro e w' ⟨rfl, rfl⟩) | (go_at_call 12; refine (first2_any _ _ _ _ (Blk.new _ _ _)).mono ?_; rintro e w' ⟨rfl, rfl⟩))
  refine (C1.out _ (HA.out.bl hb3')).mono ?_
  rintro e w4 ⟨x1, x2, xR, xn, xc, rfl, xres, hb4⟩
  have hc4 := hb3'.trans hb4
  have bx := Blk.new w4 39 #[.int .i64 x1, .int .i64 x2, .slice xR xn xc]
  have hc4' := hc4.alloc (.cells #[.int .i64 x1, .int .i64 x2, .slice xR xn xc] 39)
  have XR := Lib.hid (xres.bl ((Bl.refl w4).alloc (.cells #[.int .i64 x1, .int .i64 x2, .slice xR xn xc] 39)))
  have k4 := (w21.bl hc4).all3
  have l4 := (w21.bl hc4).lt
  clear k3 l3 k1 xres hb4
  go_wp2_with fail
  refine (C2.out _ (HA.out.bl hc4')).mono ?_
  rintro e w5 ⟨y1, y2, yR, yn, yc, rfl, yres, hb5⟩
  have hc5 := hc4'.trans hb5
  have bx5 := (bx.bl hb5).alloc (.cells #[.int .i64 y1, .int .i64 y2, .slice yR yn yc] 39)
  have hy := Blk.new w5 39 #[.int .i64 y1, .int .i64 y2, .slice yR yn yc]
  have hc5' := hc5.alloc (.cells #[.int .i64 y1, .int .i64 y2, .slice yR yn yc] 39)
  have YR := Lib.hid (yres.bl ((Bl.refl w5).alloc (.cells #[.int .i64 y1, .int .i64 y2, .slice yR yn yc] 39)))
  have XR5 := Lib.hid (XR.out.bl (hb5.alloc (.cells #[.int .i64 y1, .int .i64 y2, .slice yR yn yc] 39)))
  have k5 := (w21.bl hc5).all3
  have l5 := (w21.bl hc5).lt
  clear k4 l4 bx XR yres
  go_wp2_with fail
  refine (C3.out _ (HA.out.bl hc5')).mono ?_
  rintro e w6 ⟨P, m, pc, rfl, pres, hb6⟩
  have hc6 := hc5'.trans hb6
  have PR := Lib.hid pres
  have k6 := (w21.bl hc6).all3
  have bx6 := bx5.bl hb6
  have by6 := hy.bl hb6
  have XR6 := Lib.hid (XR5.out.bl hb6); have YR6 := Lib.hid (YR.out.bl hb6)
  clear k5 l5 pres bx5 hy XR5 YR hb3' hc4' hc5'
  go_wp2_with fail
  refine (C4.out _ (HA.out.bl hc6)).mono ?_
  rintro e w7 ⟨s, rfl, hs1, hs2, hb7⟩
  have hc7 := hc6.trans hb7
  have k7 := (w21.bl hc7).all3
  have bx7 := bx6.bl hb7
  have by7 := by6.bl hb7
  have XR7 := Lib.hid (XR6.out.bl hb7); have YR7 := Lib.hid (YR6.out.bl hb7); have PR7 := Lib.hid (PR.out.bl hb7)
  have HS1 := Lib.hid hs1; have HS2 := Lib.hid hs2
  clear k6 bx6 by6 XR6 YR6 PR hs1 hs2
  go_wp2_with fail
  refine (skews_any _).mono ?_
  rintro e w8 ⟨rfl, hb8⟩
  have hc8 := hc7.trans hb8
  have k8 := (w21.bl hc8).all3
  have bx8 := bx7.bl hb8
  have by8 := by7.bl hb8
  have XR8 := Lib.hid (XR7.out.bl hb8); have YR8 := Lib.hid (YR7.out.bl hb8); have PR8 := Lib.hid (PR7.out.bl hb8)
  clear k7 bx7 by7 XR7 YR7 PR7
  by_cases he : E = 0
  · obtain ⟨p1, hn⟩ := leanErr_zero (HE.out.symm.trans he)
    obtain ⟨W, H, rfl, rfl, rfl, u1, u2, u3⟩ := page_nat p1
    have hz := sizeErr_zero (pageErr_zero p1).1
    have hH : 1 ≤ H ∧ H ≤ 4000 := by omega
    simp only [Int.toNat_natCast] at XR8 YR8
    have X8 := Lib.hid (XR8.out.1 he).is
    have Y8 := Lib.hid (YR8.out.1 he).is
    have hs := HS1.out he
    obtain ⟨em, hP⟩ := PR8.out.1 he
    simp only [Int.toNat_natCast] at hs em hP
    subst em hs
    have HP8 := Lib.hid hP
    have He := Lib.hid he
    clear p1 hz hP PR8 HS1 HS2 XR8 YR8 hf
    cases hsm : smallB W H
    · have Hsm := Lib.hid hsm; clear hsm
      go_wp2_with (go_at_call 21; refine (small_any _ _ _).mono ?_; rintro e w' ⟨rfl, rfl⟩; rw [Hsm.out])
      refine (skews_any _).mono ?_
      rintro e w9 ⟨rfl, hb9⟩
      go_wp2_with fail
      go_ret
      exact ⟨rfl, (w2b.trans hc8).trans hb9⟩
    · have Hsm := Lib.hid hsm; clear hsm
      go_wp2_with (first | (go_at_call 21; refine (small_any _ _ _).mono ?_; rintro e w' ⟨rfl, rfl⟩; rw [Hsm.out]))
      refine (profileOf_any W H A ac bs n _ (HA.out.bl hc8) u1 hH hn).mono ?_
      rintro e w9 ⟨g, rfl, hbg, hb9⟩
      have hc9 := hc8.trans hb9
      have k9 := (w21.bl hc9).all3
      have bx9 := (bx8.bl hb9).all3
      have G9 := Lib.hid hbg.tabReads
      have by9 := by8.bl hb9
      clear hbg k8
      go_upto_region 11 with fail
      refine wp_region_flow [(true, 0), (true, 1), (true, 2), (true, 3), (true, 4), (true, 5), (false, 6), (false, 7), (true, 8), (true, 9), (true, 10), (true, 11), (true, 12), (true, 13), (true, 14), (true, 15), (true, 16), (false, 17), (false, 18), (true, 19), (true, 20), (true, 21), (true, 22), (true, 23), (true, 24), (true, 25), (true, 26), (false, 27), (true, 28), (true, 29), (true, 30), (true, 31), (true, 32), (true, 33), (true, 34), (true, 35), (false, 36), (true, 37), (true, 38), (true, 39)] (fun _ => false) (by kernel_rfl) (by kernel_rfl) (by kernel_rfl) (by kernel_rfl) ?_
      iterate 1
        apply Flow.mv _ rfl
        · intro K' hK'
          simp only [Act.put, Act.eval, List.setIfInBounds_toArray, List.set_cons_zero, List.set_cons_succ, arr_getD, List.getD_cons_zero, List.getD_cons_succ]
          exact hK'
      iterate 1
        apply Flow.calm2 _ _ rfl rfl
        · intro w' hb' K' hK'
          obtain ⟨hc', hf'⟩ := hb'.rule
          go_simp
          try go_ints
          exact hK'
        · intro K' hK'
          simp only [Act.put, List.setIfInBounds_toArray, List.set_cons_zero, List.set_cons_succ]
          exact hK'
      iterate 1
        apply Flow.mv _ rfl
        · intro K' hK'
          simp only [Act.put, Act.eval, List.setIfInBounds_toArray, List.set_cons_zero, List.set_cons_succ, arr_getD, List.getD_cons_zero, List.getD_cons_succ]
          exact hK'
      first
        | (apply Flow.pass rfl (by rfl))
        | (apply Flow.calmG _ rfl (by rfl)
           · intro w' hb'
             obtain ⟨hc', hf'⟩ := hb'.rule
             go_simp
             all_goals (try rfl))
      simp only [Act.put, List.setIfInBounds_toArray, List.set_cons_zero, List.set_cons_succ]
      try go_ints
      first
        | (apply Flow.pass rfl (by rfl))
        | (apply Flow.calmG _ rfl (by rfl)
           · intro w' hb'
             obtain ⟨hc', hf'⟩ := hb'.rule
             go_simp
             all_goals (try rfl))
      simp only [Act.put, List.setIfInBounds_toArray, List.set_cons_zero, List.set_cons_succ]
      try go_ints
      first
        | (apply Flow.pass rfl (by rfl))
        | (apply Flow.calmG _ rfl (by rfl)
           · intro w' hb'
             obtain ⟨hc', hf'⟩ := hb'.rule
             go_simp
             all_goals (try rfl))
      simp only [Act.put, List.setIfInBounds_toArray, List.set_cons_zero, List.set_cons_succ]
      try go_ints
      -- a guarded mover
      apply Flow.move rfl
      go_wp2_with fail
      refine (leanOf_any W H A ac bs n _ (HA.out.bl hc9.drew) u1 hH.2 hn).mono ?_
      rintro e w10 ⟨R1, d1, rfl, hR1, _, HB1⟩
      have hb10 : Bl w9 w10 := Bl.ofDrew HB1
      go_wp2_with fail
      refine ⟨fun _ => (by first | exact HB1 | exact Bl.refl _), ?_⟩
      -- a guarded mover
      apply Flow.move rfl
      go_wp2_with fail
      refine (sameBits_any W H _ _ (grid W H (leanF bs W H n)) _ ((X8.out.bl hb9).bl hb10) ⟨R1, d1, rfl, hR1⟩ (by omega)).mono ?_
      rintro e w11 ⟨rfl, HB2⟩
      have hb11 : Bl w9 w11 := hb10.trans HB2
      have k11 := (w21.bl (hc9.trans hb11)).all3
      have by11 := (by9.bl hb11).all3
      go_wp2_with fail
      refine ⟨fun _ => (by first | exact HB2 | exact Bl.refl _), ?_⟩
      iterate 1
        apply Flow.calm2 _ _ rfl rfl
        · intro w' hb' K' hK'
          obtain ⟨hc', hf'⟩ := hb'.rule
          go_simp
          try go_ints
          exact hK'
        · intro K' hK'
          simp only [Act.put, List.setIfInBounds_toArray, List.set_cons_zero, List.set_cons_succ]
          exact hK'
      iterate 1
        apply Flow.mv _ rfl
        · intro K' hK'
          simp only [Act.put, Act.eval, List.setIfInBounds_toArray, List.set_cons_zero, List.set_cons_succ, arr_getD, List.getD_cons_zero, List.getD_cons_succ]
          exact hK'
      first
        | (apply Flow.pass rfl (by rfl))
        | (apply Flow.calmG _ rfl (by rfl)
           · intro w' hb'
             obtain ⟨hc', hf'⟩ := hb'.rule
             go_simp
             all_goals (try rfl))
      simp only [Act.put, List.setIfInBounds_toArray, List.set_cons_zero, List.set_cons_succ]
      try go_ints
      first
        | (apply Flow.pass rfl (by rfl))
        | (apply Flow.calmG _ rfl (by rfl)
           · intro w' hb'
             obtain ⟨hc', hf'⟩ := hb'.rule
             go_simp
             all_goals (try rfl))
      simp only [Act.put, List.setIfInBounds_toArray, List.set_cons_zero, List.set_cons_succ]
      try go_ints
      iterate 1
        apply Flow.calm2 _ _ rfl rfl
        · intro w' hb' K' hK'
          obtain ⟨hc', hf'⟩ := hb'.rule
          go_simp
          try go_ints
          exact hK'
        · intro K' hK'
          simp only [Act.put, List.setIfInBounds_toArray, List.set_cons_zero, List.set_cons_succ]
          exact hK'
      iterate 1
        apply Flow.mv _ rfl
        · intro K' hK'
          simp only [Act.put, Act.eval, List.setIfInBounds_toArray, List.set_cons_zero, List.set_cons_succ, arr_getD, List.getD_cons_zero, List.getD_cons_succ]
          exact hK'
      first
        | (apply Flow.pass rfl (by rfl))
        | (apply Flow.calmG _ rfl (by rfl)
           · intro w' hb'
             obtain ⟨hc', hf'⟩ := hb'.rule
             go_simp
             all_goals (try rfl))
      simp only [Act.put, List.setIfInBounds_toArray, List.set_cons_zero, List.set_cons_succ]
      try go_ints
      first
        | (apply Flow.pass rfl (by rfl))
        | (apply Flow.calmG _ rfl (by rfl)
           · intro w' hb'
             obtain ⟨hc', hf'⟩ := hb'.rule
             go_simp
             all_goals (try rfl))
      simp only [Act.put, List.setIfInBounds_toArray, List.set_cons_zero, List.set_cons_succ]
      try go_ints
      first
        | (apply Flow.pass rfl (by rfl))
        | (apply Flow.calmG _ rfl (by rfl)
           · intro w' hb'
             obtain ⟨hc', hf'⟩ := hb'.rule
             go_simp
             all_goals (try rfl))
      simp only [Act.put, List.setIfInBounds_toArray, List.set_cons_zero, List.set_cons_succ]
      try go_ints
      -- a guarded mover
      apply Flow.move rfl
      go_wp2_with fail
      refine (slantOf_any W H A ac bs n _ (HA.out.bl (hc9.trans hb11)) u1 hH.2 hn).mono ?_
      rintro e w12 ⟨R2, d2, rfl, hR2, _, HB3⟩
      go_wp2_with fail
      refine ⟨fun _ => (by first | exact HB3 | exact Bl.refl _), ?_⟩
      -- a guarded mover
      apply Flow.move rfl
      go_wp2_with fail
      refine (sameBits_any W H _ _ (grid W H (slantF bs W H n)) _ ((Y8.out.bl hb9).bl (hb11.trans HB3)) ⟨R2, d2, rfl, hR2⟩ (by omega)).mono ?_
      rintro e w13 ⟨rfl, HB4⟩
      have hb13 : Bl w9 w13 := (hb11.trans HB3).trans HB4
      go_wp2_with fail
      refine ⟨fun _ => (by first | exact HB4 | exact Bl.refl _), ?_⟩
      iterate 1
        apply Flow.calm2 _ _ rfl rfl
        · intro w' hb' K' hK'
          obtain ⟨hc', hf'⟩ := hb'.rule
          go_simp
          try go_ints
          exact hK'
        · intro K' hK'
          simp only [Act.put, List.setIfInBounds_toArray, List.set_cons_zero, List.set_cons_succ]
          exact hK'
      iterate 1
        apply Flow.mv _ rfl
        · intro K' hK'
          simp only [Act.put, Act.eval, List.setIfInBounds_toArray, List.set_cons_zero, List.set_cons_succ, arr_getD, List.getD_cons_zero, List.getD_cons_succ]
          exact hK'
      first
        | (apply Flow.pass rfl (by rfl))
        | (apply Flow.calmG _ rfl (by rfl)
           · intro w' hb'
             obtain ⟨hc', hf'⟩ := hb'.rule
             go_simp
             all_goals (try rfl))
      simp only [Act.put, List.setIfInBounds_toArray, List.set_cons_zero, List.set_cons_succ]
      try go_ints
      first
        | (apply Flow.pass rfl (by rfl))
        | (apply Flow.calmG _ rfl (by rfl)
           · intro w' hb'
             obtain ⟨hc', hf'⟩ := hb'.rule
             go_simp
             all_goals (try rfl))
      simp only [Act.put, List.setIfInBounds_toArray, List.set_cons_zero, List.set_cons_succ]
      try go_ints
      iterate 1
        apply Flow.calm2 _ _ rfl rfl
        · intro w' hb' K' hK'
          obtain ⟨hc', hf'⟩ := hb'.rule
          go_simp
          try go_ints
          exact hK'
        · intro K' hK'
          simp only [Act.put, List.setIfInBounds_toArray, List.set_cons_zero, List.set_cons_succ]
          exact hK'
      iterate 1
        apply Flow.mv _ rfl
        · intro K' hK'
          simp only [Act.put, Act.eval, List.setIfInBounds_toArray, List.set_cons_zero, List.set_cons_succ, arr_getD, List.getD_cons_zero, List.getD_cons_succ]
          exact hK'
      first
        | (apply Flow.pass rfl (by rfl))
        | (apply Flow.calmG _ rfl (by rfl)
           · intro w' hb'
             obtain ⟨hc', hf'⟩ := hb'.rule
             go_simp
             all_goals (try rfl))
      simp only [Act.put, List.setIfInBounds_toArray, List.set_cons_zero, List.set_cons_succ]
      try go_ints
      first
        | (apply Flow.pass rfl (by rfl))
        | (apply Flow.calmG _ rfl (by rfl)
           · intro w' hb'
             obtain ⟨hc', hf'⟩ := hb'.rule
             go_simp
             all_goals (try rfl))
      simp only [Act.put, List.setIfInBounds_toArray, List.set_cons_zero, List.set_cons_succ]
      try go_ints
      -- a guarded mover
      apply Flow.move rfl
      go_wp2_with fail
      refine (equalTabs_any P (some ⟨g, 0, none⟩) pc (2 * H) (2 * H) (profI bs W H n) _ ((HP8.out.bl hb9).bl hb13) (G9.out.bl hb13) (by omega)).mono ?_
      rintro e w14 ⟨rfl, HB5⟩
      go_wp2_with fail
      refine ⟨fun _ => (by first | exact HB5 | exact Bl.refl _), ?_⟩
      iterate 1
        apply Flow.calm2 _ _ rfl rfl
        · intro w' hb' K' hK'
          obtain ⟨hc', hf'⟩ := hb'.rule
          go_simp
          try go_ints
          exact hK'
        · intro K' hK'
          simp only [Act.put, List.setIfInBounds_toArray, List.set_cons_zero, List.set_cons_succ]
          exact hK'
      iterate 1
        apply Flow.mv _ rfl
        · intro K' hK'
          simp only [Act.put, Act.eval, List.setIfInBounds_toArray, List.set_cons_zero, List.set_cons_succ, arr_getD, List.getD_cons_zero, List.getD_cons_succ]
          exact hK'
      first
        | (apply Flow.pass rfl (by rfl))
        | (apply Flow.calmG _ rfl (by rfl)
           · intro w' hb'
             obtain ⟨hc', hf'⟩ := hb'.rule
             go_simp
             all_goals (try rfl))
      simp only [Act.put, List.setIfInBounds_toArray, List.set_cons_zero, List.set_cons_succ]
      try go_ints
      first
        | (apply Flow.pass rfl (by rfl))
        | (apply Flow.calmG _ rfl (by rfl)
           · intro w' hb'
             obtain ⟨hc', hf'⟩ := hb'.rule
             go_simp
             all_goals (try rfl))
      simp only [Act.put, List.setIfInBounds_toArray, List.set_cons_zero, List.set_cons_succ]
      try go_ints
      iterate 1
        apply Flow.calm2 _ _ rfl rfl
        · intro w' hb' K' hK'
          obtain ⟨hc', hf'⟩ := hb'.rule
          go_simp
          try go_ints
          exact hK'
        · intro K' hK'
          simp only [Act.put, List.setIfInBounds_toArray, List.set_cons_zero, List.set_cons_succ]
          exact hK'
      iterate 1
        apply Flow.mv _ rfl
        · intro K' hK'
          simp only [Act.put, Act.eval, List.setIfInBounds_toArray, List.set_cons_zero, List.set_cons_succ, arr_getD, List.getD_cons_zero, List.getD_cons_succ]
          exact hK'
      first
        | (apply Flow.pass rfl (by rfl))
        | (apply Flow.calmG _ rfl (by rfl)
           · intro w' hb'
             obtain ⟨hc', hf'⟩ := hb'.rule
             go_simp
             all_goals (try rfl))
      simp only [Act.put, List.setIfInBounds_toArray, List.set_cons_zero, List.set_cons_succ]
      try go_ints
      first
        | (apply Flow.pass rfl (by rfl))
        | (apply Flow.calmG _ rfl (by rfl)
           · intro w' hb'
             obtain ⟨hc', hf'⟩ := hb'.rule
             go_simp
             all_goals (try rfl))
      simp only [Act.put, List.setIfInBounds_toArray, List.set_cons_zero, List.set_cons_succ]
      try go_ints
      -- a guarded mover
      apply Flow.move rfl
      go_wp2_with fail
      refine (square_any (some ⟨g, 0, none⟩) (2 * H) (2 * H) (profI bs W H n) _ (G9.out.bl (hb13.trans HB5)) (by omega) (profI_bd u3)).mono ?_
      rintro e w15 ⟨rfl, rfl⟩
      go_wp2_with fail
      refine ⟨fun _ => (by first | exact HB6 | exact Bl.refl _), ?_⟩
      first
        | (apply Flow.pass rfl (by rfl))
        | (apply Flow.calmG _ rfl (by rfl)
           · intro w' hb'
             obtain ⟨hc', hf'⟩ := hb'.rule
             go_simp
             all_goals (try rfl))
      simp only [Act.put, List.setIfInBounds_toArray, List.set_cons_zero, List.set_cons_succ]
      try go_ints
      iterate 1
        apply Flow.calm2 _ _ rfl rfl
        · intro w' hb' K' hK'
          obtain ⟨hc', hf'⟩ := hb'.rule
          go_simp
          try go_ints
          exact hK'
        · intro K' hK'
          simp only [Act.put, List.setIfInBounds_toArray, List.set_cons_zero, List.set_cons_succ]
          exact hK'
      iterate 1
        apply Flow.asg _ rfl
        · intro K' hK'
          simp only [Act.put, Act.eval, List.setIfInBounds_toArray, List.set_cons_zero, List.set_cons_succ, arr_getD, List.getD_cons_zero, List.getD_cons_succ]
          exact hK'
      refine Flow.done ?_
      go_wp2_with fail
      go_ret
      exact ⟨by simp [scoreI], ((w2b.trans hc9).trans hb13).trans HB5⟩
  · have hq : (E == 0) = false := by simp [he]
    have hq2 : (E != 0) = true := by simp [he]
    obtain ⟨rfl, rfl, rfl, rfl, rfl⟩ := XR8.out.2 he
    obtain ⟨rfl, rfl, rfl, rfl, rfl⟩ := YR8.out.2 he
    obtain ⟨rfl, rfl⟩ := PR8.out.2 he
    obtain rfl := HS2.out he
    have kx := bx8.all3
    have ky := by8.all3
    clear he
    go_wp2_with fail
    refine (noBits_zero _).mono ?_
    rintro e w9 ⟨rfl, hb9⟩
    have ky := (by8.bl hb9).all3
    clear kx
    go_wp2_with fail
    refine (noBits_zero _).mono ?_
    rintro e w10 ⟨rfl, hb10⟩
    go_wp2_with fail
    go_ret
    exact ⟨rfl, ((w2b.trans hc8).trans hb9).trans hb10⟩

end Go.Proofs.Ytccgncjncklheaa
