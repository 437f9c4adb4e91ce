/- The law on how a page lies on another one. -/
import Derived.Test.YtccgncjncklheaaAlign5
import Derived.Test.YtccgncjncklheaaSkew4
namespace Go.Proofs.Ytccgncjncklheaa
open Go.RowKit

set_option maxRecDepth 100000 in
set_option maxHeartbeats 8000000 in
theorem lawAligns_any (aW aH bW bH : Int) (A C : Option Addr) (an ac bn cc : Nat) (bs cs : List Bool) (r : Int) (w : World) (hA : Reads w 1 A an (bs.map .bool)) (hC : Reads w 1 C bn (cs.map .bool)) :
    Calls Try.prog 6 #[.agg #[.int .i64 aW, .int .i64 aH, .slice A an ac], .agg #[.int .i64 bW, .int .i64 bH, .slice C bn cc], .int .i64 r] w
      fun e w' => e = .returned (.bool true) ∧ Bl w w' := by
  let w2 := ((w).alloc (.cells #[.int .i64 aW, .int .i64 aH, .slice A an ac] 39)).alloc (.cells #[.int .i64 bW, .int .i64 bH, .slice C bn cc] 39)
  have w2b : Bl w w2 := ((Bl.refl w).alloc _).alloc _
  have w21 : Blk w2 (w.heap.size) 39 #[.int .i64 aW, .int .i64 aH, .slice A an ac] := by
    have h0 := Blk.new (w) 39 #[.int .i64 aW, .int .i64 aH, .slice A an ac]
    exact (h0.alloc _)
  have w22 : Blk w2 (w.heap.size + 1) 39 #[.int .i64 bW, .int .i64 bH, .slice C bn cc] := by
    have h0 := Blk.new ((w).alloc (.cells #[.int .i64 aW, .int .i64 aH, .slice A an ac] 39)) 39 #[.int .i64 bW, .int .i64 bH, .slice C bn cc]
    simp only [World.size_alloc] at h0
    exact h0
  have k1 := w21.all3
  have k2 := w22.all3
  have hA2 := hA.bl w2b
  have hC2 := hC.bl w2b
  have HA := Lib.hid hA2; have HC := Lib.hid hC2
  clear hA hC hA2 hC2
  obtain ⟨E, hE⟩ : ∃ E, E = alignErr aW aH bW bH an bn r := ⟨_, rfl⟩
  have hcall := fun w h1 h2 => align_any aW aH bW bH A C an ac bn cc bs cs r w h1 h2
  rw [← hE] at hcall
  have Hcall := Lib.hid hcall
  have HE := Lib.hid hE
  clear hcall hE
  go_enter Try.func6, Try.ntmps6
  go_wp2_with fail
  refine (Hcall.out _ HA.out HC.out).mono ?_
  rintro e w3 ⟨X, Y, N, rfl, hbad, hok, hb3⟩
  have Hbad := Lib.hid hbad; have Hok := Lib.hid hok
  have k3 := (w21.bl hb3).all3
  have k4 := (w22.bl hb3).all3
  clear hbad hok k1 k2
  go_upto_region 2 with fail
  have hcase : ∃ b, (aW != bW) = b ∧ firstNZ [pageErr aW aH an, pageErr bW bH bn, whenI (if b then true else (aH != bH)) 11, whenI (!inB r 0 8) 3] = E := by
    refine ⟨_, rfl, ?_⟩
    rw [HE.out]; unfold alignErr
    cases (aW != bW) <;> rfl
  obtain ⟨b, hb, hf⟩ := hcase
  cases b
  all_goals
    simp only [if_true, Bool.false_eq_true, if_false] at hf
    refine wp_region_flow [(true, 0), (true, 2), (true, 4), (true, 5), (true, 6), (true, 7), (true, 8), (true, 17), (false, 1), (false, 3), (true, 9), (true, 10), (true, 11), (true, 12), (true, 13), (true, 14), (true, 15), (false, 16), (false, 18), (true, 19), (false, 20), (false, 21), (false, 22), (true, 23)] (fun _ => false) (by kernel_rfl) (by kernel_rfl) (by kernel_rfl) (by kernel_rfl) ?_
    iterate 2
      apply Flow.calm2 _ _ rfl rfl
      · intro w' hb' K' hK'
        obtain ⟨hc', hf'⟩ := hb'.rule
        go_simp
        try go_ints
        exact hK'
      · intro K' hK'
        simp only [Act.put, List.setIfInBounds_toArray, List.set_cons_zero, List.set_cons_succ]
        exact hK'
    iterate 1
      apply Flow.calm2 _ _ rfl rfl
      · intro w' hb' K' hK'
        obtain ⟨hc', hf'⟩ := hb'.rule
        go_simp
        try go_ints
        exact hK'
      · intro K' hK'
        simp only [Act.put, List.setIfInBounds_toArray, List.set_cons_zero, List.set_cons_succ]
        exact hK'
    iterate 1
      apply Flow.calm2 _ _ rfl rfl
      · intro w' hb' K' hK'
        obtain ⟨hc', hf'⟩ := hb'.rule
        go_simp
        try go_ints
        exact hK'
      · intro K' hK'
        simp only [Act.put, List.setIfInBounds_toArray, List.set_cons_zero, List.set_cons_succ]
        exact hK'
    iterate 1
      apply Flow.calm2 _ _ rfl rfl
      · intro w' hb' K' hK'
        obtain ⟨hc', hf'⟩ := hb'.rule
        go_simp
        try go_ints
        exact hK'
      · intro K' hK'
        simp only [Act.put, List.setIfInBounds_toArray, List.set_cons_zero, List.set_cons_succ]
        exact hK'
    iterate 1
      apply Flow.calm2 _ _ rfl rfl
      · intro w' hb' K' hK'
        obtain ⟨hc', hf'⟩ := hb'.rule
        go_simp
        try go_ints
        exact hK'
      · intro K' hK'
        simp only [Act.put, List.setIfInBounds_toArray, List.set_cons_zero, List.set_cons_succ]
        exact hK'
    iterate 1
      apply Flow.calm2 _ _ rfl rfl
      · intro w' hb' K' hK'
        obtain ⟨hc', hf'⟩ := hb'.rule
        go_simp
        try go_ints
        exact hK'
      · intro K' hK'
        simp only [Act.put, List.setIfInBounds_toArray, List.set_cons_zero, List.set_cons_succ]
        exact hK'
    iterate 1
      apply Flow.mv _ rfl
      · intro K' hK'
        simp only [Act.put, Act.eval, List.setIfInBounds_toArray, List.set_cons_zero, List.set_cons_succ, arr_getD, List.getD_cons_zero, List.getD_cons_succ]
        exact hK'
    apply Flow.move rfl
    go_wp2_with fail
    refine (bitsError_any _ _ _ _ _ _).mono ?_
    rintro e w4 ⟨rfl, HB1⟩
    go_wp2_with fail
    refine ⟨fun _ => (by first | exact HB1 | exact Bl.refl _), ?_⟩
    apply Flow.move rfl
    go_wp2_with fail
    refine (bitsError_any _ _ _ _ _ _).mono ?_
    rintro e w5 ⟨rfl, HB2⟩
    have hb5 := (hb3.trans HB1.ofDrew).trans HB2
    have k5 := (w21.bl hb5).all3
    have k6 := (w22.bl hb5).all3
    go_wp2_with fail
    refine ⟨fun _ => (by first | exact HB2 | exact Bl.refl _), ?_⟩
    iterate 1
      apply Flow.mv _ rfl
      · intro K' hK'
        simp only [Act.put, Act.eval, List.setIfInBounds_toArray, List.set_cons_zero, List.set_cons_succ, arr_getD, List.getD_cons_zero, List.getD_cons_succ]
        exact hK'
    first
      | (apply Flow.pass rfl (by rfl))
      | (apply Flow.calmG _ rfl (by rfl)
         · intro w' hb'
           obtain ⟨hc', hf'⟩ := hb'.rule
           go_simp
           all_goals (try rfl))
    simp only [Act.put, List.setIfInBounds_toArray, List.set_cons_zero, List.set_cons_succ]
    try go_ints
    first
      | (apply Flow.pass rfl (by rfl))
      | (apply Flow.calmG _ rfl (by rfl)
         · intro w' hb'
           obtain ⟨hc', hf'⟩ := hb'.rule
           go_simp
           all_goals (try rfl))
    simp only [Act.put, List.setIfInBounds_toArray, List.set_cons_zero, List.set_cons_succ]
    try go_ints
    first
      | (apply Flow.pass rfl (by rfl))
      | (apply Flow.calmG _ rfl (by rfl)
         · intro w' hb'
           obtain ⟨hc', hf'⟩ := hb'.rule
           go_simp
           all_goals (try rfl))
    simp only [Act.put, List.setIfInBounds_toArray, List.set_cons_zero, List.set_cons_succ]
    try go_ints
    first
      | (apply Flow.pass rfl (by rfl))
      | (apply Flow.calmG _ rfl (by rfl)
         · intro w' hb'
           obtain ⟨hc', hf'⟩ := hb'.rule
           go_simp
           all_goals (try rfl))
    simp only [Act.put, List.setIfInBounds_toArray, List.set_cons_zero, List.set_cons_succ]
    try go_ints
    first
      | (apply Flow.pass rfl (by rfl))
      | (apply Flow.calmG _ rfl (by rfl)
         · intro w' hb'
           obtain ⟨hc', hf'⟩ := hb'.rule
           go_simp
           all_goals (try rfl))
    simp only [Act.put, List.setIfInBounds_toArray, List.set_cons_zero, List.set_cons_succ]
    try go_ints
    iterate 1
      apply Flow.calm2 _ _ rfl rfl
      · intro w' hb' K' hK'
        obtain ⟨hc', hf'⟩ := hb'.rule
        go_simp
        try go_ints
        exact hK'
      · intro K' hK'
        simp only [Act.put, List.setIfInBounds_toArray, List.set_cons_zero, List.set_cons_succ]
        exact hK'
    apply Flow.move rfl
    go_wp2_with fail
    refine (when_any _ _ _).mono ?_
    rintro e w' ⟨rfl, rfl⟩
    go_wp2_with fail
    refine ⟨fun _ => (by first | exact HB3 | exact Bl.refl _), ?_⟩
    apply Flow.move rfl
    go_wp2_with fail
    refine (in_any _ _ _ _).mono ?_
    rintro e w' ⟨rfl, rfl⟩
    go_wp2_with fail
    refine ⟨fun _ => (by first | exact HB4 | exact Bl.refl _), ?_⟩
    iterate 1
      apply Flow.calm2 _ _ rfl rfl
      · intro w' hb' K' hK'
        obtain ⟨hc', hf'⟩ := hb'.rule
        go_simp
        try go_ints
        exact hK'
      · intro K' hK'
        simp only [Act.put, List.setIfInBounds_toArray, List.set_cons_zero, List.set_cons_succ]
        exact hK'
    apply Flow.move rfl
    go_wp2_with fail
    refine (when_any _ _ _).mono ?_
    rintro e w' ⟨rfl, rfl⟩
    go_wp2_with fail
    refine ⟨fun _ => (by first | exact HB5 | exact Bl.refl _), ?_⟩
    apply Flow.move rfl
    go_wp2_with fail
    refine ⟨fun _ => ?_, ?_⟩
    · repeat' (first | exact Bl.refl _ | refine Bl.drewL ?_ | refine Bl.drew ?_ | refine Bl.alloc ?_ _)
    apply Flow.move rfl
    go_wp2_with fail
    refine (first4_any _ _ _ _ _ _ (Blk.new _ _ _)).mono ?_
    rintro e w' ⟨rfl, rfl⟩
    go_wp2_with fail
    refine ⟨fun _ => (by first | exact HB7 | exact Bl.refl _), ?_⟩
    iterate 1
      apply Flow.asg _ rfl
      · intro K' hK'
        simp only [Act.put, Act.eval, List.setIfInBounds_toArray, List.set_cons_zero, List.set_cons_succ, arr_getD, List.getD_cons_zero, List.getD_cons_succ]
        exact hK'
    refine Flow.done ?_
    by_cases he : E = 0
    · have hq : (E != 0) = false := by simp [he]
      have hst := Hok.out he
      obtain ⟨p1, p2, eW, eH, r1, r2⟩ := alignErr_zero (HE.out.symm.trans he)
      have hb7' : ∀ o w7, Bl (w5.alloc o) w7 → Bl w2 w7 := fun o w7 h => (hb5.trans ((Bl.refl _).alloc o)).trans h
      subst eW eH
      obtain ⟨W, H, rfl, rfl, rfl, u1, u2, u3⟩ := page_nat p1
      obtain rfl : bn = W * H := by
        have h1 := (pageErr_zero p2).2
        have h2 := Int.natCast_mul W H
        omega
      obtain ⟨r, rfl⟩ := Int.eq_ofNat_of_zero_le r1
      simp only [Int.toNat_natCast] at hst
      have Hst := Lib.hid hst
      have hr8 : r ≤ 8 := by omega
      have He := Lib.hid he
      clear hst p1 p2 he hb hf k3 k4 k5 k6
      go_wp2_with fail
      refine (skews_any _).mono ?_
      rintro e w7 ⟨rfl, hb7⟩
      have hc7 := hb7' _ _ hb7
      have k7 := (w21.bl hc7).all3
      clear hb7'
      by_cases hbig : (900 : Int) < (W : Int) * (H : Int)
      · have he := He.out
        go_wp2_with fail
        go_ret
        exact ⟨rfl, w2b.trans hc7⟩
      · go_wp2_with fail
        refine (nearest_any r (cntAll bs cs W H) 51 #[.pointer (some ⟨w.heap.size, 0, none⟩), .pointer (some ⟨w.heap.size + 1, 0, none⟩)] _ hr8 aligns2_enters
          (fun wx x y hbx h1 h2 => aligns2_any _ _ W H A C ac cc bs cs x y wx ((w21.bl hc7).bl hbx) ((w22.bl hc7).bl hbx) ((HA.out.bl hc7).bl hbx) ((HC.out.bl hc7).bl hbx) u1 u2 h1 h2)).mono ?_
        rintro e w8 ⟨X', Y', N', fd, rfl, hstn, hb8⟩
        obtain ⟨rfl, rfl, rfl⟩ := Hst.out.same hstn
        clear hstn
        have he := He.out
        go_wp2_with fail
        go_ret
        exact ⟨rfl, (w2b.trans hc7).trans hb8⟩
    · have hq : (E != 0) = true := by simp [he]
      obtain ⟨rfl, rfl, rfl⟩ := Hbad.out he
      clear he
      go_wp2_with fail
      refine (skews_any _).mono ?_
      rintro e w7 ⟨rfl, hb7⟩
      go_wp2_with fail
      refine (skews_any _).mono ?_
      rintro e w8 ⟨rfl, hb8⟩
      go_wp2_with fail
      go_ret
      exact ⟨rfl, ((w2b.trans hb5).trans (Bl.trans ((Bl.refl _).alloc _) hb7)).trans hb8⟩

end Go.Proofs.Ytccgncjncklheaa
