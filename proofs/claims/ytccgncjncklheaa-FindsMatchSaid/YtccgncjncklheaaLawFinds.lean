/- The law on finding by how much pages lean, and which way they lie. -/
import Derived.Test.YtccgncjncklheaaFind3
import Derived.Test.YtccgncjncklheaaLawLeans
import Derived.Deep.CutRange
import Derived.Deep.Light
namespace Go.Proofs.Ytccgncjncklheaa
open Go.RowKit

theorem leanF_neg (bs : List Bool) (W H : Nat) (n q : Int) (h : -n = q) : leanF bs W H (-n) = leanF bs W H q := by rw [h]

set_option maxRecDepth 100000 in
set_option maxHeartbeats 40000000 in
theorem lawFinds_any (bW bH : Int) (A : Option Addr) (an ac : Nat) (bs : List Bool) (most : Int) (w : World) (hA : Reads w 1 A an (bs.map .bool)) :
    Calls Try.prog 9 #[.agg #[.int .i64 bW, .int .i64 bH, .slice A an ac], .int .i64 most] w
      fun e w' => e = .returned (.bool true) ∧ Bl w w' := by
  let w2 := (w).alloc (.cells #[.int .i64 bW, .int .i64 bH, .slice A an ac] 39)
  have w2b : Bl w w2 := (Bl.refl w).alloc _
  have w21 : Blk w2 (w.heap.size) 39 #[.int .i64 bW, .int .i64 bH, .slice A an ac] := by
    have h0 := Blk.new (w) 39 #[.int .i64 bW, .int .i64 bH, .slice A an ac]
    exact h0
  have k1 := w21.all3
  have HA := Lib.hid (hA.bl w2b)
  clear hA
  obtain ⟨E, hE⟩ : ∃ E, E = findErr bW bH an most (inkB bs an) := ⟨_, rfl⟩
  obtain ⟨E2, hE2⟩ : ∃ E, E = upErr bW bH an (inkB bs an) := ⟨_, rfl⟩
  have c1 := fun w h => find_any bW bH A an ac bs most w h
  have c2 := fun w h => straight_any bW bH A an ac bs most w h
  have c3 := fun w h => findSlant_any bW bH A an ac bs most w h
  have c4 := fun w h => upright_any bW bH A an ac bs w h
  rw [← hE] at c1 c2 c3
  rw [← hE2] at c4
  have C1 := Lib.hid c1; have C2 := Lib.hid c2; have C3 := Lib.hid c3; have C4 := Lib.hid c4
  have HE := Lib.hid hE; have HE2 := Lib.hid hE2
  clear c1 c2 c3 c4 hE hE2
  go_enter Try.func9, Try.ntmps9
  go_wp2_with fail
  refine (bitsError_any _ _ _ _ _ _).mono ?_
  rintro e w3 ⟨rfl, hb3⟩
  have k3 := (w21.bl hb3).all3
  clear k1
  go_wp2_with fail
  refine (box_any bW bH A an ac bs _ (HA.out.bl hb3)).mono ?_
  rintro e w4 ⟨oX, oY, oW, oH, is, rfl, his, hb4⟩
  have hc4 : Bl w2 (w4.alloc (.cells #[.int .i64 oX, .int .i64 oY, .int .i64 oW, .int .i64 oH] 78)) := (hb3.trans hb4).alloc _
  have Hi := Lib.hid his
  clear his k3
  go_upto_region 3 with fail
  generalize hw5 : w4.alloc (.cells #[.int .i64 oX, .int .i64 oY, .int .i64 oW, .int .i64 oH] 78) = w5 at hc4 ⊢
  clear hw5 hb3 hb4
  go_cut [8] from 20 to 38 (fun s8 wc => s8 = .int .i64 E ∧ Bl w5 wc)
  case first =>
    by_cases hp : pageErr bW bH an = 0
    · have hq : (pageErr bW bH an == 0) = true := by simp [hp]
      have hi := Hi.out hp
      subst hi
      have hf : firstNZ [pageErr bW bH an, whenI (!inB most 0 256) 3, whenI (!inkB bs an) 10] = E := HE.out.symm
      have Hp := Lib.hid hp
      clear hp
      go_wp2_with (first | (go_at_call 53; refine (leanError_any _ _ _).mono ?_; rintro e w' ⟨rfl, rfl⟩) | (go_at_call 14; refine (when_any _ _ _).mono ?_; rintro e w' ⟨rfl, rfl⟩) | (go_at_call 12; refine (first3_any _ _ _ _ _ (Blk.new _ _ _)).mono ?_; rintro e w' ⟨rfl, rfl⟩))
      go_meet
      case rel => exact ⟨rfl, (Bl.refl _).alloc _⟩
    · have hq : (pageErr bW bH an == 0) = false := by simp [hp]
      have hf : ∀ x y, firstNZ [pageErr bW bH an, x, y] = E := fun x y => by rw [HE.out]; unfold findErr; simp only [firstNZ, if_neg hp]
      have Hp := Lib.hid hp
      clear hp
      go_wp2_with (first | (go_at_call 53; refine (leanError_any _ _ _).mono ?_; rintro e w' ⟨rfl, rfl⟩) | (go_at_call 14; refine (when_any _ _ _).mono ?_; rintro e w' ⟨rfl, rfl⟩) | (go_at_call 12; refine (first3_any _ _ _ _ _ (Blk.new _ _ _)).mono ?_; rintro e w' ⟨rfl, rfl⟩))
      go_meet
      case rel => exact ⟨rfl, (Bl.refl _).alloc _⟩
  case rest =>
    obtain ⟨rfl, hcut⟩ := hcut
    have hc6 := hc4.trans hcut
    have k6 := (w21.bl hc6).all3
    clear hcut hc4
    rename World => w6
    go_wp2_with fail
    refine (C1.out _ (HA.out.bl hc6)).mono ?_
    rintro e w7 ⟨n, rfl, hn1, hn2, hb7⟩
    have hc7 := hc6.trans hb7
    have k7 := (w21.bl hc7).all3
    have HN1 := Lib.hid hn1; have HN2 := Lib.hid hn2
    clear k6 hn1 hn2 hc6 hb7
    go_wp2_with fail
    refine (C2.out _ (HA.out.bl hc7)).mono ?_
    rintro e w8 ⟨x1, x2, xR, xn, xc, m, rfl, hm1, hm2, xres, hb8⟩
    have hc9 : Bl w2 (w8.alloc (.cells #[.int .i64 x1, .int .i64 x2, .slice xR xn xc] 39)) := (hc7.trans hb8).alloc _
    have bx := Blk.new w8 39 #[.int .i64 x1, .int .i64 x2, .slice xR xn xc]
    have XR := Lib.hid (xres.bl ((Bl.refl w8).alloc (.cells #[.int .i64 x1, .int .i64 x2, .slice xR xn xc] 39)))
    have HM1 := Lib.hid hm1; have HM2 := Lib.hid hm2
    clear k7 hm1 hm2 xres
    go_upto_region 6 with fail
    generalize hw9 : w8.alloc (.cells #[.int .i64 x1, .int .i64 x2, .slice xR xn xc] 39) = w9 at hc9 bx XR ⊢
    clear hw9 hb8 hc7
    have k9 := (w21.bl hc9).all3
    go_wp2_with fail
    refine (C3.out _ (HA.out.bl hc9)).mono ?_
    rintro e w10 ⟨s, rfl, hs1, hs2, hb10⟩
    have hc10 := hc9.trans hb10
    have bx10 := bx.bl hb10
    have XR10 := Lib.hid (XR.out.bl hb10)
    have HS1 := Lib.hid hs1; have HS2 := Lib.hid hs2
    clear k9 hs1 hs2 bx XR hb10 hc9
    go_upto_region 7 with fail
    go_cut [75] from 58 to 75 (fun s75 wc => (∃ b, s75 = .bool b) ∧ Bl w10 wc)
    case first =>
      go_wp2_with fail
      refine (skews_any _).mono ?_
      rintro e w11 ⟨rfl, hb11⟩
      have k11 := (w21.bl (hc10.trans hb11)).all3
      by_cases he : E = 0
      · have hq : (E == 0) = true := by simp [he]
        clear he
        cases hs1 : smallB bW bH
        · have Hs1 := Lib.hid hs1; clear hs1
          go_wp2_with (go_at_call 21; refine (small_any _ _ _).mono ?_; rintro e w' ⟨rfl, rfl⟩; rw [Hs1.out])
          go_meet
          case rel => exact ⟨⟨_, rfl⟩, hb11⟩
        · have Hs1 := Lib.hid hs1; clear hs1
          go_wp2_with (go_at_call 21; refine (small_any _ _ _).mono ?_; rintro e w' ⟨rfl, rfl⟩; rw [Hs1.out])
          go_meet
          case rel => exact ⟨⟨_, rfl⟩, hb11⟩
      · have hq : (E == 0) = false := by simp [he]
        clear he
        go_wp2_with fail
        go_meet
        case rel => exact ⟨⟨_, rfl⟩, hb11⟩
    case rest =>
      rename World => w11
      obtain ⟨⟨big, rfl⟩, hb11⟩ := hcut
      have hc11 := hc10.trans hb11
      have bx11 := bx10.bl hb11
      have XR11 := Lib.hid (XR10.out.bl hb11)
      clear bx10 XR10 hc10 hb11
      cases big
      case true =>
        go_wp2_with fail
        refine (skews_any _).mono ?_
        rintro e w12 ⟨rfl, hb12⟩
        go_wp2_with fail
        go_ret
        exact ⟨rfl, (w2b.trans hc11).trans hb12⟩
      case false =>
        go_upto_if 91 with fail
        go_cut [9, 12, 14] from 76 to 133 (fun _ _ _ wc => Bl w11 wc)
        case first =>
          by_cases he : E = 0
          · have hq : (E != 0) = false := by simp [he]
            rw [hq]
            obtain ⟨hp, hm, hi⟩ := findErr_zero (HE.out.symm.trans he)
            have hn := HN2.out he
            obtain rfl : m = n := (HM2.out he).trans hn.symm
            have hs := HS2.out he
            have hX := (XR11.out.1 he).is
            have hz := sizeErr_zero (pageErr_zero hp).1
            obtain ⟨W, H, rfl, rfl, rfl, u1, u2, u3⟩ := page_nat hp
            obtain ⟨most, rfl⟩ := Int.eq_ofNat_of_zero_le hm.1
            have hmm : most ≤ 256 := by go_light; omega
            have hH : 1 ≤ H ∧ H ≤ 4000 := by go_light; omega
            simp only [Int.toNat_natCast] at hn hs hX
            have hbd := bestN_bd (negF (scoreI bs W H)) most
            rw [← hn] at hbd
            have hnb : -256 ≤ -m ∧ -m ≤ 256 := by go_light; omega
            have d1 := fun w h => findOf_any W H A ac bs most w h u1 hH u3 hmm
            have d2 := fun w h => findSlantOf_any W H A ac bs most w h u1 hH u3 hmm
            rw [← hn] at d1
            rw [← hs] at d2
            have D1 := Lib.hid d1; have D2 := Lib.hid d2; have HX := Lib.hid hX
            have hn3 : -256 ≤ m ∧ m ≤ 256 := by go_light; omega
            have w4' : W * H ≤ 1099511627776 := Nat.le_trans u3 (by decide)
            have k1 := (w21.bl hc11).all3
            have kx := bx11.all3
            clear hp hm hi hn hs hX hz hbd d1 d2 he HN1 HN2 HM1 HM2 HS1 HS2 XR11 C1 C2 C3
            go_wp2_with fail
            refine (D1.out _ (HA.out.bl hc11)).mono ?_
            rintro e w12 ⟨rfl, hb12⟩
            have hc12 := hc11.trans hb12
            have k12 := (w21.bl hc12).all3
            have kx12 := (bx11.bl hb12).all3
            clear k1 kx
            go_upto_region 15 with fail
            refine wp_region_flow [(true, 0), (true, 1), (true, 2), (true, 3), (true, 4), (true, 5), (true, 6), (true, 7), (true, 8), (true, 9), (true, 10), (true, 11), (true, 12), (false, 13), (false, 14), (true, 15), (true, 16), (true, 17), (true, 18), (true, 19), (true, 20), (false, 21), (true, 22), (true, 23)] (fun _ => false) (by kernel_rfl) (by kernel_rfl) (by kernel_rfl) (by kernel_rfl) ?_
            iterate 2
              apply Flow.mv _ rfl
              · intro K' hK'
                simp only [Act.put, Act.eval, List.setIfInBounds_toArray, List.set_cons_zero, List.set_cons_succ, arr_getD, List.getD_cons_zero, List.getD_cons_succ]
                exact hK'
            iterate 1
              apply Flow.calm2 _ _ rfl rfl
              · intro w' hb' K' hK'
                obtain ⟨hc', hf'⟩ := hb'.rule
                go_simp
                try go_ints
                exact hK'
              · intro K' hK'
                simp only [Act.put, List.setIfInBounds_toArray, List.set_cons_zero, List.set_cons_succ]
                exact hK'
            iterate 1
              apply Flow.mv _ rfl
              · intro K' hK'
                simp only [Act.put, Act.eval, List.setIfInBounds_toArray, List.set_cons_zero, List.set_cons_succ, arr_getD, List.getD_cons_zero, List.getD_cons_succ]
                exact hK'
            first
              | (apply Flow.pass rfl (by rfl))
              | (apply Flow.calmG _ rfl (by rfl)
                 · intro w' hb'
                   obtain ⟨hc', hf'⟩ := hb'.rule
                   go_simp
                   all_goals (try rfl))
            simp only [Act.put, List.setIfInBounds_toArray, List.set_cons_zero, List.set_cons_succ]
            try go_ints
            first
              | (apply Flow.pass rfl (by rfl))
              | (apply Flow.calmG _ rfl (by rfl)
                 · intro w' hb'
                   obtain ⟨hc', hf'⟩ := hb'.rule
                   go_simp
                   all_goals (try rfl))
            simp only [Act.put, List.setIfInBounds_toArray, List.set_cons_zero, List.set_cons_succ]
            try go_ints
            first
              | (apply Flow.pass rfl (by rfl))
              | (apply Flow.calmG _ rfl (by rfl)
                 · intro w' hb'
                   obtain ⟨hc', hf'⟩ := hb'.rule
                   go_simp
                   all_goals (try rfl))
            simp only [Act.put, List.setIfInBounds_toArray, List.set_cons_zero, List.set_cons_succ]
            try go_ints
            iterate 1
              apply Flow.calm2 _ _ rfl rfl
              · intro w' hb' K' hK'
                obtain ⟨hc', hf'⟩ := hb'.rule
                go_simp
                try go_ints
                exact hK'
              · intro K' hK'
                simp only [Act.put, List.setIfInBounds_toArray, List.set_cons_zero, List.set_cons_succ]
                exact hK'
            iterate 1
              apply Flow.mv _ rfl
              · intro K' hK'
                simp only [Act.put, Act.eval, List.setIfInBounds_toArray, List.set_cons_zero, List.set_cons_succ, arr_getD, List.getD_cons_zero, List.getD_cons_succ]
                exact hK'
            first
              | (apply Flow.pass rfl (by rfl))
              | (apply Flow.calmG _ rfl (by rfl)
                 · intro w' hb'
                   obtain ⟨hc', hf'⟩ := hb'.rule
                   go_simp
                   all_goals (try rfl))
            simp only [Act.put, List.setIfInBounds_toArray, List.set_cons_zero, List.set_cons_succ]
            try go_ints
            first
              | (apply Flow.pass rfl (by rfl))
              | (apply Flow.calmG _ rfl (by rfl)
                 · intro w' hb'
                   obtain ⟨hc', hf'⟩ := hb'.rule
                   go_simp
                   all_goals (try rfl))
            simp only [Act.put, List.setIfInBounds_toArray, List.set_cons_zero, List.set_cons_succ]
            try go_ints
            first
              | (apply Flow.pass rfl (by rfl))
              | (apply Flow.calmG _ rfl (by rfl)
                 · intro w' hb'
                   obtain ⟨hc', hf'⟩ := hb'.rule
                   go_simp
                   all_goals (try rfl))
            simp only [Act.put, List.setIfInBounds_toArray, List.set_cons_zero, List.set_cons_succ]
            try go_ints
            first
              | (apply Flow.pass rfl (by rfl))
              | (apply Flow.calmG _ rfl (by rfl)
                 · intro w' hb'
                   obtain ⟨hc', hf'⟩ := hb'.rule
                   go_simp
                   all_goals (try rfl))
            simp only [Act.put, List.setIfInBounds_toArray, List.set_cons_zero, List.set_cons_succ]
            try go_ints
            -- a guarded mover
            apply Flow.move rfl
            go_wp2_with fail
            refine (leanOf_any W H A ac bs (-m) _ (HA.out.bl hc12.drew) u1 hH.2 hnb).mono ?_
            rintro e w13 ⟨R1, d1, rfl, hR1, _, HB1⟩
            have hb13 : Bl w11 w13 := hb12.trans (Bl.ofDrew HB1)
            go_wp2_with fail
            refine ⟨fun _ => (by first | exact HB1 | exact Bl.refl _), ?_⟩
            -- a guarded mover
            apply Flow.move rfl
            go_wp2_with fail
            refine (sameBits_any W H _ _ (grid W H (leanF bs W H (-m))) _ (HX.out.bl hb13) ⟨R1, d1, rfl, hR1⟩ w4').mono ?_
            rintro e w14 ⟨rfl, HB2⟩
            have hb14 : Bl w11 w14 := hb13.trans HB2
            have k14 := (w21.bl (hc11.trans hb14)).all3
            go_wp2_with fail
            refine ⟨fun _ => (by first | exact HB2 | exact Bl.refl _), ?_⟩
            first
              | (apply Flow.pass rfl (by rfl))
              | (apply Flow.calmG _ rfl (by rfl)
                 · intro w' hb'
                   obtain ⟨hc', hf'⟩ := hb'.rule
                   go_simp
                   all_goals (try rfl))
            simp only [Act.put, List.setIfInBounds_toArray, List.set_cons_zero, List.set_cons_succ]
            try go_ints
            iterate 1
              apply Flow.calm2 _ _ rfl rfl
              · intro w' hb' K' hK'
                obtain ⟨hc', hf'⟩ := hb'.rule
                go_simp
                try go_ints
                exact hK'
              · intro K' hK'
                simp only [Act.put, List.setIfInBounds_toArray, List.set_cons_zero, List.set_cons_succ]
                exact hK'
            iterate 1
              apply Flow.mv _ rfl
              · intro K' hK'
                simp only [Act.put, Act.eval, List.setIfInBounds_toArray, List.set_cons_zero, List.set_cons_succ, arr_getD, List.getD_cons_zero, List.getD_cons_succ]
                exact hK'
            first
              | (apply Flow.pass rfl (by rfl))
              | (apply Flow.calmG _ rfl (by rfl)
                 · intro w' hb'
                   obtain ⟨hc', hf'⟩ := hb'.rule
                   go_simp
                   all_goals (try rfl))
            simp only [Act.put, List.setIfInBounds_toArray, List.set_cons_zero, List.set_cons_succ]
            try go_ints
            first
              | (apply Flow.pass rfl (by rfl))
              | (apply Flow.calmG _ rfl (by rfl)
                 · intro w' hb'
                   obtain ⟨hc', hf'⟩ := hb'.rule
                   go_simp
                   all_goals (try rfl))
            simp only [Act.put, List.setIfInBounds_toArray, List.set_cons_zero, List.set_cons_succ]
            try go_ints
            first
              | (apply Flow.pass rfl (by rfl))
              | (apply Flow.calmG _ rfl (by rfl)
                 · intro w' hb'
                   obtain ⟨hc', hf'⟩ := hb'.rule
                   go_simp
                   all_goals (try rfl))
            simp only [Act.put, List.setIfInBounds_toArray, List.set_cons_zero, List.set_cons_succ]
            try go_ints
            -- a guarded mover
            apply Flow.move rfl
            go_wp2_with fail
            refine (D2.out _ (HA.out.bl (hc11.trans hb14))).mono ?_
            rintro e w15 ⟨rfl, HB3⟩
            go_wp2_with fail
            refine ⟨fun _ => (by first | exact HB3 | exact Bl.refl _), ?_⟩
            first
              | (apply Flow.pass rfl (by rfl))
              | (apply Flow.calmG _ rfl (by rfl)
                 · intro w' hb'
                   obtain ⟨hc', hf'⟩ := hb'.rule
                   go_simp
                   all_goals (try rfl))
            simp only [Act.put, List.setIfInBounds_toArray, List.set_cons_zero, List.set_cons_succ]
            try go_ints
            iterate 1
              apply Flow.calm2 _ _ rfl rfl
              · intro w' hb' K' hK'
                obtain ⟨hc', hf'⟩ := hb'.rule
                go_simp
                try go_ints
                exact hK'
              · intro K' hK'
                simp only [Act.put, List.setIfInBounds_toArray, List.set_cons_zero, List.set_cons_succ]
                exact hK'
            refine Flow.done ?_
            go_wp2_with fail
            go_meet
            case rel => exact hb14.trans HB3
          · have hq : (E != 0) = true := by simp [he]
            rw [hq]
            obtain rfl := HN1.out he
            obtain rfl := HM1.out he
            obtain rfl := HS1.out he
            obtain ⟨rfl, rfl, rfl, rfl, rfl⟩ := XR11.out.2 he
            have kx := bx11.all3
            clear he HN1 HN2 HM1 HM2 HS1 HS2 XR11 C1 C2 C3
            go_wp2_with fail
            refine (noBits_zero _).mono ?_
            rintro e w12 ⟨rfl, hb12⟩
            go_wp2_with fail
            go_meet
            case rel => exact hb12
        case rest =>
          rename World => w16
          have hc16 := hc11.trans hcut
          have k16 := (w21.bl hc16).all3
          clear hcut bx11 XR11 HN1 HN2 HM1 HM2 HS1 HS2 C1 C2 C3 hc11
          go_wp2_with fail
          refine (C4.out _ (HA.out.bl hc16)).mono ?_
          rintro e w17 ⟨u, rfl, hu1, hu2, hb17⟩
          have hc17 := hc16.trans hb17
          have HU1 := Lib.hid hu1; have HU2 := Lib.hid hu2
          clear k16 hu1 hu2 hc16 hb17 C4
          go_upto_region 18 with fail
          go_cut [18] from 134 to 148 (fun s18 wc => s18 = .int .i64 E2 ∧ Bl w17 wc)
          case first =>
            by_cases hp : pageErr bW bH an = 0
            · have hq : (pageErr bW bH an == 0) = true := by simp [hp]
              have hi := Hi.out hp
              subst hi
              have hf : firstNZ [pageErr bW bH an, whenI (!inkB bs an) 10] = E2 := HE2.out.symm
              have Hp := Lib.hid hp
              clear hp
              go_wp2_with (first | (go_at_call 14; refine (when_any _ _ _).mono ?_; rintro e w' ⟨rfl, rfl⟩) | (go_at_call 12; refine (first2_any _ _ _ _ (Blk.new _ _ _)).mono ?_; rintro e w' ⟨rfl, rfl⟩))
              go_meet
              case rel => exact ⟨rfl, (Bl.refl _).alloc _⟩
            · have hq : (pageErr bW bH an == 0) = false := by simp [hp]
              have hf : ∀ x, firstNZ [pageErr bW bH an, x] = E2 := fun x => by rw [HE2.out]; unfold upErr; simp only [firstNZ, if_neg hp]
              have Hp := Lib.hid hp
              clear hp
              go_wp2_with (first | (go_at_call 14; refine (when_any _ _ _).mono ?_; rintro e w' ⟨rfl, rfl⟩) | (go_at_call 12; refine (first2_any _ _ _ _ (Blk.new _ _ _)).mono ?_; rintro e w' ⟨rfl, rfl⟩))
              go_meet
              case rel => exact ⟨rfl, (Bl.refl _).alloc _⟩
          case rest =>
            rename World => w18
            obtain ⟨rfl, hcut⟩ := hcut
            have hc18 := hc17.trans hcut
            clear hcut hc17
            by_cases he : E2 = 0
            · have hq : (E2 != 0) = false := by simp [he]
              have hq2 : (E2 == 0) = true := by simp [he]
              have hu := HU2.out he
              have hp : pageErr bW bH an = 0 := by
                by_cases hp : pageErr bW bH an = 0
                · exact hp
                · have h3 := HE2.out.symm.trans he
                  unfold upErr at h3
                  simp only [firstNZ, if_neg hp] at h3
                  exact absurd h3 hp
              obtain ⟨W, H, rfl, rfl, rfl, u1, u2, u3⟩ := page_nat hp
              simp only [Int.toNat_natCast] at hu
              have s1 := fun P c w h => square_any P W c (colI bs W H) w h (by omega) (fun k => by have := colN_le bs W H k; unfold colI; omega)
              have s2 := fun P c w h => square_any P H c (rowI bs W) w h (by omega) (fun k => by have := rowN_le bs W k; unfold rowI; omega)
              obtain ⟨r, hr⟩ : ∃ r, r = sqN (rowI bs W) H := ⟨_, rfl⟩
              obtain ⟨q, hq'⟩ : ∃ q, q = sqN (colI bs W H) W := ⟨_, rfl⟩
              have hu3 : u = if r < q then 1 else 0 := by rw [hu, hr, hq']; rfl
              clear hu
              have Hu3 := Lib.hid hu3
              clear hu3
              rw [← hq'] at s1
              rw [← hr] at s2
              have S1 := Lib.hid s1; have S2 := Lib.hid s2
              have k18 := (w21.bl hc18).all3
              clear he hp hr hq' s1 s2 HU1 HU2
              go_upto_region 22 with fail
              refine wp_region_flow [(true, 0), (true, 3), (false, 1), (false, 2), (false, 4), (false, 5), (true, 6)] (fun _ => false) (by kernel_rfl) (by kernel_rfl) (by kernel_rfl) (by kernel_rfl) ?_
              iterate 2
                apply Flow.calm2 _ _ rfl rfl
                · intro w' hb' K' hK'
                  obtain ⟨hc', hf'⟩ := hb'.rule
                  go_simp
                  try go_ints
                  exact hK'
                · intro K' hK'
                  simp only [Act.put, List.setIfInBounds_toArray, List.set_cons_zero, List.set_cons_succ]
                  exact hK'
              apply Flow.move rfl
              go_wp2_with fail
              refine (columnsOf_any W H A ac bs _ (HA.out.bl hc18.drew) u1 u2).mono ?_
              rintro e w19 ⟨P, c, rfl, hP, HB1⟩
              have hb19 : Bl w18 w19 := Bl.ofDrew HB1
              go_wp2_with fail
              refine ⟨fun _ => (by first | exact HB1 | exact Bl.refl _), ?_⟩
              apply Flow.move rfl
              go_wp2_with fail
              refine (S1.out P c _ hP).mono ?_
              rintro e w' ⟨rfl, rfl⟩
              go_wp2_with fail
              refine ⟨fun _ => (by first | exact HB2 | exact Bl.refl _), ?_⟩
              apply Flow.move rfl
              go_wp2_with fail
              refine (rowsOf_any W H A ac bs _ (HA.out.bl (hc18.trans hb19)) u1 u2).mono ?_
              rintro e w20 ⟨P2, c2, rfl, hP2, HB3⟩
              go_wp2_with fail
              refine ⟨fun _ => (by first | exact HB3 | exact Bl.refl _), ?_⟩
              apply Flow.move rfl
              go_wp2_with fail
              refine (S2.out P2 c2 _ hP2).mono ?_
              rintro e w' ⟨rfl, rfl⟩
              go_wp2_with fail
              refine ⟨fun _ => (by first | exact HB4 | exact Bl.refl _), ?_⟩
              iterate 1
                apply Flow.calm2 _ _ rfl rfl
                · intro w' hb' K' hK'
                  obtain ⟨hc', hf'⟩ := hb'.rule
                  go_simp
                  try go_ints
                  exact hK'
                · intro K' hK'
                  simp only [Act.put, List.setIfInBounds_toArray, List.set_cons_zero, List.set_cons_succ]
                  exact hK'
              refine Flow.done ?_
              by_cases hlt : r < q
              · have hu := Hu3.out
                rw [if_pos hlt] at hu
                subst hu
                clear Hu3
                go_wp2_with fail
                go_ret
                exact ⟨rfl, ((w2b.trans hc18).trans hb19).trans HB3⟩
              · have hu := Hu3.out
                rw [if_neg hlt] at hu
                subst hu
                clear Hu3
                go_wp2_with fail
                go_ret
                exact ⟨rfl, ((w2b.trans hc18).trans hb19).trans HB3⟩
            · have hq : (E2 != 0) = true := by simp [he]
              obtain rfl := HU1.out he
              clear he
              go_wp2_with fail
              go_ret
              exact ⟨rfl, w2b.trans hc18⟩

end Go.Proofs.Ytccgncjncklheaa
